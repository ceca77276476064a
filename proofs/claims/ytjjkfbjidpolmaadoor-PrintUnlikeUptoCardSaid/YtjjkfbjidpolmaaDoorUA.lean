/- YtjjkfbjidpolmaaDoorUA: part of the proof of this seat, by an AI agent: walks of the functions that the law reaches; the tables; no text is empty; walks of the functions that the law reaches. No condition of its own but those that its theorems state. -/
import Derived.WalkKit
import Derived.Deep.Quiet
import Derived.KernelRfl
import Derived.StillTailTactics
import Derived.Lib.UnsafeStr
import Derived.Lib.AppendStr
import Derived.Lib.LazyBuf
import Derived.Laws.BytesArg
import Derived.Lib.ItoaNum
import Derived.Lib.LaidTab
import Derived.Sort.Grow
import Derived.OrdersHeld
import Derived.StillTail
import Derived.Test.YtjjkfbjidpolmaaDoorProg
import Derived.Lib.ConvBytes
import Derived.Lib.Builder
import Derived.Laws.Externs
import Derived.Laws.Pointers
set_option maxHeartbeats 4000000
set_option linter.unusedVariables false
set_option linter.unusedSimpArgs false
namespace Go.Wk
open Go
/-! ### frames as functions -/
def upd (env : Nat → Value) (d : Nat) (v : Value) : Nat → Value := fun t => bif Nat.beq t d then v else env t
def argE (l : List Value) : Nat → Value := fun t => l.getD t undef
def mkA (n : Nat) (env : Nat → Value) (ds : List Deferred) : Act := ⟨Array.ofFn (n := n) (fun i => env i),ds⟩
section
variable {P : Program} {ops : Array Oper} {Q : Exit → Act → World → Prop} {rest : List Oper} {n d t : Nat} {env : Nat → Value} {ds : List Deferred} {w w' : World} {v : Value}
theorem mkA_get (h : t < n) : (mkA n env ds).tmps[t]? = some (env t) := by simp [mkA,h]
theorem mkA_getD (h : t < n) : (mkA n env ds).tmps.getD t undef = env t := by
  rw [Array.getD_eq_getD_getElem?,mkA_get h]; rfl
theorem ej (h : Nat.blt t n = true) (hv : env t = v) : (mkA n env ds).eval (.tmp t) = v := by
  have h' : t < n := Nat.lt_of_succ_le (by simpa [Nat.blt] using h)
  rw [← hv]; exact mkA_getD h'
theorem ev_c : (mkA n env ds).eval (.const v) = v := rfl
theorem ev_g {g : Nat} : (mkA n env ds).eval (.global g) = .pointer (some ⟨g,0,none⟩) := rfl
theorem ev_f {f : FuncId} : (mkA n env ds).eval (.func f) = .func (.func f) #[] #[] := rfl
theorem put_some : (mkA n env ds).put (some d) v = mkA n (upd env d v) ds := by
  simp only [Act.put,mkA]
  congr 1
  apply Array.ext
  · simp
  · intro i h1 h2
    have hi : i < n := by simpa using h2
    rw [Array.getElem_setIfInBounds (by simpa using hi)]
    simp only [Array.getElem_ofFn,upd]
    by_cases e : d = i
    · subst e; simp
    · have : Nat.beq i d = false := by
        cases hb : Nat.beq i d with
        | false => rfl
        | true => exact absurd (Nat.eq_of_beq_eq_true hb).symm e
      simp [e,this]
theorem put_none : (mkA n env ds).put none v = mkA n env ds := rfl
theorem yielded_at {j : Nat} {b : Bool} (hd : (ops[j]?).bind (·.dst) = some t) (h : Nat.blt t n = true) (hv : env t = .bool b) : yielded ops (mkA n env ds).tmps j = some b := by
  have h' : t < n := Nat.lt_of_succ_le (by simpa [Nat.blt] using h)
  unfold yielded
  rw [hd]
  show (match (mkA n env ds).tmps[t]? with | some (.bool b) => some b | _ => none) = some b
  rw [mkA_get h',hv]
/-- No guard. -/
theorem w0 {o : Oper} {a : Act} (h : o.guard = none) : Region.wanted o (yielded ops a.tmps) = true := by simp [Region.wanted,h]
theorem wy {o : Oper} {j : Nat} {b : Bool} (hg : o.guard = some (j,b)) (hd : (ops[j]?).bind (·.dst) = some t) (h : Nat.blt t n = true) (hv : env t = .bool b) : Region.wanted o (yielded ops (mkA n env ds).tmps) = true := by
  simp [Region.wanted,hg,yielded_at hd h hv]
theorem wn {o : Oper} {j : Nat} {b c : Bool} (hg : o.guard = some (j,b)) (hd : (ops[j]?).bind (·.dst) = some t) (h : Nat.blt t n = true) (hv : env t = .bool c) (hc : (c == b) = false) : Region.wanted o (yielded ops (mkA n env ds).tmps) = false := by
  simp only [Region.wanted,hg,yielded_at hd h hv]
  cases b <;> cases c <;> simp_all
theorem wu {o : Oper} {j : Nat} {b : Bool} (hg : o.guard = some (j,b)) (hd : (ops[j]?).bind (·.dst) = some t) (h : Nat.blt t n = true) (hv : env t = undef) : Region.wanted o (yielded ops (mkA n env ds).tmps) = false := by
  have h' : t < n := Nat.lt_of_succ_le (by simpa [Nat.blt] using h)
  have : yielded ops (mkA n env ds).tmps j = none := by
    unfold yielded
    rw [hd]
    show (match (mkA n env ds).tmps[t]? with | some (.bool b) => some b | _ => none) = none
    rw [mkA_get h',hv]
    rfl
  simp [Region.wanted,hg,this]
/-! ### one operation -/
theorem step_gen {o : Oper} {a : Act} (hw : Region.wanted o (yielded ops a.tmps) = true) (h : ∀ K : Act → World → Prop,(∀ a w,wpList P ops Q rest a w → K a w) → o.wp P a w K Q) : wpList P ops Q (o :: rest) a w :=
  wpList_step fun K hK => by rw [if_pos hw]; exact h K hK
theorem s_val {op : Op} {ty : TypeId} {pos : String} {af : Array Edge} {g : Option (Nat × Bool)} (hw : Region.wanted ⟨some d,op,ty,pos,af,g⟩ (yielded ops (mkA n env ds).tmps) = true)
    (hrun : (execOp (mkA n env ds).eval ⟨some d,op,ty,pos,af,g⟩).run P w = .ok (.value v) w') (k : wpList P ops Q rest (mkA n (upd env d v) ds) w') :
    wpList P ops Q (⟨some d,op,ty,pos,af,g⟩ :: rest) (mkA n env ds) w :=
  step_gen hw fun K hK => by
    unfold Oper.wp
    rw [hrun,Oper.upon_value,put_some]
    exact hK _ _ k
theorem s_unit {op : Op} {ty : TypeId} {pos : String} {af : Array Edge} {g : Option (Nat × Bool)} (hw : Region.wanted ⟨none,op,ty,pos,af,g⟩ (yielded ops (mkA n env ds).tmps) = true)
    (hrun : (execOp (mkA n env ds).eval ⟨none,op,ty,pos,af,g⟩).run P w = .ok .skip w') (k : wpList P ops Q rest (mkA n env ds) w') :
    wpList P ops Q (⟨none,op,ty,pos,af,g⟩ :: rest) (mkA n env ds) w :=
  step_gen hw fun K hK => by
    unfold Oper.wp
    rw [hrun,Oper.upon_skip,put_none]
    exact hK _ _ k
/-- The operation isn't wanted. -/
theorem s_skip {op : Op} {ty : TypeId} {pos : String} {af : Array Edge} {g : Option (Nat × Bool)} (hw : Region.wanted ⟨some d,op,ty,pos,af,g⟩ (yielded ops (mkA n env ds).tmps) = false)
    (k : wpList P ops Q rest (mkA n (upd env d undef) ds) w) : wpList P ops Q (⟨some d,op,ty,pos,af,g⟩ :: rest) (mkA n env ds) w :=
  wpList_step fun K hK => by
    rw [hw,if_neg (by simp)]
    show K ((mkA n env ds).put (some d) undef) w
    rw [put_some]
    exact hK _ _ k
end
end Go.Wk

set_option linter.unusedVariables false
set_option linter.unusedSimpArgs false
namespace Go.Wk
open Go Go.RowKit
/-! ### worlds -/
/-- All old blocks outside S stay. -/
structure Keep (S : Nat → Prop) (w w' : World) : Prop where
  os : w'.os = w.os
  tape : w'.tape = w.tape
  output : w'.output = w.output
  size : w.heap.size ≤ w'.heap.size
  block : ∀ k,k < w.heap.size → ¬ S k → w'.heap[k]? = w.heap[k]?
abbrev Ext (w w' : World) : Prop := Keep (fun _ => False) w w'
theorem Ext.refl (w : World) : Ext w w := ⟨rfl,rfl,rfl,Nat.le_refl _,fun _ _ _ => rfl⟩
theorem Keep.refl (S : Nat → Prop) (w : World) : Keep S w w := ⟨rfl,rfl,rfl,Nat.le_refl _,fun _ _ _ => rfl⟩
theorem Ext.trans {a b c : World} (h : Ext a b) (k : Ext b c) : Ext a c :=
  ⟨k.os.trans h.os,k.tape.trans h.tape,k.output.trans h.output,Nat.le_trans h.size k.size,fun i hi hn => (k.block i (Nat.lt_of_lt_of_le hi h.size) hn).trans (h.block i hi hn)⟩
/-- What the second step writes is new, or may be written. -/
theorem Keep.then_ {S S2 : Nat → Prop} {a b c : World} (h : Keep S a b) (k : Keep S2 b c) (hs : ∀ i,i < a.heap.size → S2 i → S i) : Keep S a c :=
  ⟨k.os.trans h.os,k.tape.trans h.tape,k.output.trans h.output,Nat.le_trans h.size k.size,fun i hi hn => (k.block i (Nat.lt_of_lt_of_le hi h.size) (fun h2 => hn (hs i hi h2))).trans (h.block i hi hn)⟩
theorem Keep.ext {S : Nat → Prop} {a b c : World} (h : Keep S a b) (k : Ext b c) : Keep S a c := h.then_ k (fun _ _ h => h.elim)
theorem Keep.mono {S S2 : Nat → Prop} {a b : World} (h : Keep S a b) (hs : ∀ i,i < a.heap.size → S i → S2 i) : Keep S2 a b := ⟨h.os,h.tape,h.output,h.size,fun i hi hn => h.block i hi (fun h2 => hn (hs i hi h2))⟩
theorem lt_of_blk {w : World} {g : Nat} {o : Obj} (h : w.heap[g]? = some o) : g < w.heap.size := (Array.getElem?_eq_some_iff.1 h).1
theorem Keep.blk {S : Nat → Prop} {a b : World} {g : Nat} {o : Obj} (k : Keep S a b) (h : a.heap[g]? = some o) (hn : ¬ S g) : b.heap[g]? = some o := (k.block g (lt_of_blk h) hn).trans h
theorem Ext.blk {a b : World} {g : Nat} {o : Obj} (k : Ext a b) (h : a.heap[g]? = some o) : b.heap[g]? = some o := Keep.blk k h (fun h => h)
theorem Ext.below {a b : World} (h : Ext a b) : Below a.heap.size a b := ⟨h.os,h.tape,h.output,h.size,fun k hk => h.block k hk (fun h => h)⟩
theorem Ext.of_below {a b : World} (h : Below a.heap.size a b) : Ext a b := ⟨h.os,h.tape,h.output,h.size,fun k hk _ => h.block k hk⟩
theorem ext_alloc (w : World) (o : Obj) : Ext w (w.alloc o) := Ext.of_below ((Below.refl _ _).alloc (Nat.le_refl _) o)
theorem alloc_new (w : World) (o : Obj) : (w.alloc o).heap[w.heap.size]? = some o := by
  show (w.heap.push o)[w.heap.size]? = some o
  simp
theorem alloc_size (w : World) (o : Obj) : (w.alloc o).heap.size = w.heap.size + 1 := by
  show (w.heap.push o).size = _
  simp
theorem cell_of_blk {w : World} {g i : Nat} {cs : Array Value} {t : TypeId} {fz : Nat × Nat} {v : Value} (h : w.heap[g]? = some (.cells cs t fz)) (hc : cs[i]? = some v) : w.cell? ⟨g,i,none⟩ = some v := by
  simp [World.cell?,h,hc]
theorem Keep.cell {S : Nat → Prop} {a b : World} (k : Keep S a b) {x : Addr} {v : Value} (h : a.cell? x = some v) (hn : ¬ S x.block) : b.cell? x = some v := by
  have hl := World.block_lt_of_cell? a x h
  have := k.block x.block hl hn
  simpa [World.cell?,this] using h
theorem Ext.cell {a b : World} (k : Ext a b) {x : Addr} {v : Value} (h : a.cell? x = some v) : b.cell? x = some v := Keep.cell k h (fun h => h)
/-! ### types -/
def isAggD : TypeDesc → Bool
  | .struct _ | .array .. => true
  | _ => false
/-- A one-cell type. -/
def one (P : Program) (t : TypeId) : Bool := match P.underlying t with
  | some d => !isAggD d
  | none => false
/-- A struct or an array of m cells. -/
def many (P : Program) (t : TypeId) (m : Nat) : Bool := match P.underlying t,P.info? t with
  | some d,some i => isAggD d && i.size == m
  | _,_ => false
def fieldAt (P : Program) (s : TypeId) (i off : Nat) : Bool := match P.underlying s with
  | some (.struct fs) => match fs[i]? with
    | some f => f.offset == off && (match P.info? f.type with | some j => j.size != 0 | none => false)
    | none => false
  | _ => false
/-- A slice type whose elements have m cells. -/
def sliceT (P : Program) (t : TypeId) (m : Nat) : Bool := match P.underlying t with
  | some (.slice e) => match P.info? e with
    | some i => i.size == m
    | none => false
  | _ => false
def enterable (P : Program) (f : FuncId) : Bool := match P.funcs[f]? with
  | some fn => fn.name != "runtime.NumGoroutine" && fn.body.isSome
  | none => false
section
variable {P : Program} {ops : Array Oper} {Q : Exit → Act → World → Prop} {rest : List Oper} {n d t : Nat} {env : Nat → Value} {ds : List Deferred} {w w' : World} {v u : Value}
  {ty T : TypeId} {pos : String} {af : Array Edge} {gd : Option (Nat × Bool)} {x y z : Operand}
/-- A new block. -/
def NewB (w : World) (g : Nat) (o : Obj) (w' : World) : Prop := g = w.heap.size ∧ w'.heap.size = w.heap.size + 1 ∧ w'.heap[g]? = some o ∧ Ext w w'
theorem newB (w : World) (o : Obj) : NewB w w.heap.size o (w.alloc o) := ⟨rfl,alloc_size w o,alloc_new w o,ext_alloc w o⟩
theorem s_box {cs : Array Value} (hw : Region.wanted ⟨some d,.box T x,ty,pos,af,gd⟩ (yielded ops (mkA n env ds).tmps) = true) (hx : (mkA n env ds).eval x = v) (hcs : v.cells = cs)
    (k : ∀ w' g,NewB w g (.cells cs T (0,0)) w' → wpList P ops Q rest (mkA n (upd env d (.pointer (some ⟨g,0,none⟩))) ds) w') : wpList P ops Q (⟨some d,.box T x,ty,pos,af,gd⟩ :: rest) (mkA n env ds) w :=
  s_val hw (w' := w.alloc (.cells cs T (0,0))) (by simp [execOp,hx,Instr.box,newVar,newRow,hcs]) (k _ _ (newB w _))
theorem s_alloc {zv : Value} {cs : Array Value} (hw : Region.wanted ⟨some d,.alloc T,ty,pos,af,gd⟩ (yielded ops (mkA n env ds).tmps) = true) (hz : (P.info? T).bind (·.zero) = some zv) (hcs : zv.cells = cs)
    (k : ∀ w' g,NewB w g (.cells cs T (0,0)) w' → wpList P ops Q rest (mkA n (upd env d (.pointer (some ⟨g,0,none⟩))) ds) w') : wpList P ops Q (⟨some d,.alloc T,ty,pos,af,gd⟩ :: rest) (mkA n env ds) w := by
  obtain ⟨i,hi,hz⟩ := Option.bind_eq_some_iff.1 hz
  exact s_val hw (w' := w.alloc (.cells cs T (0,0))) (by simp [execOp,Instr.alloc,zeroValue,typeInfo,hi,hz,newVar,newRow,hcs]) (k _ _ (newB w _))
theorem run_under {D : TypeDesc} (h : P.underlying T = some D) : (underlying T).run P w = .ok D w := Go.run_underlying h w
theorem run_isAgg {D : TypeDesc} (h : P.underlying T = some D) : (isAgg T).run P w = .ok (isAggD D) w := by
  simp only [isAgg]
  cases D <;> simp [run_under h,isAggD]
theorem one_spec (h : one P T = true) : ∃ D,P.underlying T = some D ∧ isAggD D = false := by
  unfold one at h
  cases hu : P.underlying T with
  | none => rw [hu] at h; simp at h
  | some D => rw [hu] at h; exact ⟨D,rfl,by simpa using h⟩
theorem many_spec {m : Nat} (h : many P T m = true) : ∃ D i,P.underlying T = some D ∧ isAggD D = true ∧ P.info? T = some i ∧ i.size = m := by
  unfold many at h
  split at h
  · rename_i D i hu hi
    simp at h
    exact ⟨D,i,hu,h.1,hi,h.2⟩
  · cases h
theorem add0 (g o j : Nat) : (⟨g,o,none⟩ : Addr).add j = ⟨g,o + j,none⟩ := by unfold Addr.add; split <;> simp_all
theorem fieldAt_spec {i off : Nat} (h : fieldAt P T i off = true) : ∃ fs f j,P.underlying T = some (.struct fs) ∧ fs[i]? = some f ∧ f.offset = off ∧ P.info? f.type = some j ∧ j.size ≠ 0 := by
  unfold fieldAt at h
  split at h
  · rename_i fs hu
    split at h
    · rename_i f hf
      simp at h
      obtain ⟨h1,h2⟩ := h
      split at h2
      · rename_i j hj
        exact ⟨fs,f,j,hu,hf,h1,hj,by simpa using h2⟩
      · cases h2
    · cases h
  · cases h
theorem sliceT_spec {m : Nat} (h : sliceT P T m = true) : ∃ e i,P.underlying T = some (.slice e) ∧ P.info? e = some i ∧ i.size = m := by
  unfold sliceT at h
  split at h
  · rename_i e hu
    split at h
    · rename_i i hi
      exact ⟨e,i,hu,hi,by simpa using h⟩
    · cases h
  · cases h
def byteAt (s : ByteArray) (j : Nat) : Nat := (s.data.getD j 0).toNat
/-! comparisons: the answer is told -/
def cmpI : BinOp → Int → Int → Option Bool
  | .eql,a,b => some (decide (a = b))
  | .neq,a,b => some (!decide (a = b))
  | .lss,a,b => some (decide (a < b))
  | .leq,a,b => some (decide (a ≤ b))
  | .gtr,a,b => some (decide (b < a))
  | .geq,a,b => some (decide (b ≤ a))
  | _,_,_ => none
def cmpS : BinOp → ByteArray → ByteArray → Option Bool
  | .eql,a,b => some (decide (a = b))
  | .neq,a,b => some (!decide (a = b))
  | _,_,_ => none
theorem bytes_toList_inj (a b : ByteArray) : (a.toList == b.toList) = decide (a = b) := by
  rw [Bool.eq_iff_iff]
  simp only [beq_iff_eq,decide_eq_true_eq,ByteArray.toList_eq]
  constructor
  · intro h; exact Go.WideShapes.bytes_inj h
  · rintro rfl; rfl
/-- Sums and products of one kind, wrapped. -/
def arI : BinOp → IntKind → Int → Int → Option Int
  | .add,k,a,b => some (k.wrap (a + b))
  | .sub,k,a,b => some (k.wrap (a - b))
  | .mul,k,a,b => some (k.wrap (a * b))
  | _,_,_,_ => none
theorem i64_id {z : Int} (h1 : -9223372036854775808 ≤ z) (h2 : z ≤ 9223372036854775807) : IntKind.i64.wrap z = z := Go.IntWalk.i64_in z ⟨h1,h2⟩
/-! ### calls -/
def Rt (P : Program) (F : FuncId) (args : Array Value) (w : World) (T : Value → World → Prop) : Prop := Calls P F args w fun e w' => ∃ v,e = .returned v ∧ T v w'
theorem Rt.mono {F : FuncId} {args : Array Value} {T1 T2 : Value → World → Prop} (h : Rt P F args w T1) (k : ∀ v w',T1 v w' → T2 v w') : Rt P F args w T2 :=
  Calls.mono h fun _ _ ⟨v,he,ht⟩ => ⟨v,he,k v _ ht⟩
theorem enter_spec {F : FuncId} (h : enterable P F = true) : ∃ fn, P.funcs[F]? = some fn ∧ (fn.name == "runtime.NumGoroutine") = false ∧ fn.body.isNone = false := by
  unfold enterable at h
  split at h
  · rename_i fn hf
    simp at h
    refine ⟨fn,hf,by simpa using h.1,?_⟩
    cases hb : fn.body <;> simp_all
  · cases h
theorem run_callFunc {F : FuncId} (h : enterable P F = true) (args : Array Value) : (callFunc F args).run P w = .ok (.enter F args) w := by
  obtain ⟨fn,hf,h1,h2⟩ := enter_spec h
  simp only [callFunc,Sem.run_bind,run_program,Result.andThen_ok]
  rw [hf]
  simp [h1,h2]
theorem s_call {F : FuncId} {first captured args vs : Array Value} {xs : Array Operand} {ts : Array TypeId} {Tc : Value → World → Prop} (he : enterable P F = true)
    (hw : Region.wanted ⟨some d,.call ⟨.value x,xs,ts⟩,ty,pos,af,gd⟩ (yielded ops (mkA n env ds).tmps) = true) (hx : (mkA n env ds).eval x = .func (.func F) first captured) (hxs : xs.map (mkA n env ds).eval = vs) (ha : first ++ vs ++ captured = args)
    (hC : Rt P F args w Tc) (k : ∀ v w',Tc v w' → wpList P ops Q rest (mkA n (upd env d v) ds) w') : wpList P ops Q (⟨some d,.call ⟨.value x,xs,ts⟩,ty,pos,af,gd⟩ :: rest) (mkA n env ds) w :=
  step_gen hw fun K hK => by
    unfold Oper.wp
    have hrun : (execOp (mkA n env ds).eval ⟨some d,.call ⟨.value x,xs,ts⟩,ty,pos,af,gd⟩).run P w = .ok (.enter F args) w := by
      simp only [execOp,resolve,hx,hxs,Deferred.ofValue,Sem.run_bind,Sem.run_pure,Result.andThen_ok,invoke]
      rw [ha]
      exact run_callFunc he args
    rw [hrun,Oper.upon_enter]
    refine Calls.mono hC ?_
    rintro e w' ⟨v,rfl,ht⟩
    show K ((mkA n env ds).put (some d) v) w'
    rw [put_some]
    exact hK _ _ (k v w' ht)
theorem m0 {f : Operand → Value} : (#[] : Array Operand).map f = #[] := by simp
theorem m1 {f : Operand → Value} {v1 : Value} {x1 : Operand} (h1 : f x1 = v1) : #[x1].map f = #[v1] := by simp [h1]
theorem m2 {f : Operand → Value} {v1 v2 : Value} {x1 x2 : Operand} (h1 : f x1 = v1) (h2 : f x2 = v2) : #[x1,x2].map f = #[v1,v2] := by simp [h1,h2]
theorem m3 {f : Operand → Value} {v1 v2 v3 : Value} {x1 x2 x3 : Operand} (h1 : f x1 = v1) (h2 : f x2 = v2) (h3 : f x3 = v3) : #[x1,x2,x3].map f = #[v1,v2,v3] := by simp [h1,h2,h3]
theorem m4 {f : Operand → Value} {v1 v2 v3 v4 : Value} {x1 x2 x3 x4 : Operand} (h1 : f x1 = v1) (h2 : f x2 = v2) (h3 : f x3 = v3) (h4 : f x4 = v4) : #[x1,x2,x3,x4].map f = #[v1,v2,v3,v4] := by simp [h1,h2,h3,h4]
/-! ### entering, returning -/
theorem enter {F : FuncId} {fn : Func} {c : Code} {args : Array Value} {R : Ending → World → Prop} (hf : P.funcs[F]? = some fn) (hb : fn.body = some c) {l : List Value} (hl : args = l.toArray) {m : Nat} (hn : fn.ntmps = m) (hm : l.length ≤ m)
    (h : c.wp P (bodyPost P fn R) (mkA m (argE l) []) w) : Calls P F args w R := by
  refine calls_of_wp hf hb ?_
  have : args ++ Array.replicate (fn.ntmps - args.size) undef = Array.ofFn (n := m) (fun i => argE l i) := by
    subst hl hn
    apply Array.ext
    · simp; omega
    · intro i h1 h2
      have hi : i < fn.ntmps := by simpa using h2
      simp only [Array.getElem_ofFn,argE,Array.getElem_append]
      split
      · rename_i h3
        have h3' : i < l.length := by simpa using h3
        simp [List.getD_eq_getElem?_getD,h3']
      · rename_i h3
        have h3' : l.length ≤ i := by simpa using h3
        simp [List.getD_eq_getElem?_getD,h3']
  rw [this]
  exact h
theorem ret1 {fn : Func} {R : Ending → World → Prop} (hr : fn.results = #[.tmp t]) (ht : Nat.blt t n = true) (hv : env t = v) (hR : R (.returned v) w) : bodyPost P fn R .ret (mkA n env []) w := by
  have h' : t < n := Nat.lt_of_succ_le (by simpa [Nat.blt] using ht)
  refine bodyPost_ret (results_tmp hr _ _ _) rfl ?_
  rw [mkA_getD h',hv]
  exact hR
theorem ret2 {fn : Func} {R : Ending → World → Prop} {t2 : Nat} {v2 : Value} (hr : fn.results = #[.tmp t,.tmp t2]) (ht : Nat.blt t n = true) (ht2 : Nat.blt t2 n = true) (hv : env t = v) (hv2 : env t2 = v2) (hR : R (.returned (.tuple #[v,v2])) w) : bodyPost P fn R .ret (mkA n env []) w := by
  have h' : t < n := Nat.lt_of_succ_le (by simpa [Nat.blt] using ht)
  have h2' : t2 < n := Nat.lt_of_succ_le (by simpa [Nat.blt] using ht2)
  refine bodyPost_ret (results_tmp2 hr _ _ _) rfl ?_
  rw [mkA_getD h',hv,mkA_getD h2',hv2]
  exact hR
theorem ret0 {fn : Func} {R : Ending → World → Prop} (hr : fn.results = #[]) (hR : R (.returned (.tuple #[])) w) : bodyPost P fn R .normal (mkA n env []) w :=
  bodyPost_end (results_none hr _ _ _) rfl hR
theorem ret0r {fn : Func} {R : Ending → World → Prop} (hr : fn.results = #[]) (hR : R (.returned (.tuple #[])) w) : bodyPost P fn R .ret (mkA n env []) w :=
  bodyPost_ret (results_none hr _ _ _) rfl hR
theorem c_cond1 {c : Operand} {a b : Code} (hc : (mkA n env ds).eval c = .bool true) (h1 : a.wp P Q (mkA n env ds) w) : (Code.cond c a b).wp P Q (mkA n env ds) w := wp_cond_true hc h1
theorem c_cond0 {c : Operand} {a b : Code} (hc : (mkA n env ds).eval c = .bool false) (h0 : b.wp P Q (mkA n env ds) w) : (Code.cond c a b).wp P Q (mkA n env ds) w := wp_cond_false hc h0
theorem c_seq {a b : Code} {act : Act} (h : a.wp P (Exit.then (b.wp P Q) Q) act w) : (Code.seq a b).wp P Q act w := wp_seq h
theorem c_reg {id : Nat} {l : List Oper} {act : Act} (h : wpList P l.toArray Q l act w) : (Code.region id l.toArray false).wp P Q act w := wp_region_lit h
theorem c_done {act : Act} (h : Q .normal act w) : wpList P ops Q [] act w := h
theorem n_then {K : Act → World → Prop} {act : Act} (h : K act w) : Exit.then K Q .normal act w := h
theorem r_then {K : Act → World → Prop} {act : Act} (h : Q .ret act w) : Exit.then K Q .ret act w := h
theorem e_then {K : Act → World → Prop} {act : Act} {i : Nat} (h : Q (.exit i) act w) : Exit.then K Q (.exit i) act w := h
theorem n_block {act : Act} {i : Nat} (h : Q .normal act w) : Exit.inBlock i Q .normal act w := h
theorem r_block {act : Act} {i : Nat} (h : Q .ret act w) : Exit.inBlock i Q .ret act w := h
theorem e_hit {act : Act} {i : Nat} (h : Q .normal act w) : Exit.inBlock i Q (.exit i) act w := by simp only [Exit.inBlock,if_pos rfl]; exact h
theorem c_skip {act : Act} (h : Q .normal act w) : Code.skip.wp P Q act w := wp_skip h
theorem c_exit {act : Act} {i : Nat} (h : Q (.exit i) act w) : (Code.exit i).wp P Q act w := wp_exit h
theorem c_ret {act : Act} (h : Q .ret act w) : Code.ret.wp P Q act w := wp_ret h
theorem c_block {act : Act} {i : Nat} {c : Code} (h : c.wp P (Exit.inBlock i Q) act w) : (Code.block i c).wp P Q act w := wp_block h
theorem c_loop {c : Code} {α : Type} (I : α → (Nat → Value) → World → Prop) (μ : α → Nat) (x0 : α) (h0 : I x0 env w)
    (round : ∀ x env w,I x env w → c.wp P (Exit.then (fun a' w' => ∃ x' env',a' = mkA n env' ds ∧ I x' env' w' ∧ μ x' < μ x) Q) (mkA n env ds) w) : (Code.loop c).wp P Q (mkA n env ds) w := by
  intro b k cs
  have key : ∀ m (x : α) env w,μ x = m → I x env w →
      ∃ e a' w',Q e a' w' ∧ Arrives P (lone (b.at (mkA n env ds) (.code c :: .inLoop c :: k)) cs w) b k cs e a' w' := by
    intro m
    induction m using Nat.strongRecOn with
    | _ m ih =>
      intro x env w hm hI
      obtain ⟨e,a₁,w₁,hq,harr⟩ := round x env w hI b (.inLoop c :: k) cs
      cases e with
      | normal =>
        obtain ⟨x',env',rfl,hI',hlt⟩ := hq
        obtain ⟨e₂,a₂,w₂,hq₂,harr₂⟩ := ih (μ x') (hm ▸ hlt) x' env' w₁ rfl hI'
        exact ⟨e₂,a₂,w₂,hq₂,.of_steps (Steps.trans harr (.one step_inLoop)) harr₂⟩
      | exit id => exact ⟨_,a₁,w₁,hq,.pass (x := .inLoop c) rfl (fun _ _ => .inl (by simp)) harr⟩
      | goto l => exact ⟨_,a₁,w₁,hq,.pass (x := .inLoop c) rfl (fun _ _ => .inl (by simp)) harr⟩
      | ret => exact ⟨_,a₁,w₁,hq,.pass (x := .inLoop c) rfl (fun _ _ => .inl (by simp)) harr⟩
      | panic ch => exact ⟨_,a₁,w₁,hq,.pass (x := .inLoop c) rfl (fun _ _ => .inl (by simp)) harr⟩
      | outgrown => exact ⟨_,a₁,w₁,hq,.pass (x := .inLoop c) rfl (fun _ _ => .inl (by simp)) harr⟩
  obtain ⟨e,a',w',hq,harr⟩ := key _ x0 env w rfl h0
  exact ⟨e,a',w',hq,.of_steps (.one step_loop) harr⟩
end
end Go.Wk

set_option linter.unusedVariables false
set_option linter.unusedSimpArgs false
namespace Go.Wk
open Go Go.RowKit
def arrayT (P : Program) (t : TypeId) (ln m : Nat) : Bool := match P.underlying t with
  | some (.array k e) => k == ln && 2 ≤ ln && (match P.info? e with
    | some i => i.size == m
    | none => false)
  | _ => false
theorem arrayT_spec {P : Program} {T : TypeId} {ln m : Nat} (h : arrayT P T ln m = true) : ∃ e i,P.underlying T = some (.array ln e) ∧ P.info? e = some i ∧ i.size = m := by
  unfold arrayT at h
  split at h
  · rename_i k e hu
    simp only [Bool.and_eq_true,beq_iff_eq] at h
    obtain ⟨⟨rfl,_⟩,h⟩ := h
    split at h
    · rename_i i hi
      exact ⟨e,i,hu,hi,by simpa using h⟩
    · cases h
  · cases h
section
variable {P : Program} {ops : Array Oper} {Q : Exit → Act → World → Prop} {C : World → Prop} {Q' : Act → Prop} {rest : List Oper} {n d t : Nat} {env : Nat → Value} {ds : List Deferred} {w w' : World} {v u : Value}
/-- In a region of open order, over a class of worlds. -/
theorem q_val {op : Op} {ty : TypeId} {pos : String} {af : Array Edge} {g : Option (Nat × Bool)} (hw : Region.wanted ⟨some d,op,ty,pos,af,g⟩ (yielded ops (mkA n env ds).tmps) = true)
    (hrun : ∀ w,C w → (execOp (mkA n env ds).eval ⟨some d,op,ty,pos,af,g⟩).run P w = .ok (.value v) w) (k : wpQuiet P ops C Q' rest (mkA n (upd env d v) ds)) :
    wpQuiet P ops C Q' (⟨some d,op,ty,pos,af,g⟩ :: rest) (mkA n env ds) :=
  wpQuiet_step fun K hK => by
    rw [if_pos hw]
    refine ⟨v,fun w hC => ?_,?_⟩
    · unfold Oper.quietAt
      rw [hrun w hC]
      exact ⟨rfl,rfl⟩
    · show K ((mkA n env ds).put (some d) v)
      rw [put_some]
      exact hK _ k
theorem q_skip {op : Op} {ty : TypeId} {pos : String} {af : Array Edge} {g : Option (Nat × Bool)} (hw : Region.wanted ⟨some d,op,ty,pos,af,g⟩ (yielded ops (mkA n env ds).tmps) = false)
    (k : wpQuiet P ops C Q' rest (mkA n (upd env d undef) ds)) : wpQuiet P ops C Q' (⟨some d,op,ty,pos,af,g⟩ :: rest) (mkA n env ds) :=
  wpQuiet_step fun K hK => by
    rw [hw,if_neg (by simp)]
    show K ((mkA n env ds).put (some d) undef)
    rw [put_some]
    exact hK _ k
theorem q_call {F : FuncId} {first captured args vs : Array Value} {xs : Array Operand} {ts : Array TypeId} {ty : TypeId} {pos : String} {af : Array Edge} {gd : Option (Nat × Bool)} {x : Operand} (he : enterable P F = true)
    (hw : Region.wanted ⟨some d,.call ⟨.value x,xs,ts⟩,ty,pos,af,gd⟩ (yielded ops (mkA n env ds).tmps) = true) (hx : (mkA n env ds).eval x = .func (.func F) first captured) (hxs : xs.map (mkA n env ds).eval = vs) (ha : first ++ vs ++ captured = args)
    (hC : ∀ w,C w → Rt P F args w (fun v' w' => v' = v ∧ C w')) (k : wpQuiet P ops C Q' rest (mkA n (upd env d v) ds)) : wpQuiet P ops C Q' (⟨some d,.call ⟨.value x,xs,ts⟩,ty,pos,af,gd⟩ :: rest) (mkA n env ds) :=
  wpQuiet_step fun K hK => by
    rw [if_pos hw]
    refine ⟨v,fun w hw' => ?_,?_⟩
    · unfold Oper.quietAt
      have hrun : (execOp (mkA n env ds).eval ⟨some d,.call ⟨.value x,xs,ts⟩,ty,pos,af,gd⟩).run P w = .ok (.enter F args) w := by
        simp only [execOp,resolve,hx,hxs,Deferred.ofValue,Sem.run_bind,Sem.run_pure,Result.andThen_ok,invoke]
        rw [ha]
        exact run_callFunc he args
      rw [hrun]
      refine ⟨rfl,Calls.mono (hC w hw') ?_⟩
      rintro e w'' ⟨v',rfl,rfl,hc⟩
      exact ⟨rfl,hc⟩
    · show K ((mkA n env ds).put (some d) v)
      rw [put_some]
      exact hK _ k
theorem q_done {a : Act} (h : Q' a) : wpQuiet P ops C Q' [] a := wpQuiet_nil h
/-- A region of open order, all of whose operations are quiet over the extensions of w. -/
theorem c_quiet {id : Nat} {l : List Oper} {a : Act} (hm : P.follows .mixedOrders = true) (hB : Region.lexB .any l.toArray = true) (h : wpQuiet P l.toArray (Ext w) (fun a' => ∀ w',Ext w w' → Q .normal a' w') l a) : (Code.region id l.toArray true).wp P Q a w :=
  wp_region_quiet (C := Ext w) hm hB ⟨rfl,rfl,rfl,Nat.le_refl _,fun _ _ _ => rfl⟩ (by simpa using h)
/-- .. a head that leaves the world, then a tail in its order. -/
theorem t_val {op : Op} {ty : TypeId} {pos : String} {af : Array Edge} {g : Option (Nat × Bool)} (hw : Region.wanted ⟨some d,op,ty,pos,af,g⟩ (yielded ops (mkA n env ds).tmps) = true)
    (hrun : (execOp (mkA n env ds).eval ⟨some d,op,ty,pos,af,g⟩).run P w = .ok (.value v) w) (k : wpStill P ops w Q' rest (mkA n (upd env d v) ds)) :
    wpStill P ops w Q' (⟨some d,op,ty,pos,af,g⟩ :: rest) (mkA n env ds) :=
  wpStill_step fun K hK => by
    rw [if_pos hw]
    unfold Oper.still
    rw [hrun,Oper.stillUpon_value]
    show K ((mkA n env ds).put (some d) v)
    rw [put_some]
    exact hK _ k
theorem t_skip {op : Op} {ty : TypeId} {pos : String} {af : Array Edge} {g : Option (Nat × Bool)} (hw : Region.wanted ⟨some d,op,ty,pos,af,g⟩ (yielded ops (mkA n env ds).tmps) = false)
    (k : wpStill P ops w Q' rest (mkA n (upd env d undef) ds)) : wpStill P ops w Q' (⟨some d,op,ty,pos,af,g⟩ :: rest) (mkA n env ds) :=
  wpStill_step fun K hK => by
    rw [hw,if_neg (by simp)]
    show K ((mkA n env ds).put (some d) undef)
    rw [put_some]
    exact hK _ k
theorem t_done {a : Act} (h : Q' a) : wpStill P ops w Q' [] a := wpStill_nil h
theorem drawn_ext (w : World) : Ext w { w with drawn := w.drawn + 1 } := ⟨rfl,rfl,rfl,Nat.le_refl _,fun _ _ _ => rfl⟩
theorem c_tail {id : Nat} {l : List Oper} {a : Act} (m : Nat) {h1 h2 : List Oper} (hm : P.follows .mixedOrders = true) (hB : Region.lexTailB .any l.toArray m = true) (e1 : l.take m = h1) (e2 : l.drop m = h2)
    (h : ∀ wd,Ext w wd → wpStill P l.toArray wd (fun a' => wpList P l.toArray Q h2 a' wd) h1 a) : (Code.region id l.toArray true).wp P Q a w := by
  subst e1 e2
  exact wp_region_still_tail m hm hB (h _ (drawn_ext w))
end
section
variable {P : Program} {ops : Array Oper} {Q : Exit → Act → World → Prop} {C : World → Prop} {Q' : Act → Prop} {rest : List Oper} {n d t : Nat} {env : Nat → Value} {ds : List Deferred} {w w' : World} {v u : Value}
  {ty T : TypeId} {pos : String} {af : Array Edge} {gd : Option (Nat × Bool)} {x y z : Operand}
theorem r_move (hx : (mkA n env ds).eval x = v) : (execOp (mkA n env ds).eval ⟨some d,.move x,ty,pos,af,gd⟩).run P w = .ok (.value v) w := by rw [← hx]; rfl
theorem r_assign (hx : (mkA n env ds).eval x = v) : (execOp (mkA n env ds).eval ⟨some d,.assign x,ty,pos,af,gd⟩).run P w = .ok (.value v) w := by rw [← hx]; rfl
theorem r_pick1 (hx : (mkA n env ds).eval x = .bool true) (hy : (mkA n env ds).eval y = v) : (execOp (mkA n env ds).eval ⟨some d,.pick x y z,ty,pos,af,gd⟩).run P w = .ok (.value v) w := by simp [execOp,hx,hy,asBool]
theorem r_pick0 (hx : (mkA n env ds).eval x = .bool false) (hz : (mkA n env ds).eval z = v) : (execOp (mkA n env ds).eval ⟨some d,.pick x y z,ty,pos,af,gd⟩).run P w = .ok (.value v) w := by simp [execOp,hx,hz,asBool]
theorem r_load (h1 : one P T = true) {ad : Addr} (hx : (mkA n env ds).eval x = .pointer (some ad)) (hc : w.cell? ad = some v) : (execOp (mkA n env ds).eval ⟨some d,.load T x,ty,pos,af,gd⟩).run P w = .ok (.value v) w := by
  obtain ⟨D,hu,hD⟩ := one_spec h1
  simp [execOp,hx,Instr.loadAt,Instr.sureAddr,loadVar,run_isAgg hu,hD,hc]
theorem r_loadL {m b o : Nat} {cs : List Value} {ca : Array Value} (h1 : many P T m = true) (hx : (mkA n env ds).eval x = .pointer (some ⟨b,o,none⟩)) (hs : cs.length = m) (hca : ca = cs.toArray) (hc : ∀ (i : Nat) u,cs[i]? = some u → w.cell? ⟨b,o + i,none⟩ = some u) : (execOp (mkA n env ds).eval ⟨some d,.load T x,ty,pos,af,gd⟩).run P w = .ok (.value (.agg ca)) w := by
  subst hca
  obtain ⟨D,i,hu,hD,hi,hz⟩ := many_spec h1
  have hl : (loadCells ⟨b,o,none⟩ m).run P w = .ok cs.toArray w := by
    have := run_loadCells_list (P := P) (w := w) ⟨b,o,none⟩ cs (fun j v hv => by rw [add0]; exact hc j v hv)
    simpa [hs] using this
  simp [execOp,hx,Instr.loadAt,Instr.sureAddr,loadVar,run_isAgg hu,hD,sizeOf,typeInfo,hi,hz,hl]
theorem r_field {i off g o o' : Nat} (h1 : fieldAt P T i off = true) (hx : (mkA n env ds).eval x = .pointer (some ⟨g,o,none⟩)) (ho : o + off = o') : (execOp (mkA n env ds).eval ⟨some d,.fieldAddr T x i,ty,pos,af,gd⟩).run P w = .ok (.value (.pointer (some ⟨g,o',none⟩))) w := by
  obtain ⟨fs,f,j,hu,hf,hof,hj,hz⟩ := fieldAt_spec h1
  simp [execOp,hx,Instr.fieldAt,run_under hu,hf,Instr.sureAddr,fieldPlace,sizeOf,typeInfo,hj,hz,add0,hof,ho]
theorem r_index {m b o ln cap j : Nat} {kk : IntKind} {jv : Int} (h1 : sliceT P T m = true) (hx : (mkA n env ds).eval x = .slice (some ⟨b,o,none⟩) ln cap) (hy : (mkA n env ds).eval y = .int kk jv) (hj : jv = (j : Int)) (hl : j < ln) : (execOp (mkA n env ds).eval ⟨some d,.indexAddr T x y,ty,pos,af,gd⟩).run P w = .ok (.value (.pointer (some ⟨b,o + j * m,none⟩))) w := by
  obtain ⟨e,i,hu,hi,hz⟩ := sliceT_spec h1
  subst hj
  simp [execOp,hx,hy,Instr.indexAt,asIntOf,run_under hu,hl,sizeOf,typeInfo,hi,hz,add0]
theorem r_indexR {m ln cap j b o : Nat} {A : Option Addr} {kk : IntKind} {jv : Int} (h1 : sliceT P T m = true) (hx : (mkA n env ds).eval x = .slice A ln cap) (hA : A = some ⟨b,o,none⟩) (hy : (mkA n env ds).eval y = .int kk jv) (hj : jv = (j : Int)) (hl : j < ln) : (execOp (mkA n env ds).eval ⟨some d,.indexAddr T x y,ty,pos,af,gd⟩).run P w = .ok (.value (.pointer (some ⟨b,o + j * m,none⟩))) w := r_index h1 (hA ▸ hx) hy hj hl
theorem r_indexA {m g o ln j : Nat} {kk : IntKind} {jv : Int} (h1 : arrayT P T ln m = true) (hx : (mkA n env ds).eval x = .pointer (some ⟨g,o,none⟩)) (hy : (mkA n env ds).eval y = .int kk jv) (hj : jv = (j : Int)) (hl : j < ln) : (execOp (mkA n env ds).eval ⟨some d,.indexAddr T x y,ty,pos,af,gd⟩).run P w = .ok (.value (.pointer (some ⟨g,o + j * m,none⟩))) w := by
  obtain ⟨e,i,hu,hi,hz⟩ := arrayT_spec h1
  subst hj
  simp [execOp,hx,hy,Instr.indexAt,asIntOf,run_under hu,hl,sizeOf,typeInfo,hi,hz,add0,Instr.sureAddr]
theorem r_byte {j : Nat} {s : ByteArray} {kk : IntKind} {jv : Int} (h1 : P.underlying T = some .string) (hx : (mkA n env ds).eval x = .string s) (hy : (mkA n env ds).eval y = .int kk jv) (hj : jv = (j : Int)) (hl : j < s.size) : (execOp (mkA n env ds).eval ⟨some d,.index T x y,ty,pos,af,gd⟩).run P w = .ok (.value (.int .u8 (byteAt s j))) w := by
  subst hj
  have hb : s[j]? = some (s.data.getD j 0) := by
    have : j < s.data.size := hl
    have hl2 : j < s.size := hl
    rw [getElem?_pos s j hl2]
    simp only [Array.getD,dif_pos this]
    rfl
  simp [execOp,hx,hy,Instr.index,asIntOf,run_under h1,hb,byteAt]
theorem r_lenS {s : ByteArray} (h1 : P.underlying T = some .string) (hx : (mkA n env ds).eval x = .string s) : (execOp (mkA n env ds).eval ⟨some d,.call ⟨.builtin .len,#[x],#[T]⟩,ty,pos,af,gd⟩).run P w = .ok (.value (.int .i64 s.size)) w := by simp [execOp,resolve,invoke,builtin,Builtin.len_,hx,run_under h1,goInt]
theorem r_lenL {m ln cap : Nat} {A : Option Addr} (h1 : sliceT P T m = true) (hx : (mkA n env ds).eval x = .slice A ln cap) : (execOp (mkA n env ds).eval ⟨some d,.call ⟨.builtin .len,#[x],#[T]⟩,ty,pos,af,gd⟩).run P w = .ok (.value (.int .i64 ln)) w := by
  obtain ⟨e,i,hu,hi,hz⟩ := sliceT_spec h1
  simp [execOp,resolve,invoke,builtin,Builtin.len_,hx,run_under hu,goInt]
theorem r_extract {l : Array Value} {j : Nat} (hx : (mkA n env ds).eval x = .tuple l) (hv : l[j]? = some v) : (execOp (mkA n env ds).eval ⟨some d,.extract x j,ty,pos,af,gd⟩).run P w = .ok (.value v) w := by simp [execOp,hx,Instr.extract,hv]
theorem r_not {b : Bool} (hx : (mkA n env ds).eval x = .bool b) : (execOp (mkA n env ds).eval ⟨some d,.unOp .not T x,ty,pos,af,gd⟩).run P w = .ok (.value (.bool (!b))) w := by simp [execOp,hx,Op.unary]
theorem r_cmp {op : BinOp} {kk : IntKind} {a b : Int} {r : Bool} {T2 : TypeId} (hx : (mkA n env ds).eval x = .int kk a) (hy : (mkA n env ds).eval y = .int kk b) (hr : cmpI op a b = some r) : (execOp (mkA n env ds).eval ⟨some d,.binOp op T x y T2,ty,pos,af,gd⟩).run P w = .ok (.value (.bool r)) w := by
  have e1 : (a == b) = decide (a = b) := by rw [Bool.eq_iff_iff]; simp
  cases op <;> simp only [cmpI,Option.some.injEq,reduceCtorEq] at hr <;> subst hr <;> simp [execOp,hx,hy,eqGuard,binOp,Op.intCmp,e1,bne,GT.gt,GE.ge]
theorem r_cmpS {op : BinOp} {a b : ByteArray} {r : Bool} {T2 : TypeId} (hx : (mkA n env ds).eval x = .string a) (hy : (mkA n env ds).eval y = .string b) (hr : cmpS op a b = some r) : (execOp (mkA n env ds).eval ⟨some d,.binOp op T x y T2,ty,pos,af,gd⟩).run P w = .ok (.value (.bool r)) w := by
  cases op <;> simp only [Wk.cmpS,Option.some.injEq,reduceCtorEq] at hr <;> subst hr <;> simp [execOp,hx,hy,eqGuard,binOp,Op.stringOp,bytes_toList_inj]
theorem r_cmpG {op : BinOp} {a b : Value} {r : Bool} {T2 : TypeId} (hx : (mkA n env ds).eval x = a) (hy : (mkA n env ds).eval y = b) (hr : ∀ w,(do eqGuard op T x y a b; binOp op T a b : Sem Value).run P w = .ok (.bool r) w) : (execOp (mkA n env ds).eval ⟨some d,.binOp op T x y T2,ty,pos,af,gd⟩).run P w = .ok (.value (.bool r)) w := by
  have := hr w
  simp only [execOp,hx,hy]
  rw [Sem.run_bind,this]
  rfl
theorem r_cat {a b : ByteArray} {T2 : TypeId} (hx : (mkA n env ds).eval x = .string a) (hy : (mkA n env ds).eval y = .string b) (hs : a.size + b.size ≤ 9223372036854775807) : (execOp (mkA n env ds).eval ⟨some d,.binOp .add T x y T2,ty,pos,af,gd⟩).run P w = .ok (.value (.string (a ++ b))) w := by
  have : ¬ (((a.size + b.size : Nat) : Int) > IntKind.i64.max) := by
    have : IntKind.i64.max = 9223372036854775807 := by decide
    omega
  simp only [execOp,hx,hy,eqGuard,binOp,Op.stringOp,if_neg this]
  simp
theorem r_ar {op : BinOp} {kk : IntKind} {a b r : Int} {T2 : TypeId} (hx : (mkA n env ds).eval x = .int kk a) (hy : (mkA n env ds).eval y = .int kk b) (hr : arI op kk a b = some r) : (execOp (mkA n env ds).eval ⟨some d,.binOp op T x y T2,ty,pos,af,gd⟩).run P w = .ok (.value (.int kk r)) w := by
  cases op <;> simp only [arI,Option.some.injEq,reduceCtorEq] at hr <;> subst hr <;> simp [execOp,hx,hy,eqGuard,binOp,Op.intArith]
theorem r_add {a b r : Int} {T2 : TypeId} (hx : (mkA n env ds).eval x = .int .i64 a) (hy : (mkA n env ds).eval y = .int .i64 b) (hr : a + b = r) (h1 : -9223372036854775808 ≤ r ∧ r ≤ 9223372036854775807) : (execOp (mkA n env ds).eval ⟨some d,.binOp .add T x y T2,ty,pos,af,gd⟩).run P w = .ok (.value (.int .i64 r)) w := r_ar hx hy (by simp only [arI]; rw [hr,i64_id h1.1 h1.2])
theorem r_sub {a b r : Int} {T2 : TypeId} (hx : (mkA n env ds).eval x = .int .i64 a) (hy : (mkA n env ds).eval y = .int .i64 b) (hr : a - b = r) (h1 : -9223372036854775808 ≤ r ∧ r ≤ 9223372036854775807) : (execOp (mkA n env ds).eval ⟨some d,.binOp .sub T x y T2,ty,pos,af,gd⟩).run P w = .ok (.value (.int .i64 r)) w := r_ar hx hy (by simp only [arI]; rw [hr,i64_id h1.1 h1.2])
theorem r_build {ps : Array (Nat × Operand)} {vs : List (Nat × Value)} (hv : (ps.map fun p => (p.1,(mkA n env ds).eval p.2)) = vs.toArray) (h1 : ∀ w,(Instr.build T vs.toArray).run P w = .ok v w) : (execOp (mkA n env ds).eval ⟨some d,.build T ps,ty,pos,af,gd⟩).run P w = .ok (.value v) w := by
  have := h1 w
  simp only [execOp,hv]
  rw [Sem.run_bind,this]
  rfl
theorem r_makeFunc {fn : Fn} {fs cs : Array Operand} {vf vc : Array Value} (hf : fs.map (mkA n env ds).eval = vf) (hc : cs.map (mkA n env ds).eval = vc) : (execOp (mkA n env ds).eval ⟨some d,.makeFunc fn fs cs,ty,pos,af,gd⟩).run P w = .ok (.value (.func fn vf vc)) w := by simp only [execOp,hf,hc,Instr.makeFunc]; rfl
theorem r_nilCheck {ad : Addr} (hx : (mkA n env ds).eval x = .pointer (some ad)) : (execOp (mkA n env ds).eval ⟨some d,.nilCheck x,ty,pos,af,gd⟩).run P w = .ok (.value (.pointer (some ad))) w := by simp [execOp,hx]
theorem s_move (hx : (mkA n env ds).eval x = v) (hw : Region.wanted ⟨some d,.move x,ty,pos,af,gd⟩ (yielded ops (mkA n env ds).tmps) = true) (k : wpList P ops Q rest (mkA n (upd env d v) ds) w) : wpList P ops Q (⟨some d,.move x,ty,pos,af,gd⟩ :: rest) (mkA n env ds) w := s_val hw (r_move hx) k
theorem s_assign (hx : (mkA n env ds).eval x = v) (hw : Region.wanted ⟨some d,.assign x,ty,pos,af,gd⟩ (yielded ops (mkA n env ds).tmps) = true) (k : wpList P ops Q rest (mkA n (upd env d v) ds) w) : wpList P ops Q (⟨some d,.assign x,ty,pos,af,gd⟩ :: rest) (mkA n env ds) w := s_val hw (r_assign hx) k
theorem s_pick1 (hx : (mkA n env ds).eval x = .bool true) (hy : (mkA n env ds).eval y = v) (hw : Region.wanted ⟨some d,.pick x y z,ty,pos,af,gd⟩ (yielded ops (mkA n env ds).tmps) = true) (k : wpList P ops Q rest (mkA n (upd env d v) ds) w) : wpList P ops Q (⟨some d,.pick x y z,ty,pos,af,gd⟩ :: rest) (mkA n env ds) w := s_val hw (r_pick1 hx hy) k
theorem s_pick0 (hx : (mkA n env ds).eval x = .bool false) (hz : (mkA n env ds).eval z = v) (hw : Region.wanted ⟨some d,.pick x y z,ty,pos,af,gd⟩ (yielded ops (mkA n env ds).tmps) = true) (k : wpList P ops Q rest (mkA n (upd env d v) ds) w) : wpList P ops Q (⟨some d,.pick x y z,ty,pos,af,gd⟩ :: rest) (mkA n env ds) w := s_val hw (r_pick0 hx hz) k
theorem s_load (h1 : one P T = true) {ad : Addr} (hx : (mkA n env ds).eval x = .pointer (some ad)) (hc : w.cell? ad = some v) (hw : Region.wanted ⟨some d,.load T x,ty,pos,af,gd⟩ (yielded ops (mkA n env ds).tmps) = true) (k : wpList P ops Q rest (mkA n (upd env d v) ds) w) : wpList P ops Q (⟨some d,.load T x,ty,pos,af,gd⟩ :: rest) (mkA n env ds) w := s_val hw (r_load h1 hx hc) k
theorem s_loadL {m b o : Nat} {cs : List Value} {ca : Array Value} (h1 : many P T m = true) (hx : (mkA n env ds).eval x = .pointer (some ⟨b,o,none⟩)) (hs : cs.length = m) (hca : ca = cs.toArray) (hc : ∀ (i : Nat) u,cs[i]? = some u → w.cell? ⟨b,o + i,none⟩ = some u) (hw : Region.wanted ⟨some d,.load T x,ty,pos,af,gd⟩ (yielded ops (mkA n env ds).tmps) = true) (k : wpList P ops Q rest (mkA n (upd env d (.agg ca)) ds) w) : wpList P ops Q (⟨some d,.load T x,ty,pos,af,gd⟩ :: rest) (mkA n env ds) w := s_val hw (r_loadL h1 hx hs hca hc) k
theorem s_field {i off g o o' : Nat} (h1 : fieldAt P T i off = true) (hx : (mkA n env ds).eval x = .pointer (some ⟨g,o,none⟩)) (ho : o + off = o') (hw : Region.wanted ⟨some d,.fieldAddr T x i,ty,pos,af,gd⟩ (yielded ops (mkA n env ds).tmps) = true) (k : wpList P ops Q rest (mkA n (upd env d (.pointer (some ⟨g,o',none⟩))) ds) w) : wpList P ops Q (⟨some d,.fieldAddr T x i,ty,pos,af,gd⟩ :: rest) (mkA n env ds) w := s_val hw (r_field h1 hx ho) k
theorem s_indexR {m ln cap j b o : Nat} {A : Option Addr} {kk : IntKind} {jv : Int} (h1 : sliceT P T m = true) (hx : (mkA n env ds).eval x = .slice A ln cap) (hA : A = some ⟨b,o,none⟩) (hy : (mkA n env ds).eval y = .int kk jv) (hj : jv = (j : Int)) (hl : j < ln) (hw : Region.wanted ⟨some d,.indexAddr T x y,ty,pos,af,gd⟩ (yielded ops (mkA n env ds).tmps) = true) (k : wpList P ops Q rest (mkA n (upd env d (.pointer (some ⟨b,o + j * m,none⟩))) ds) w) : wpList P ops Q (⟨some d,.indexAddr T x y,ty,pos,af,gd⟩ :: rest) (mkA n env ds) w := s_val hw (r_indexR h1 hx hA hy hj hl) k
theorem s_indexA {m g o ln j : Nat} {kk : IntKind} {jv : Int} (h1 : arrayT P T ln m = true) (hx : (mkA n env ds).eval x = .pointer (some ⟨g,o,none⟩)) (hy : (mkA n env ds).eval y = .int kk jv) (hj : jv = (j : Int)) (hl : j < ln) (hw : Region.wanted ⟨some d,.indexAddr T x y,ty,pos,af,gd⟩ (yielded ops (mkA n env ds).tmps) = true) (k : wpList P ops Q rest (mkA n (upd env d (.pointer (some ⟨g,o + j * m,none⟩))) ds) w) : wpList P ops Q (⟨some d,.indexAddr T x y,ty,pos,af,gd⟩ :: rest) (mkA n env ds) w := s_val hw (r_indexA h1 hx hy hj hl) k
theorem s_byte {j : Nat} {s : ByteArray} {kk : IntKind} {jv : Int} (h1 : P.underlying T = some .string) (hx : (mkA n env ds).eval x = .string s) (hy : (mkA n env ds).eval y = .int kk jv) (hj : jv = (j : Int)) (hl : j < s.size) (hw : Region.wanted ⟨some d,.index T x y,ty,pos,af,gd⟩ (yielded ops (mkA n env ds).tmps) = true) (k : wpList P ops Q rest (mkA n (upd env d (.int .u8 (byteAt s j))) ds) w) : wpList P ops Q (⟨some d,.index T x y,ty,pos,af,gd⟩ :: rest) (mkA n env ds) w := s_val hw (r_byte h1 hx hy hj hl) k
theorem s_lenS {s : ByteArray} (h1 : P.underlying T = some .string) (hx : (mkA n env ds).eval x = .string s) (hw : Region.wanted ⟨some d,.call ⟨.builtin .len,#[x],#[T]⟩,ty,pos,af,gd⟩ (yielded ops (mkA n env ds).tmps) = true) (k : wpList P ops Q rest (mkA n (upd env d (.int .i64 s.size)) ds) w) : wpList P ops Q (⟨some d,.call ⟨.builtin .len,#[x],#[T]⟩,ty,pos,af,gd⟩ :: rest) (mkA n env ds) w := s_val hw (r_lenS h1 hx) k
theorem s_lenL {m ln cap : Nat} {A : Option Addr} (h1 : sliceT P T m = true) (hx : (mkA n env ds).eval x = .slice A ln cap) (hw : Region.wanted ⟨some d,.call ⟨.builtin .len,#[x],#[T]⟩,ty,pos,af,gd⟩ (yielded ops (mkA n env ds).tmps) = true) (k : wpList P ops Q rest (mkA n (upd env d (.int .i64 ln)) ds) w) : wpList P ops Q (⟨some d,.call ⟨.builtin .len,#[x],#[T]⟩,ty,pos,af,gd⟩ :: rest) (mkA n env ds) w := s_val hw (r_lenL h1 hx) k
theorem s_extract {l : Array Value} {j : Nat} (hx : (mkA n env ds).eval x = .tuple l) (hv : l[j]? = some v) (hw : Region.wanted ⟨some d,.extract x j,ty,pos,af,gd⟩ (yielded ops (mkA n env ds).tmps) = true) (k : wpList P ops Q rest (mkA n (upd env d v) ds) w) : wpList P ops Q (⟨some d,.extract x j,ty,pos,af,gd⟩ :: rest) (mkA n env ds) w := s_val hw (r_extract hx hv) k
theorem s_not {b : Bool} (hx : (mkA n env ds).eval x = .bool b) (hw : Region.wanted ⟨some d,.unOp .not T x,ty,pos,af,gd⟩ (yielded ops (mkA n env ds).tmps) = true) (k : wpList P ops Q rest (mkA n (upd env d (.bool (!b))) ds) w) : wpList P ops Q (⟨some d,.unOp .not T x,ty,pos,af,gd⟩ :: rest) (mkA n env ds) w := s_val hw (r_not hx) k
theorem s_cmp {op : BinOp} {kk : IntKind} {a b : Int} {r : Bool} {T2 : TypeId} (hx : (mkA n env ds).eval x = .int kk a) (hy : (mkA n env ds).eval y = .int kk b) (hr : cmpI op a b = some r) (hw : Region.wanted ⟨some d,.binOp op T x y T2,ty,pos,af,gd⟩ (yielded ops (mkA n env ds).tmps) = true) (k : wpList P ops Q rest (mkA n (upd env d (.bool r)) ds) w) : wpList P ops Q (⟨some d,.binOp op T x y T2,ty,pos,af,gd⟩ :: rest) (mkA n env ds) w := s_val hw (r_cmp hx hy hr) k
theorem s_cmpS {op : BinOp} {a b : ByteArray} {r : Bool} {T2 : TypeId} (hx : (mkA n env ds).eval x = .string a) (hy : (mkA n env ds).eval y = .string b) (hr : cmpS op a b = some r) (hw : Region.wanted ⟨some d,.binOp op T x y T2,ty,pos,af,gd⟩ (yielded ops (mkA n env ds).tmps) = true) (k : wpList P ops Q rest (mkA n (upd env d (.bool r)) ds) w) : wpList P ops Q (⟨some d,.binOp op T x y T2,ty,pos,af,gd⟩ :: rest) (mkA n env ds) w := s_val hw (r_cmpS hx hy hr) k
theorem s_cmpG {op : BinOp} {a b : Value} {r : Bool} {T2 : TypeId} (hx : (mkA n env ds).eval x = a) (hy : (mkA n env ds).eval y = b) (hr : ∀ w,(do eqGuard op T x y a b; binOp op T a b : Sem Value).run P w = .ok (.bool r) w) (hw : Region.wanted ⟨some d,.binOp op T x y T2,ty,pos,af,gd⟩ (yielded ops (mkA n env ds).tmps) = true) (k : wpList P ops Q rest (mkA n (upd env d (.bool r)) ds) w) : wpList P ops Q (⟨some d,.binOp op T x y T2,ty,pos,af,gd⟩ :: rest) (mkA n env ds) w := s_val hw (r_cmpG hx hy hr) k
theorem s_cat {a b : ByteArray} {T2 : TypeId} (hx : (mkA n env ds).eval x = .string a) (hy : (mkA n env ds).eval y = .string b) (hs : a.size + b.size ≤ 9223372036854775807) (hw : Region.wanted ⟨some d,.binOp .add T x y T2,ty,pos,af,gd⟩ (yielded ops (mkA n env ds).tmps) = true) (k : wpList P ops Q rest (mkA n (upd env d (.string (a ++ b))) ds) w) : wpList P ops Q (⟨some d,.binOp .add T x y T2,ty,pos,af,gd⟩ :: rest) (mkA n env ds) w := s_val hw (r_cat hx hy hs) k
theorem s_add {a b r : Int} {T2 : TypeId} (hx : (mkA n env ds).eval x = .int .i64 a) (hy : (mkA n env ds).eval y = .int .i64 b) (hr : a + b = r) (h1 : -9223372036854775808 ≤ r ∧ r ≤ 9223372036854775807) (hw : Region.wanted ⟨some d,.binOp .add T x y T2,ty,pos,af,gd⟩ (yielded ops (mkA n env ds).tmps) = true) (k : wpList P ops Q rest (mkA n (upd env d (.int .i64 r)) ds) w) : wpList P ops Q (⟨some d,.binOp .add T x y T2,ty,pos,af,gd⟩ :: rest) (mkA n env ds) w := s_val hw (r_add hx hy hr h1) k
theorem s_sub {a b r : Int} {T2 : TypeId} (hx : (mkA n env ds).eval x = .int .i64 a) (hy : (mkA n env ds).eval y = .int .i64 b) (hr : a - b = r) (h1 : -9223372036854775808 ≤ r ∧ r ≤ 9223372036854775807) (hw : Region.wanted ⟨some d,.binOp .sub T x y T2,ty,pos,af,gd⟩ (yielded ops (mkA n env ds).tmps) = true) (k : wpList P ops Q rest (mkA n (upd env d (.int .i64 r)) ds) w) : wpList P ops Q (⟨some d,.binOp .sub T x y T2,ty,pos,af,gd⟩ :: rest) (mkA n env ds) w := s_val hw (r_sub hx hy hr h1) k
theorem s_build {ps : Array (Nat × Operand)} {vs : List (Nat × Value)} (hv : (ps.map fun p => (p.1,(mkA n env ds).eval p.2)) = vs.toArray) (h1 : ∀ w,(Instr.build T vs.toArray).run P w = .ok v w) (hw : Region.wanted ⟨some d,.build T ps,ty,pos,af,gd⟩ (yielded ops (mkA n env ds).tmps) = true) (k : wpList P ops Q rest (mkA n (upd env d v) ds) w) : wpList P ops Q (⟨some d,.build T ps,ty,pos,af,gd⟩ :: rest) (mkA n env ds) w := s_val hw (r_build hv h1) k
theorem s_makeFunc {fn : Fn} {fs cs : Array Operand} {vf vc : Array Value} (hf : fs.map (mkA n env ds).eval = vf) (hc : cs.map (mkA n env ds).eval = vc) (hw : Region.wanted ⟨some d,.makeFunc fn fs cs,ty,pos,af,gd⟩ (yielded ops (mkA n env ds).tmps) = true) (k : wpList P ops Q rest (mkA n (upd env d (.func fn vf vc)) ds) w) : wpList P ops Q (⟨some d,.makeFunc fn fs cs,ty,pos,af,gd⟩ :: rest) (mkA n env ds) w := s_val hw (r_makeFunc hf hc) k
theorem s_nilCheck {ad : Addr} (hx : (mkA n env ds).eval x = .pointer (some ad)) (hw : Region.wanted ⟨some d,.nilCheck x,ty,pos,af,gd⟩ (yielded ops (mkA n env ds).tmps) = true) (k : wpList P ops Q rest (mkA n (upd env d (.pointer (some ad))) ds) w) : wpList P ops Q (⟨some d,.nilCheck x,ty,pos,af,gd⟩ :: rest) (mkA n env ds) w := s_val hw (r_nilCheck hx) k
end
end Go.Wk

set_option linter.unusedVariables false
set_option linter.unusedSimpArgs false
namespace Go.Wk
open Go Go.RowKit
theorem nb1 {p : Prop} [Decidable p] (h : ¬ p) : (!decide p) = true := by simp [h]
theorem nb0 {p : Prop} [Decidable p] (h : p) : (!decide p) = false := by simp [h]
theorem nbt {b : Bool} (h : b = true) : (!b) = false := by rw [h]; rfl
theorem nbf {b : Bool} (h : b = false) : (!b) = true := by rw [h]; rfl
theorem vb {e : Value} {r r' : Bool} (h : e = .bool r) (hr : r = r') : e = .bool r' := hr ▸ h
theorem NewB.eq {w w' : World} {g : Nat} {o : Obj} (h : NewB w g o w') : g = w.heap.size := h.1
theorem NewB.size {w w' : World} {g : Nat} {o : Obj} (h : NewB w g o w') : w'.heap.size = w.heap.size + 1 := h.2.1
theorem NewB.blk {w w' : World} {g : Nat} {o : Obj} (h : NewB w g o w') : w'.heap[g]? = some o := h.2.2.1
theorem NewB.ext {w w' : World} {g : Nat} {o : Obj} (h : NewB w g o w') : Ext w w' := h.2.2.2
/-! ### rows that are read -/
def Row {α : Type} (R : World → α → List Value → Prop) (m : Nat) (w : World) (A : Option Addr) (xs : List α) : Prop :=
  xs = [] ∨ ∃ b o,A = some ⟨b,o,none⟩ ∧ ∀ (j : Nat) (x : α),xs[j]? = some x → ∃ cs : List Value,R w x cs ∧ ∀ (i : Nat) (u : Value),cs[i]? = some u → w.cell? ⟨b,o + j * m + i,none⟩ = some u
section
variable {α : Type} {R : World → α → List Value → Prop} {m : Nat} {w w' : World} {A : Option Addr} {xs : List α}
theorem Row.map (h : Row R m w A xs) (hc : ∀ ad v,w.cell? ad = some v → w'.cell? ad = some v) (hR : ∀ x cs,x ∈ xs → R w x cs → R w' x cs) : Row R m w' A xs := by
  rcases h with h | ⟨b,o,hA,h⟩
  · exact .inl h
  · refine .inr ⟨b,o,hA,fun j x hx => ?_⟩
    obtain ⟨cs,h1,h2⟩ := h j x hx
    exact ⟨cs,hR x cs (List.mem_of_getElem? hx) h1,fun i u hu => hc _ _ (h2 i u hu)⟩
theorem Row.ext (h : Row R m w A xs) (k : Ext w w') (hR : ∀ x cs,Ext w w' → R w x cs → R w' x cs) : Row R m w' A xs := h.map (fun _ _ hc => k.cell hc) (fun x cs _ => hR x cs k)
theorem Row.at_ (h : Row R m w A xs) (j : Nat) (hj : j < xs.length) : ∃ b o x cs,A = some ⟨b,o,none⟩ ∧ xs[j]? = some x ∧ R w x cs ∧ ∀ (i : Nat) (u : Value),cs[i]? = some u → w.cell? ⟨b,o + j * m + i,none⟩ = some u := by
  rcases h with h | ⟨b,o,hA,h⟩
  · subst h; simp at hj
  · have hx : xs[j]? = some xs[j] := List.getElem?_eq_getElem hj
    obtain ⟨cs,h1,h2⟩ := h j _ hx
    exact ⟨b,o,_,cs,hA,hx,h1,h2⟩
theorem Row.nil : Row R m w A ([] : List α) := .inl rfl
end
/-- The cells from off on, k of them, of a block. -/
theorem blk_cells {w : World} {g : Nat} {ca : Array Value} {t : TypeId} {fz : Nat × Nat} (h : w.heap[g]? = some (.cells ca t fz)) (off : Nat) {cs : List Value} (hcs : (ca.toList.drop off).take cs.length = cs) : ∀ (i : Nat) u,cs[i]? = some u → w.cell? ⟨g,off + i,none⟩ = some u := by
  intro i u hu
  refine cell_of_blk h ?_
  have hi : i < cs.length := (List.getElem?_eq_some_iff.1 hu).1
  rw [← hcs,List.getElem?_take,if_pos hi,List.getElem?_drop] at hu
  simpa using hu
/-- Cells within an element's cells. -/
theorem sub_cells {w : World} {b o : Nat} {cs : List Value} (h : ∀ (i : Nat) u,cs[i]? = some u → w.cell? ⟨b,o + i,none⟩ = some u) (off : Nat) {cs2 : List Value} (hcs : (cs.drop off).take cs2.length = cs2) : ∀ (i : Nat) u,cs2[i]? = some u → w.cell? ⟨b,o + off + i,none⟩ = some u := by
  intro i u hu
  have hi : i < cs2.length := (List.getElem?_eq_some_iff.1 hu).1
  rw [← hcs,List.getElem?_take,if_pos hi,List.getElem?_drop] at hu
  have := h (off + i) u hu
  rwa [← Nat.add_assoc] at this
theorem cells_ext {w w' : World} (k : Ext w w') {b o : Nat} {cs : List Value} (h : ∀ (i : Nat) u,cs[i]? = some u → w.cell? ⟨b,o + i,none⟩ = some u) : ∀ (i : Nat) u,cs[i]? = some u → w'.cell? ⟨b,o + i,none⟩ = some u := fun i u hu => k.cell (h i u hu)
/-! ### the values -/
structure Vl where
  k : Int
  n : Int
  s : ByteArray
structure Tm where
  v : ByteArray
  l : Vl
inductive Ex where
  | mk (op : Int) (t : Tm) (kids : List Ex)
def Ex.op : Ex → Int | .mk o _ _ => o
def Ex.t : Ex → Tm | .mk _ t _ => t
def Ex.kids : Ex → List Ex | .mk _ _ l => l
structure Vl.wf (x : Vl) : Prop where
  k : -128 ≤ x.k ∧ x.k ≤ 127
  n : -9223372036854775808 ≤ x.n ∧ x.n ≤ 9223372036854775807
  s : x.s.size ≤ 140737488351232
structure Tm.wf (x : Tm) : Prop where
  v : x.v.size ≤ 140737488351232
  l : x.l.wf
def RV (w : World) (x : Vl) (cs : List Value) : Prop := cs = [.int .i8 x.k,.int .i64 x.n,.string x.s] ∧ x.wf
def RT (w : World) (x : Tm) (cs : List Value) : Prop := cs = [.string x.v,.int .i8 x.l.k,.int .i64 x.l.n,.string x.l.s] ∧ x.wf
/-- An expression's cells: nested as it is. -/
inductive RE (w : World) : Ex → List Value → Prop
  | mk (op : Int) (t : Tm) (kids : List Ex) (A : Option Addr) (c b o : Nat) (f : Nat → List Value) (hop : -128 ≤ op ∧ op ≤ 127) (ht : t.wf) (hl : kids.length ≤ c) (hc : kids.length * 80 ≤ 140737488351232) (hA : kids = [] ∨ A = some ⟨b,o,none⟩)
    (hr : ∀ (j : Nat) (x : Ex),kids[j]? = some x → RE w x (f j)) (hcell : ∀ (j : Nat) (x : Ex),kids[j]? = some x → ∀ (i : Nat) (u : Value),(f j)[i]? = some u → w.cell? ⟨b,o + j * 6 + i,none⟩ = some u) :
    RE w (.mk op t kids) [.int .i8 op,.string t.v,.int .i8 t.l.k,.int .i64 t.l.n,.string t.l.s,.slice A kids.length c]
structure Ex.okc (x : Ex) (c : Nat) : Prop where
  op : -128 ≤ x.op ∧ x.op ≤ 127
  t : x.t.wf
  l : x.kids.length ≤ c
  c : x.kids.length * 80 ≤ 140737488351232
theorem RE.open_ {w : World} {x : Ex} {cs : List Value} (h : RE w x cs) : ∃ A c,cs = [.int .i8 x.op,.string x.t.v,.int .i8 x.t.l.k,.int .i64 x.t.l.n,.string x.t.l.s,.slice A x.kids.length c] ∧ x.okc c ∧ Row RE 6 w A x.kids := by
  cases h with
  | mk op t kids A c b o f hop ht hl hc hA hr hcell =>
    refine ⟨A,c,rfl,⟨hop,ht,hl,hc⟩,?_⟩
    rcases hA with hA | hA
    · exact .inl hA
    · exact .inr ⟨b,o,hA,fun j x hx => ⟨f j,hr j x hx,hcell j x hx⟩⟩
theorem RE.mk_ {w : World} {x : Ex} {A : Option Addr} {c : Nat} (ho : x.okc c) (h : Row RE 6 w A x.kids) : RE w x [.int .i8 x.op,.string x.t.v,.int .i8 x.t.l.k,.int .i64 x.t.l.n,.string x.t.l.s,.slice A x.kids.length c] := by
  obtain ⟨op,t,kids⟩ := x
  rcases h with h | ⟨b,o,hA,h⟩
  · simp only [Ex.kids] at h
    subst h
    exact .mk op t [] A c 0 0 (fun _ => []) ho.op ho.t ho.l ho.c (.inl rfl) (fun j x hx => by simp at hx) (fun j x hx => by simp at hx)
  · have hf : ∃ f : Nat → List Value,∀ (j : Nat) (x : Ex),kids[j]? = some x → RE w x (f j) ∧ ∀ (i : Nat) (u : Value),(f j)[i]? = some u → w.cell? ⟨b,o + j * 6 + i,none⟩ = some u := by
      refine ⟨fun j => if hj : j < kids.length then Classical.choose (h j _ (List.getElem?_eq_getElem hj)) else [],fun j x hx => ?_⟩
      have hj : j < kids.length := (List.getElem?_eq_some_iff.1 hx).1
      have hx2 : kids[j] = x := (List.getElem?_eq_some_iff.1 hx).2
      simp only [dif_pos hj]
      have hs := Classical.choose_spec (h j _ (List.getElem?_eq_getElem hj))
      exact ⟨hx2 ▸ hs.1,hs.2⟩
    obtain ⟨f,hf⟩ := hf
    exact .mk op t kids A c b o f ho.op ho.t ho.l ho.c (.inr hA) (fun j x hx => (hf j x hx).1) (fun j x hx => (hf j x hx).2)
theorem RE.map {w w' : World} (hc : ∀ ad v,w.cell? ad = some v → w'.cell? ad = some v) {x : Ex} {cs : List Value} (h : RE w x cs) : RE w' x cs := by
  induction h with
  | mk op t kids A c b o f hop ht hl hcap hA hr hcell ih => exact .mk op t kids A c b o f hop ht hl hcap hA ih (fun j x hx i u hu => hc _ _ (hcell j x hx i u hu))
theorem RE.ext {w w' : World} (k : Ext w w') {x : Ex} {cs : List Value} (h : RE w x cs) : RE w' x cs := h.map (fun _ _ => k.cell)
theorem RV.ext {w w' : World} (k : Ext w w') {x : Vl} {cs : List Value} (h : RV w x cs) : RV w' x cs := h
theorem RT.ext {w w' : World} (k : Ext w w') {x : Tm} {cs : List Value} (h : RT w x cs) : RT w' x cs := h
theorem Row.extE {w w' : World} {A : Option Addr} {xs : List Ex} (h : Row RE 6 w A xs) (k : Ext w w') : Row RE 6 w' A xs := h.ext k (fun _ _ k h => h.ext k)
theorem Row.extT {w w' : World} {A : Option Addr} {xs : List Tm} (h : Row RT 4 w A xs) (k : Ext w w') : Row RT 4 w' A xs := h.ext k (fun _ _ k h => h)
theorem Row.extV {w w' : World} {A : Option Addr} {xs : List Vl} (h : Row RV 3 w A xs) (k : Ext w w') : Row RV 3 w' A xs := h.ext k (fun _ _ k h => h)
end Go.Wk

set_option linter.unusedVariables false
set_option linter.unusedSimpArgs false
namespace Go.Wk
open Go Go.RowKit
section
variable {P : Program} {ops : Array Oper} {Q : Exit → Act → World → Prop} {rest : List Oper} {n d t : Nat} {env : Nat → Value} {ds : List Deferred} {w w' : World} {v u : Value}
  {ty T : TypeId} {pos : String} {af : Array Edge} {gd : Option (Nat × Bool)} {x y z : Operand}
/-- w' is w but for block g. -/
def Wrote (w : World) (g : Nat) (o : Obj) (w' : World) : Prop := w'.heap.size = w.heap.size ∧ w'.heap[g]? = some o ∧ Keep (fun k => k = g) w w'
theorem Wrote.size {g : Nat} {o : Obj} (h : Wrote w g o w') : w'.heap.size = w.heap.size := h.1
theorem Wrote.blk {g : Nat} {o : Obj} (h : Wrote w g o w') : w'.heap[g]? = some o := h.2.1
theorem Wrote.keep {g : Nat} {o : Obj} (h : Wrote w g o w') : Keep (fun k => k = g) w w' := h.2.2
theorem setCells_spec (g : Nat) (t : TypeId) : ∀ (l : List Value) (i k : Nat) (cs : Array Value) (w : World),w.heap[g]? = some (.cells cs t (0,0)) → (∀ u ∈ l,u.oneCell' = true) → k + i + l.length ≤ cs.size →
    ∃ w',(storeCells ⟨g,k,none⟩ l i).run P w = .ok () w' ∧ Wrote w g (.cells (cs.toList.take (k + i) ++ l ++ cs.toList.drop (k + i + l.length)).toArray t (0,0)) w'
  | [],i,k,cs,w,hb,h1,hl => ⟨w,by simp [storeCells],rfl,by simpa using hb,Keep.refl _ _⟩
  | u :: l,i,k,cs,w,hb,h1,hl => by
    have hu : u.oneCell' = true := h1 u (by simp)
    have hlt : k + i < cs.size := by simp at hl; omega
    have hc : w.cell? ⟨g,k + i,none⟩ = some cs[k + i] := cell_of_blk hb (by simp [hlt])
    have hf : w.frozen? ⟨g,k + i,none⟩ = false := by simp [World.frozen?,hb]
    have hs : (store ((⟨g,k,none⟩ : Addr).add i) u).run P w = .ok () (w.setCell ⟨g,k + i,none⟩ u) := by
      simp only [add0]
      rw [run_store P w _ u .plain hu,hc]
      simp [hf]
    have hb2 : (w.setCell ⟨g,k + i,none⟩ u).heap[g]? = some (.cells (cs.setIfInBounds (k + i) u) t (0,0)) := by
      simp only [World.setCell,Array.getElem?_modify,if_true,hb,Option.map_some]
      simp
    obtain ⟨w',hr,hz,hbk,hk⟩ := setCells_spec g t l (i + 1) k (cs.setIfInBounds (k + i) u) _ hb2 (fun x hx => h1 x (by simp [hx])) (by simp at hl ⊢; omega)
    refine ⟨w',?_,?_,?_,?_⟩
    · rw [storeCells,Sem.run_bind]
      rw [hs,Result.andThen_ok]
      exact hr
    · rw [hz]; simp [World.setCell]
    · rw [hbk]
      congr 2
      apply Array.ext'
      have hl2 : k + i < cs.toList.length := by simpa using hlt
      simp only [Array.toList_setIfInBounds]
      rw [List.take_set,List.drop_set,if_pos (by omega)]
      have e1 : (cs.toList.take (k + (i + 1))).set (k + i) u = cs.toList.take (k + i) ++ [u] := by
        rw [← Nat.add_assoc,List.take_succ_eq_append_getElem hl2,List.set_append_right (k + i) u (by simp; omega)]
        have e3 : k + i - min (k + i) cs.size = 0 := by omega
        simp [e3]
      have e2 : (cs.toList.drop (k + (i + 1) + l.length)) = cs.toList.drop (k + i + (u :: l).length) := by congr 1; simp; omega
      rw [e1,e2]
      simp
    · have h0 : Keep (fun k => k = g) w (w.setCell ⟨g,k + i,none⟩ u) := ⟨rfl,rfl,rfl,by simp [World.setCell],fun j _ hj => Below.heap_setCell _ _ _ _ hj⟩
      exact h0.then_ hk (fun j _ h => h)
theorem s_store {g o m : Nat} {cs : Array Value} {t : TypeId} {l : List Value} {cs' : Array Value} (hsz : (P.info? T).map (·.size) = some m) (hx : (mkA n env ds).eval x = .pointer (some ⟨g,o,none⟩)) (hy : (mkA n env ds).eval y = v) (hv : v.cells = l.toArray) (hl : l.length = m) (h1 : (l.all (·.oneCell')) = true)
    (hb : w.heap[g]? = some (.cells cs t (0,0))) (ho : o + m ≤ cs.size) (hcs : (cs.toList.take o ++ l ++ cs.toList.drop (o + m)).toArray = cs') (hw : Region.wanted ⟨none,.store T x y,ty,pos,af,gd⟩ (yielded ops (mkA n env ds).tmps) = true)
    (k : ∀ w',Wrote w g (.cells cs' t (0,0)) w' → wpList P ops Q rest (mkA n env ds) w') : wpList P ops Q (⟨none,.store T x y,ty,pos,af,gd⟩ :: rest) (mkA n env ds) w := by
  obtain ⟨w',hr,hwr⟩ := setCells_spec (P := P) g t l 0 o cs w hb (fun u hu => List.all_eq_true.1 h1 u hu) (by omega)
  obtain ⟨i,hi,him⟩ := Option.map_eq_some_iff.1 hsz
  have hwr' : Wrote w g (.cells cs' t (0,0)) w' := by rw [← hcs]; simpa [hl] using hwr
  refine s_unit hw (w' := w') ?_ (k w' hwr')
  simp only [execOp,hx,hy,Instr.storeAt,Instr.sureAddr,storeVar,sizeOf,typeInfo,Sem.run_bind,Sem.run_pure,Result.andThen_ok,run_program,hi]
  have hne : ¬ (v.cells.size ≠ i.size) := by rw [hv]; simp [hl,him]
  rw [if_neg hne,hv]
  simp [hr]
theorem ne_blk {g g' : Nat} {cs cs' : Array Value} {t t' : TypeId} {f f' : Nat × Nat} (h : w.heap[g]? = some (.cells cs t f)) (h' : w.heap[g']? = some (.cells cs' t' f')) (ht : t ≠ t') : g ≠ g' := by
  rintro rfl
  rw [h] at h'
  injection h' with h'
  injection h' with _ ht'
  exact ht ht'
end
section
variable {f : Operand → Value} {v1 v2 v3 v4 : Value} {x1 x2 x3 x4 : Operand} {i1 i2 i3 i4 : Nat}
theorem b0 : ((#[] : Array (Nat × Operand)).map fun p => (p.1,f p.2)) = ([] : List (Nat × Value)).toArray := by simp
theorem b1 (h1 : f x1 = v1) : (#[(i1,x1)].map fun p => (p.1,f p.2)) = [(i1,v1)].toArray := by simp [h1]
theorem b2 (h1 : f x1 = v1) (h2 : f x2 = v2) : (#[(i1,x1),(i2,x2)].map fun p => (p.1,f p.2)) = [(i1,v1),(i2,v2)].toArray := by simp [h1,h2]
theorem b3 (h1 : f x1 = v1) (h2 : f x2 = v2) (h3 : f x3 = v3) : (#[(i1,x1),(i2,x2),(i3,x3)].map fun p => (p.1,f p.2)) = [(i1,v1),(i2,v2),(i3,v3)].toArray := by simp [h1,h2,h3]
theorem b4 (h1 : f x1 = v1) (h2 : f x2 = v2) (h3 : f x3 = v3) (h4 : f x4 = v4) : (#[(i1,x1),(i2,x2),(i3,x3),(i4,x4)].map fun p => (p.1,f p.2)) = [(i1,v1),(i2,v2),(i3,v3),(i4,v4)].toArray := by simp [h1,h2,h3,h4]
end
theorem conv_u8 {z : Int} (h : 0 ≤ z ∧ z ≤ 255) : IntKind.u8.wrap z = z := by simp [IntKind.wrap,IntKind.bits,IntKind.signed]; omega
end Go.Wk

set_option linter.unusedVariables false
set_option linter.unusedSimpArgs false
namespace Go.Wk
open Go
/-! ### what the words of the document say, as plain functions -/
def letterB (c : Int) : Bool := decide ((97 ≤ c ∧ c ≤ 122) ∨ (65 ≤ c ∧ c ≤ 90) ∨ (48 ≤ c ∧ c ≤ 57) ∨ c = 95)
def wordB (s : ByteArray) (lo hi : Int) : Bool := decide (1 ≤ s.size ∧ s.size ≤ 120 ∧ lo ≤ (byteAt s 0 : Int) ∧ (byteAt s 0 : Int) ≤ hi ∧ ∀ j,j < s.size → letterB (byteAt s j) = true)
def kwB (s : ByteArray) : Bool := decide (s = ⟨#[110,111,116]⟩ ∨ s = ⟨#[99,111,117,110,116]⟩ ∨ s = ⟨#[115,117,109]⟩ ∨ s = ⟨#[109,105,110]⟩ ∨ s = ⟨#[109,97,120]⟩ ∨ s = ⟨#[108,101,110]⟩ ∨ s = ⟨#[99,104,97,114,115]⟩ ∨ s = ⟨#[98,97,99,107]⟩)
def nameB (s : ByteArray) : Bool := wordB s 97 122 && !kwB s
def varB (s : ByteArray) : Bool := wordB s 65 90
def okV (x : Vl) : Bool := decide ((x.k = 1 ∧ x.s = ⟨#[]⟩) ∨ (x.k = 2 ∧ x.n = 0 ∧ x.s.size ≤ 200))
def zV (x : Vl) : Bool := decide (x.k = 0 ∧ x.n = 0 ∧ x.s = ⟨#[]⟩)
def zT (x : Tm) : Bool := decide (x.v = ⟨#[]⟩) && zV x.l
def tmB (t : Tm) : Bool := if t.v = ⟨#[]⟩ then okV t.l else if t.v = ⟨#[95]⟩ then zV t.l else varB t.v && zV t.l
def kidsN (op : Int) : Int := if op = 1 ∨ (8 ≤ op ∧ op ≤ 10) then 1 else if 2 ≤ op ∧ op ≤ 7 then 2 else -1
def exB : Nat → Ex → Bool
  | 0,_ => false
  | d + 1,e => if e.op = 0 then decide (e.kids.length = 0) && !decide (e.t.v = ⟨#[95]⟩) && tmB e.t else zT e.t && decide ((e.kids.length : Int) = kidsN e.op) && e.kids.all (exB d)
def code (b : Bool) : Int := if b then 0 else 40
def fast (e : Ex) : Int := if e.op = 2 ∨ e.op = 3 ∨ e.op = 7 then 1 else if e.op = 4 ∨ e.op = 5 ∨ e.op = 6 then 2 else if e.op = 1 then 3 else 4
def signW (op : Int) : ByteArray := if op = 2 then ⟨#[43]⟩ else if op = 3 then ⟨#[45]⟩ else if op = 4 then ⟨#[42]⟩ else if op = 5 then ⟨#[47]⟩ else if op = 6 then ⟨#[37]⟩ else ⟨#[38]⟩
def wordW (op : Int) : ByteArray := if op = 8 then ⟨#[108,101,110]⟩ else if op = 9 then ⟨#[99,104,97,114,115]⟩ else ⟨#[98,97,99,107]⟩
theorem toList_nil_iff (s : ByteArray) : s.toList = [] ↔ s = ⟨#[]⟩ := by
  rw [Go.toList_nil_iff_emptyBytes]; rfl
theorem byteAt_lt (s : ByteArray) (j : Nat) : byteAt s j < 256 := by unfold byteAt; exact UInt8.toNat_lt _
theorem wordB_no {s : ByteArray} {lo hi : Int} (j : Nat) (hj : j < s.size) (h : letterB (byteAt s j) = false) : wordB s lo hi = false := by
  simp only [wordB,decide_eq_false_iff_not]
  rintro ⟨_,_,_,_,h5⟩
  rw [h5 j hj] at h
  cases h
theorem step_all0 {p : Nat → Prop} {i : Nat} (h : ∀ j,j < i → p j) (hi : p i) : ∀ j,j < i + 1 → p j := fun j hj => by
  rcases Nat.lt_succ_iff_lt_or_eq.1 hj with hj | rfl
  · exact h j hj
  · exact hi
end Go.Wk

set_option linter.unusedVariables false
set_option linter.unusedSimpArgs false
namespace Go.Wk
open Go Go.RowKit Go.Lib Go.Sort
section
variable {P : Program} {ops : Array Oper} {Q : Exit → Act → World → Prop} {rest : List Oper} {n d t : Nat} {env : Nat → Value} {ds : List Deferred} {w w' : World} {v u : Value}
  {ty T : TypeId} {pos : String} {af : Array Edge} {gd : Option (Nat × Bool)} {x y z : Operand}
/-! ### rows of the call's own -/
theorem keep_own {v : Value} (hg : w.grownBy w' v.ownBlock) : Keep (fun k => some k = v.ownBlock) w w' := ⟨hg.os,hg.tape,hg.output,hg.size,fun k hk hn => hg.block k hk hn⟩
theorem own_ge {base e m n : Nat} {v : Value} {xs : List Value} (h : w.ownsRow base e m v n xs) (k : Nat) (hk : some k = v.ownBlock) : base ≤ k := by
  rcases h.2 with ⟨rfl,_⟩ | ⟨g,cap,cur,rfl,hb,_⟩
  · simp [Value.ownBlock] at hk
  · have : k = g := by simpa [Value.ownBlock] using hk
    omega
theorem own_ne {base e m n g : Nat} {v : Value} {xs : List Value} {cs : Array Value} {t : TypeId} {fz : Nat × Nat} (h : w.ownsRow base e m v n xs) (hb : w.heap[g]? = some (.cells cs t fz)) (ht : e ≠ t) : ¬ some g = v.ownBlock := by
  intro hk
  rcases h.2 with ⟨rfl,_⟩ | ⟨g',cap,cur,rfl,hb',hh,_⟩
  · simp [Value.ownBlock] at hk
  · have : g = g' := by simpa [Value.ownBlock] using hk
    subst this
    rw [hh] at hb
    injection hb with hb
    injection hb with _ hb
    exact ht hb
theorem own_nil (base e m : Nat) : w.ownsRow base e m (.slice none 0 0) 0 [] := ⟨by simp,.inl ⟨rfl,rfl⟩⟩
theorem own_slice {base e m n : Nat} {v : Value} {xs : List Value} (h : w.ownsRow base e m v n xs) : ∃ A c,v = .slice A n c := by
  rcases h.2 with ⟨rfl,rfl⟩ | ⟨g,cap,cur,rfl,_⟩
  · exact ⟨none,0,rfl⟩
  · exact ⟨_,cap,rfl⟩
theorem own_move {base e m n : Nat} {v : Value} {xs : List Value} (h : w.ownsRow base e m v n xs) (hm : ∀ k,some k = v.ownBlock → w'.heap[k]? = w.heap[k]?) : w'.ownsRow base e m v n xs := by
  obtain ⟨h1,h2⟩ := h
  refine ⟨h1,?_⟩
  rcases h2 with h2 | ⟨g,cap,cur,rfl,hg,hh,r⟩
  · exact .inl h2
  · exact .inr ⟨g,cap,cur,rfl,hg,(hm g (by simp [Value.ownBlock])).trans hh,r⟩
theorem own_lt {base e m n : Nat} {v : Value} {xs : List Value} (h : w.ownsRow base e m v n xs) (k : Nat) (hk : some k = v.ownBlock) : k < w.heap.size := by
  rcases h.2 with ⟨rfl,_⟩ | ⟨g,cap,cur,rfl,hb,hh,_⟩
  · simp [Value.ownBlock] at hk
  · have : k = g := by simpa [Value.ownBlock] using hk
    subst this
    exact lt_of_blk hh
theorem own_ext {base e m n : Nat} {v : Value} {xs : List Value} (k : Ext w w') (h : w.ownsRow base e m v n xs) : w'.ownsRow base e m v n xs := own_move h fun i hi => k.block i (own_lt h i hi) (fun h => h)
theorem own_cells {base e m n c : Nat} {A : Option Addr} {xs : List Value} (h : w.ownsRow base e m (.slice A n c) n xs) (h0 : 0 < n) : ∃ b,A = some ⟨b,0,none⟩ ∧ ∀ (i : Nat) (u : Value),xs[i]? = some u → w.cell? ⟨b,i,none⟩ = some u := by
  rcases h.2 with ⟨_,h1⟩ | ⟨g,cap,cur,hv,hg,hh,h1,h2,h3,h4⟩
  · omega
  · injection hv with hA _ _
    refine ⟨g,hA,fun i u hu => cell_of_blk hh ?_⟩
    have hi : i < xs.length := (List.getElem?_eq_some_iff.1 hu).1
    rw [← h4,List.getElem?_take,if_pos (by have := h.1; omega)] at hu
    simpa using hu
/-- append(s, x..) onto a row of the call's own; x: a slice whose cells are known. -/
theorem s_append {base e m bytes k kc n0 c b o : Nat} {zv : Value} {A : Option Addr} {xs news : List Value} (ht : P.underlying T = some (.slice e)) (hinfo : (P.info? e).map (fun i => (i.zero,i.size,i.bytes)) = some (some zv,m,bytes)) (hzs : zv.cells.size = m) (hm : 0 < m)
    (hs : (mkA n env ds).eval x = .slice A n0 c) (hown : w.ownsRow base e m (.slice A n0 c) n0 xs) (hx : (mkA n env ds).eval y = .slice (some ⟨b,o,none⟩) k kc) (hl : news.length = k * m) (hnews : ∀ (i : Nat) u,news[i]? = some u → w.cell? ⟨b,o + i,none⟩ = some u) (h1 : news.all (·.oneCell') = true)
    (h63 : n0 + k ≤ 9223372036854775807) (hbytes : (n0 + k) * bytes ≤ 140737488355328) (hbase : base ≤ w.heap.size) (hw : Region.wanted ⟨some d,.call ⟨.builtin .append,#[x,y],#[T,T]⟩,ty,pos,af,none⟩ (yielded ops (mkA n env ds).tmps) = true)
    (kont : ∀ A' c' w',w'.ownsRow base e m (.slice A' (n0 + k) c') (n0 + k) (xs ++ news) → Keep (fun i => some i = (Value.slice A n0 c).ownBlock) w w' → wpList P ops Q rest (mkA n (upd env d (.slice A' (n0 + k) c')) ds) w') :
    wpList P ops Q (⟨some d,.call ⟨.builtin .append,#[x,y],#[T,T]⟩,ty,pos,af,none⟩ :: rest) (mkA n env ds) w := by
  obtain ⟨i,hi,hh⟩ := Option.map_eq_some_iff.1 hinfo
  simp only [Prod.mk.injEq] at hh
  refine wpList_append_own w rfl x y T rfl base e i zv m bytes ht hi hh.1 hh.2.1 hh.2.2 hzs hm _ n0 xs hs hown ⟨b,o,none⟩ k kc news hx hl (fun j u hu => by rw [add0]; exact hnews j u hu) (fun u hu => List.all_eq_true.1 h1 u hu) (by simpa [maxLen] using h63) hbytes hbase ?_
  intro v' w' h2 h3 _
  obtain ⟨A',c',rfl⟩ := own_slice h2
  show wpList P ops Q rest ((mkA n env ds).put (some d) _) w'
  rw [put_some]
  exact kont A' c' w' h2 (keep_own h3)
theorem s_appendS {base e n0 c : Nat} {A : Option Addr} {xs : List Value} {T2 : TypeId} {s : ByteArray} (ht : P.underlying T = some (.slice e)) (hu : P.underlying T2 = some .string) (hinfo : (P.info? e).map (fun i => (i.zero,i.size,i.bytes)) = some (some (.int .u8 0),1,1))
    (hs : (mkA n env ds).eval x = .slice A n0 c) (hown : w.ownsRow base e 1 (.slice A n0 c) n0 xs) (hx : (mkA n env ds).eval y = .string s)
    (hbytes : n0 + s.size ≤ 140737488355328) (hbase : base ≤ w.heap.size) (hw : Region.wanted ⟨some d,.call ⟨.builtin .append,#[x,y],#[T,T2]⟩,ty,pos,af,none⟩ (yielded ops (mkA n env ds).tmps) = true)
    (kont : ∀ A' c' w',w'.ownsRow base e 1 (.slice A' (n0 + s.size) c') (n0 + s.size) (xs ++ Lib.strCells s) → Keep (fun i => some i = (Value.slice A n0 c).ownBlock) w w' → wpList P ops Q rest (mkA n (upd env d (.slice A' (n0 + s.size) c')) ds) w') :
    wpList P ops Q (⟨some d,.call ⟨.builtin .append,#[x,y],#[T,T2]⟩,ty,pos,af,none⟩ :: rest) (mkA n env ds) w := by
  obtain ⟨i,hi,hh⟩ := Option.map_eq_some_iff.1 hinfo
  simp only [Prod.mk.injEq] at hh
  obtain ⟨v',w',hr,h2,h3,_⟩ := run_append_own_string (P := P) w base T T2 ty e i ht hu hi hh.1 hh.2.1 hh.2.2 (.slice A n0 c) n0 xs hown s (by simp only [maxLen]; omega) hbytes hbase
  obtain ⟨A',c',rfl⟩ := own_slice h2
  refine s_val hw (w' := w') (v := .slice A' (n0 + s.size) c') ?_ (kont A' c' w' h2 (keep_own h3))
  simp only [execOp,resolve,Sem.run_bind,Sem.run_pure,Result.andThen_ok,invoke,builtin]
  have ha : (#[x,y] : Array Operand).map (mkA n env ds).eval = #[.slice A n0 c,.string s] := by simp [hs,hx]
  rw [ha,hr]
  rfl
/-- A slice's literal: a new block. -/
theorem s_bslice {ps : Array (Nat × Operand)} {vs : List (Nat × Value)} {len e : Nat} {cs : Array Value} (hv : (ps.map fun p => (p.1,(mkA n env ds).eval p.2)) = vs.toArray) (h1 : ∀ w : World,(Instr.buildSlice T len vs.toArray).run P w = .ok (.slice (some ⟨w.heap.size,0,none⟩) len len) (w.alloc (.cells cs e)))
    (hw : Region.wanted ⟨some d,.buildSlice T len ps,ty,pos,af,gd⟩ (yielded ops (mkA n env ds).tmps) = true)
    (k : ∀ w' g,NewB w g (.cells cs e (0,0)) w' → wpList P ops Q rest (mkA n (upd env d (.slice (some ⟨g,0,none⟩) len len)) ds) w') : wpList P ops Q (⟨some d,.buildSlice T len ps,ty,pos,af,gd⟩ :: rest) (mkA n env ds) w :=
  s_val hw (w' := w.alloc (.cells cs e)) (by
    have := h1 w
    simp only [execOp,hv]
    rw [Sem.run_bind,this]
    rfl) (k _ _ (newB w _))
theorem ext_grow {k : Nat} {os : Array Obj} (h : w' = grow (w.drewN k) os) : Ext w w' := by
  subst h
  have hh : (w.drewN k).heap = w.heap := by
    induction k with
    | zero => rfl
    | succ k ih => exact ih
  refine ⟨?_,?_,?_,?_,?_⟩
  · induction k with
    | zero => rfl
    | succ k ih => rfl
  · rfl
  · rfl
  · show w.heap.size ≤ ((w.drewN k).heap ++ os).size
    rw [hh]; simp
  · intro i hi _
    show ((w.drewN k).heap ++ os)[i]? = _
    rw [hh,Array.getElem?_append_left hi]
end
end Go.Wk

set_option linter.unusedVariables false
set_option linter.unusedSimpArgs false
namespace Go.Wk
open Go Go.RowKit Go.Lib
section
variable {a1 a2 a3 a4 : UInt8} {k1 k2 k3 k4 : Int}
end
theorem own_bytes {w : World} {base e m : Nat} {v : Value} {k : Nat} {cs cs2 : List Value} (h : w.ownsRow base e m v k cs) (hc : cs = cs2) : w.ownsRow base e m v k cs2 := hc ▸ h
theorem cat_bytes (a b : List UInt8) : (⟨a.toArray⟩ : ByteArray) ++ ⟨b.toArray⟩ = ⟨(a ++ b).toArray⟩ := by
  apply Go.WideShapes.bytes_inj
  simp
theorem decDigits_len : ∀ (k u : Nat),u < 10 ^ (k + 1) → (decDigits u).length ≤ k + 1
  | 0,u,h => by rw [decDigits,dif_pos (by simpa using h)]; simp
  | k + 1,u,h => by
    rw [decDigits]
    split
    · simp
    · have : u / 10 < 10 ^ (k + 1) := by rw [Nat.div_lt_iff_lt_mul (by omega)]; rw [Nat.pow_succ] at h; exact h
      have := decDigits_len k _ this
      simp; omega
theorem decDigits_20 {u : Nat} (h : u ≤ 18446744073709551615) : (decDigits u).length ≤ 20 := decDigits_len 19 u (by omega)
def strL (l : List UInt8) : ByteArray := ⟨l.toArray⟩
def digB (u : Nat) : ByteArray := ⟨(decDigits u).toArray⟩
def itoaB (n : Int) : ByteArray := ⟨(itoa n).toArray⟩
def hexS : ByteArray := ⟨#[48,49,50,51,52,53,54,55,56,57,97,98,99,100,101,102]⟩
def encB (b : UInt8) : List UInt8 := if b.toNat = 10 then [92,110] else if b.toNat = 34 ∨ b.toNat = 92 then [92,b] else if 32 ≤ b.toNat ∧ b.toNat ≤ 126 then [b] else [92,120,hexS.data.getD (b.toNat / 16) 0,hexS.data.getD (b.toNat % 16) 0]
def quotL (s : ByteArray) (i : Nat) : List UInt8 := 34 :: (s.data.toList.take i).flatMap encB
def quotB (s : ByteArray) : ByteArray := ⟨(quotL s s.size ++ [34]).toArray⟩
theorem quotL_step (s : ByteArray) (i : Nat) (hi : i < s.size) {l : List UInt8} (h : encB (s.data.getD i 0) = l) : quotL s (i + 1) = quotL s i ++ l := by
  have hi' : i < s.data.toList.length := by simpa using hi
  have e : s.data.toList[i] = s.data.getD i 0 := by
    have : i < s.data.size := hi
    simp only [Array.getD,dif_pos this,Array.getElem_toList]
    rfl
  unfold quotL
  rw [List.take_succ_eq_append_getElem hi',e,List.flatMap_append,List.cons_append]
  simp only [List.flatMap_cons,List.flatMap_nil,List.append_nil,h]
theorem encB_le (b : UInt8) : (encB b).length ≤ 4 := by unfold encB; (repeat' split) <;> simp
theorem quotL_le (s : ByteArray) (i : Nat) : (quotL s i).length ≤ 4 * i + 1 := by
  unfold quotL
  have : ∀ l : List UInt8,(l.flatMap encB).length ≤ 4 * l.length := by
    intro l
    induction l with
    | nil => simp
    | cons b l ih => have := encB_le b; simp only [List.flatMap_cons,List.length_append,List.length_cons]; omega
  have h := this (s.data.toList.take i)
  have h2 : (s.data.toList.take i).length ≤ i := by simp; omega
  rw [List.length_cons]; omega
def showB (x : Vl) : ByteArray := if x.k = 1 then itoaB x.n else if nameB x.s then x.s else quotB x.s
def termW (t : Tm) : ByteArray := if t.v = ⟨#[]⟩ then (if okV t.l then showB t.l else ⟨#[]⟩) else t.v
theorem itoaB_neg {n : Int} (h : n < 0) (h1 : -9223372036854775808 ≤ n) : itoaB n = (⟨#[45]⟩ : ByteArray) ++ digB n.natAbs := by
  unfold itoaB itoa digB
  rw [if_pos h]
  exact (cat_bytes [45] (decDigits n.natAbs)).symm
theorem itoaB_pos {n : Int} (h : ¬ n < 0) : itoaB n = digB n.toNat := by unfold itoaB itoa digB; rw [if_neg h]
theorem digB_size {u : Nat} (h : u ≤ 18446744073709551615) : (digB u).size ≤ 20 := by
  have := decDigits_20 h
  simpa [digB,ByteArray.size] using this
end Go.Wk

set_option linter.unusedVariables false
set_option linter.unusedSimpArgs false
namespace Go.Wk
open Go
section
variable {P : Program} {ops : Array Oper} {Q R : Exit → Act → World → Prop} {S : World → Prop} {Lq : Act → Prop} {md : Region.Mode}
/-- Only the normal way out. -/
def onlyN (T : Act → World → Prop) : Exit → Act → World → Prop
  | .normal => T
  | _ => fun _ _ => False
theorem wp_onlyN {o : Oper} {a : Act} {w : World} {K T : Act → World → Prop} (h : o.wp P a w K (onlyN T)) : o.wp P a w K Q := by
  unfold Oper.wp at *
  generalize (execOp a.eval o).run P w = r at *
  cases r with
  | ok n w' =>
    cases n <;> simp only [Oper.upon] at h ⊢
    case value => exact h
    case skip => exact h
    case defer => exact h
    case enter f args =>
      refine Calls.mono h fun e w'' he => ?_
      cases e with
      | returned u => exact he
      | panicked c => exact he.elim
      | outgrown => obtain ⟨_,_,h⟩ := he; exact h.elim
    case row => exact h
  | halt x w' =>
    cases x <;> simp only [Oper.upon] at h ⊢
    case panic => exact h.elim
theorem wpOp_onlyN {i : Nat} {a : Act} {w : World} {K T : Act → World → Prop} (h : wpOp P ops (onlyN T) i K a w) : wpOp P ops Q i K a w := by
  unfold wpOp at *
  split
  · rename_i ho; simpa [ho] using h
  · rename_i o ho
    simp only [ho] at h
    split
    · rename_i hw
      simp only [hw,if_true] at h
      rcases h with h | ⟨_,_,_,h⟩
      · exact .inl (wp_onlyN h)
      · exact h.elim
    · rename_i hw
      simp only [hw] at h
      exact h
theorem wpAny_onlyN : ∀ (fuel : Nat) (listed : Array Bool) (a : Act) (w : World),wpAny P md ops (onlyN (Q .normal)) fuel listed a w → wpAny P md ops Q fuel listed a w
  | 0,_,_,_,h => h
  | fuel + 1,_,_,_,h => ⟨h.1,fun i hi => wpOp_mono (fun a' w' h' => wpAny_onlyN fuel _ a' w' h') (wpOp_onlyN (h.2 i hi))⟩
/-- The tail: each operation walked by itself, S shown behind it. -/
def wpTailS (P : Program) (ops : Array Oper) (S : World → Prop) (T : Act → World → Prop) : List Oper → Act → World → Prop
  | [],a,w => T a w
  | o :: rest,a,w => wpList P ops (onlyN fun a' w' => S w' ∧ wpTailS P ops S T rest a' w') [o] a w
theorem tl_cons {T : Act → World → Prop} {o : Oper} {rest : List Oper} {a : Act} {w : World} (h : wpList P ops (onlyN fun a' w' => S w' ∧ wpTailS P ops S T rest a' w') [o] a w) : wpTailS P ops S T (o :: rest) a w := h
theorem tl_nil {T : Act → World → Prop} {a : Act} {w : World} (h : T a w) : wpTailS P ops S T [] a w := h
theorem tl_done {T : Act → World → Prop} {a : Act} {w : World} (h : T a w) : wpList P ops (onlyN T) [] a w := h
theorem wpAnyH_seq {T : Act → World → Prop} : ∀ (l : List Oper) (k : Nat) (listed : Array Bool) (a : Act) (w : World),(∀ j,l[j]? = ops[k + j]?) → Region.seqB md ops l.length k listed = true →
    wpTailS P ops S T l a w → wpAnyH P md ops (onlyN T) S l.length listed a w
  | [],k,listed,a,w,_,hB,h => ⟨by simpa [Region.seqB] using hB,h⟩
  | o :: l,k,listed,a,w,hl,hB,h => by
    have h0 : ops[k]? = some o := by simpa using (hl 0).symm
    simp only [List.length_cons,Region.seqB,Bool.and_eq_true,decide_eq_true_eq] at hB
    refine ⟨fun h1 => (by rw [hB.1] at h1; cases h1),fun i hi => ?_⟩
    rw [hB.1] at hi
    have hik : i = k := by simpa using hi
    subst hik
    have hw : wpOp P ops (onlyN T) i (fun a' w' => S w' ∧ wpTailS P ops S T l a' w') a w := by
      have h2 : wpList P ops (onlyN fun a' w' => S w' ∧ wpTailS P ops S T l a' w') [o] a w := h
      unfold wpOp
      simp only [h0]
      unfold wpList at h2
      split
      · rename_i hw
        simp only [hw,if_true] at h2
        rcases h2 with h2 | ⟨_,_,_,h2⟩
        · exact .inl (wp_onlyN h2)
        · exact h2.elim
      · rename_i hw
        simp only [hw] at h2
        exact h2
    exact wpOp_mono (fun a' w' h' => ⟨h'.1,wpAnyH_seq l (i + 1) _ a' w' (fun j => by have := hl (j + 1); simpa [Nat.add_assoc,Nat.add_comm 1 j] using this) hB.2 h'.2⟩) hw
/-- The head: each operation yields one value in every world that meets S. -/
def wpHead (P : Program) (ops : Array Oper) (S : World → Prop) (Lq : Act → Prop) : List Oper → Act → Prop
  | [],a => Lq a
  | o :: rest,a => ∃ v,YieldsIf P ops S o v a ∧ wpHead P ops S Lq rest (a.put o.dst v)
theorem wpAnyH_head {T : Act → World → Prop} {g n : Nat} {w : World} (hsel : Region.noSelect ops = true) (hS : S w) (hT : ∀ a listed,Lq a → Region.seqB md ops g n listed = true → wpAnyH P md ops (onlyN T) S g listed a w) :
    ∀ (l : List Oper) (k : Nat) (listed : Array Bool) (a : Act),(∀ j,j < l.length → l[j]? = ops[k + j]?) → k + l.length = n → Region.lexHead md ops g l.length k listed = true → wpHead P ops S Lq l a →
    wpAnyH P md ops (onlyN T) S (l.length + g) listed a w
  | [],k,listed,a,_,hk,hB,h => by
    have : k = n := by simpa using hk
    subst this
    rw [List.length_nil,Nat.zero_add]
    exact hT a listed h (by simpa [Region.lexHead] using hB)
  | o :: l,k,listed,a,hl,hk,hB,h => by
    have h0 : ops[k]? = some o := by simpa using (hl 0 (by simp)).symm
    simp only [List.length_cons,Region.lexHead,Bool.and_eq_true] at hB
    obtain ⟨⟨hr,hf⟩,hB'⟩ := hB
    obtain ⟨v,hy,hK⟩ := h
    have := wpAnyH_head hsel hS hT l (k + 1) _ _ (fun j hj => by have := hl (j + 1) (by simp; omega); simpa [Nat.add_assoc,Nat.add_comm 1 j] using this) (by simp only [List.length_cons] at hk; omega) hB' hK
    have e : (o :: l).length + g = l.length + g + 1 := by simp; omega
    rw [e]
    exact wpAnyH_take h0 hsel hf hr (fun c a w h => h.elim) hy hS this
end
section
variable {P : Program} {ops : Array Oper} {Q : Exit → Act → World → Prop} {S : World → Prop} {Q' : Act → Prop} {rest : List Oper} {n d t : Nat} {env : Nat → Value} {ds : List Deferred} {w w' : World} {v u : Value}
def headB (ops : Array Oper) (n : Nat) : Bool := Region.noSelect ops && decide (n ≤ ops.size) && Region.lexHead .any ops (ops.size - n) n 0 (Array.replicate ops.size false)
theorem c_head {id : Nat} {l : List Oper} {a : Act} (S : World → Prop) (m : Nat) (hm : P.follows .mixedOrders = true) (hB : headB l.toArray m = true) (hS : ∀ wd,Ext w wd → S wd)
    (h : ∀ wd,Ext w wd → wpHead P l.toArray S (fun a' => wpTailS P l.toArray S (Q .normal) (l.drop m) a' wd) (l.take m) a) : (Code.region id l.toArray true).wp P Q a w := by
  simp only [headB,Bool.and_eq_true,decide_eq_true_eq] at hB
  obtain ⟨⟨hsel,hn⟩,hlex⟩ := hB
  have hn' : m ≤ l.length := by simpa using hn
  have htl : (l.take m).length = m := by simp; omega
  have hdl : (l.drop m).length = l.toArray.size - m := by simp
  have hd : Ext w { w with drawn := w.drawn + 1 } := ⟨rfl,rfl,rfl,Nat.le_refl _,fun _ _ _ => rfl⟩
  refine wp_region_any hm (wpAny_onlyN _ _ _ _ (wpAny_of_held (S := S) _ _ _ _ ?_))
  have := wpAnyH_head (P := P) (md := .any) (g := l.toArray.size - m) (n := m) (T := Q .normal) hsel (hS _ hd) (fun a' listed h1 h2 => by
    have := wpAnyH_seq (P := P) (md := .any) (S := S) (T := Q .normal) (l.drop m) m listed a' { w with drawn := w.drawn + 1 } (fun j => by simp [List.getElem?_drop]) (by rw [hdl]; exact h2) h1
    rwa [hdl] at this) (l.take m) 0 (Array.replicate l.toArray.size false) a (fun j hj => by
      have hj' : j < m := by rw [htl] at hj; exact hj
      simp [hj']) (by simpa using htl) (by rw [htl]; exact hlex) (h _ hd)
  rw [htl,show m + (l.toArray.size - m) = l.toArray.size by simp; omega] at this
  exact this
/-- One operation of the tail. -/
theorem wpOp_tail {md : Region.Mode} {T : Act → World → Prop} {K : Act → World → Prop} {k : Nat} {o : Oper} {a : Act} {w : World} (h0 : ops[k]? = some o) (h2 : wpList P ops (onlyN K) [o] a w) : wpOp P ops (onlyN T) k K a w := by
  unfold wpOp
  simp only [h0]
  unfold wpList at h2
  split
  · rename_i hw
    simp only [hw,if_true] at h2
    rcases h2 with h2 | ⟨_,_,_,h2⟩
    · exact .inl (wp_onlyN h2)
    · exact h2.elim
  · rename_i hw
    simp only [hw] at h2
    exact h2
theorem h_val {op : Op} {ty : TypeId} {pos : String} {af : Array Edge} {g : Option (Nat × Bool)} (hw : Region.wanted ⟨some d,op,ty,pos,af,g⟩ (yielded ops (mkA n env ds).tmps) = true)
    (hrun : ∀ w,S w → (execOp (mkA n env ds).eval ⟨some d,op,ty,pos,af,g⟩).run P w = .ok (.value v) w) (k : wpHead P ops S Q' rest (mkA n (upd env d v) ds)) :
    wpHead P ops S Q' (⟨some d,op,ty,pos,af,g⟩ :: rest) (mkA n env ds) :=
  ⟨v,.inl ⟨hw,hrun⟩,by rw [put_some]; exact k⟩
theorem h_done {a : Act} (h : Q' a) : wpHead P ops S Q' [] a := h
end
end Go.Wk

set_option linter.unusedVariables false
set_option linter.unusedSimpArgs false
namespace Go.Wk
open Go Go.RowKit Go.Lib
/-! ### expressions: what is said of them -/
theorem Ex.kid_lt {x y : Ex} {j : Nat} (h : x.kids[j]? = some y) : SizeOf.sizeOf y < SizeOf.sizeOf x := by
  obtain ⟨o,t,l⟩ := x
  have := List.sizeOf_lt_of_mem (List.mem_of_getElem? h)
  simp only [Ex.kids] at this
  simp only [Ex.mk.sizeOf_spec]
  omega
theorem exB_pos {d : Nat} (h : d ≠ 0) (x : Ex) : exB d x = if x.op = 0 then decide ((x.kids.length : Int) = 0) && !decide (x.t.v = ⟨#[95]⟩) && tmB x.t else zT x.t && decide ((x.kids.length : Int) = kidsN x.op) && x.kids.all (exB (d - 1)) := by
  obtain ⟨d',rfl⟩ := Nat.exists_eq_succ_of_ne_zero h
  have e : decide ((x.kids.length : Int) = 0) = decide (x.kids.length = 0) := by congr 1; simp
  rw [e]
  rfl
theorem all_no {α : Type} {p : α → Bool} {l : List α} {i : Nat} {y : α} (h : l[i]? = some y) (hp : p y = false) : l.all p = false := by
  rw [List.all_eq_false]
  exact ⟨y,List.mem_of_getElem? h,by simp [hp]⟩
theorem all_yes {α : Type} {p : α → Bool} {l : List α} {i : Nat} (hi : ¬ (i : Int) < l.length) (h : ∀ j y,j < i → l[j]? = some y → p y = true) : l.all p = true := by
  rw [List.all_eq_true]
  intro y hy
  obtain ⟨j,hj,rfl⟩ := List.getElem_of_mem hy
  exact h j _ (by omega) (List.getElem?_eq_getElem hj)
theorem all_kid {α : Type} {p : α → Bool} {l : List α} {j : Nat} {y : α} (h : l.all p = true) (hj : l[j]? = some y) : p y = true := List.all_eq_true.1 h y (List.mem_of_getElem? hj)
theorem kids_step {α : Type} {p : α → Bool} {l : List α} {i : Nat} {z : α} (h : ∀ j y,j < i → l[j]? = some y → p y = true) (hz : l[i]? = some z) (hp : p z = true) : ∀ j y,j < i + 1 → l[j]? = some y → p y = true := by
  intro j y hj hy
  rcases Nat.lt_succ_iff_lt_or_eq.1 hj with hj | rfl
  · exact h j y hj hy
  · rw [hz] at hy; cases hy; exact hp
def Ex.none : Ex := .mk 0 ⟨⟨#[]⟩,⟨0,0,⟨#[]⟩⟩⟩ []
def Ex.kid (x : Ex) (j : Nat) : Ex := x.kids.getD j Ex.none
theorem Ex.kid_of {x y : Ex} {j : Nat} (h : x.kids[j]? = some y) : x.kid j = y := by simp [Ex.kid,List.getD_eq_getElem?_getD,h]
def inB (b : Bool) (s : ByteArray) : ByteArray := if b then (⟨#[40]⟩ : ByteArray) ++ s ++ ⟨#[41]⟩ else s
def numB (x : Ex) : Bool := decide (x.op = 0) && decide (x.t.v = ⟨#[]⟩) && decide (x.t.l.k = 1) && decide (0 ≤ x.t.l.n)
def exW : Nat → Ex → ByteArray
  | 0,_ => ⟨#[]⟩
  | d + 1,x => if x.op = 0 then termW x.t
    else if 8 ≤ x.op ∧ x.op ≤ 10 then wordW x.op ++ ⟨#[40]⟩ ++ exW d (x.kid 0) ++ ⟨#[41]⟩
    else if x.op = 1 then (⟨#[45]⟩ : ByteArray) ++ inB (decide (fast (x.kid 0) < 3) || numB (x.kid 0)) (exW d (x.kid 0))
    else inB (decide (fast (x.kid 0) < fast x)) (exW d (x.kid 0)) ++ ⟨#[32]⟩ ++ signW x.op ++ ⟨#[32]⟩ ++ inB (decide (fast (x.kid 1) ≤ fast x)) (exW d (x.kid 1))
theorem exW_pos {d : Nat} (h : d ≠ 0) (x : Ex) : exW d x = if x.op = 0 then termW x.t
    else if 8 ≤ x.op ∧ x.op ≤ 10 then wordW x.op ++ ⟨#[40]⟩ ++ exW (d - 1) (x.kid 0) ++ ⟨#[41]⟩
    else if x.op = 1 then (⟨#[45]⟩ : ByteArray) ++ inB (decide (fast (x.kid 0) < 3) || numB (x.kid 0)) (exW (d - 1) (x.kid 0))
    else inB (decide (fast (x.kid 0) < fast x)) (exW (d - 1) (x.kid 0)) ++ ⟨#[32]⟩ ++ signW x.op ++ ⟨#[32]⟩ ++ inB (decide (fast (x.kid 1) ≤ fast x)) (exW (d - 1) (x.kid 1)) := by
  obtain ⟨d',rfl⟩ := Nat.exists_eq_succ_of_ne_zero h
  rfl
section
variable {a b c e f g : UInt8}
theorem z0 : (⟨#[]⟩ : ByteArray).size = 0 := rfl
theorem z1 : (⟨#[a]⟩ : ByteArray).size = 1 := rfl
theorem z2 : (⟨#[a,b]⟩ : ByteArray).size = 2 := rfl
theorem z3 : (⟨#[a,b,c]⟩ : ByteArray).size = 3 := rfl
theorem z4 : (⟨#[a,b,c,e]⟩ : ByteArray).size = 4 := rfl
theorem z5 : (⟨#[a,b,c,e,f]⟩ : ByteArray).size = 5 := rfl
theorem z6 : (⟨#[a,b,c,e,f,g]⟩ : ByteArray).size = 6 := rfl
end
theorem signW_size (o : Int) : (signW o).size = 1 := by unfold signW; (repeat' split) <;> rfl
theorem wordW_size (o : Int) : (wordW o).size ≤ 5 := by unfold wordW; (repeat' split) <;> decide
theorem inB_size (b : Bool) (s : ByteArray) : (inB b s).size ≤ s.size + 2 := by
  unfold inB; split
  · simp only [ByteArray.size_append,z1]; omega
  · omega
theorem quotB_size (s : ByteArray) : (quotB s).size ≤ 4 * s.size + 2 := by
  have := quotL_le s s.size
  simp only [quotB,ByteArray.size,List.size_toArray,List.length_append,List.length_singleton]
  simp only [ByteArray.size] at this
  omega
theorem itoaB_size {n : Int} (h : -9223372036854775808 ≤ n ∧ n ≤ 9223372036854775807) : (itoaB n).size ≤ 21 := by
  by_cases hn : n < 0
  · rw [itoaB_neg hn h.1,ByteArray.size_append,z1]
    have := digB_size (u := n.natAbs) (by omega)
    omega
  · rw [itoaB_pos hn]
    have := digB_size (u := n.toNat) (by omega)
    omega
theorem showB_size {x : Vl} (h : okV x = true) (hx : x.wf) : (showB x).size ≤ 802 := by
  unfold showB
  have h3 := h
  simp only [okV,decide_eq_true_eq] at h3
  split
  · have := itoaB_size hx.n; omega
  · have hs : x.s.size ≤ 200 := by
      rcases h3 with h3 | h3
      · exact absurd h3.1 (by assumption)
      · exact h3.2.2
    split
    · omega
    · have := quotB_size x.s; omega
theorem wordB_size {s : ByteArray} {lo hi : Int} (h : wordB s lo hi = true) : s.size ≤ 120 := by
  simp only [wordB,decide_eq_true_eq] at h; exact h.2.1
theorem termW_size {t : Tm} (h : tmB t = true) (ht : t.wf) : (termW t).size ≤ 802 := by
  unfold termW
  unfold tmB at h
  split
  · rename_i h0
    rw [if_pos h0] at h
    rw [if_pos h]
    exact showB_size h ht.l
  · rename_i h0
    rw [if_neg h0] at h
    split at h
    · rename_i h1; rw [h1,z1]; omega
    · simp only [Bool.and_eq_true,varB] at h
      have := wordB_size h.1
      omega
/-- The kids are there. -/
theorem kid_there {x : Ex} {j : Nat} (h : j < x.kids.length) : x.kids[j]? = some (x.kid j) := by
  simp [Ex.kid,List.getD_eq_getElem?_getD,h]
theorem exB_parts {d : Nat} {x : Ex} (h : exB d x = true) : d ≠ 0 ∧ (x.op = 0 → x.kids = [] ∧ ¬ x.t.v = ⟨#[95]⟩ ∧ tmB x.t = true) ∧ (¬ x.op = 0 → zT x.t = true ∧ (x.kids.length : Int) = kidsN x.op ∧ ∀ (j : Nat) (y : Ex),x.kids[j]? = some y → exB (d - 1) y = true) := by
  have hd : d ≠ 0 := by rintro rfl; simp [exB] at h
  rw [exB_pos hd] at h
  refine ⟨hd,fun h0 => ?_,fun h0 => ?_⟩
  · rw [if_pos h0] at h
    simp only [Bool.and_eq_true,decide_eq_true_eq,Bool.not_eq_true',decide_eq_false_iff_not] at h
    exact ⟨List.eq_nil_of_length_eq_zero (by omega),h.1.2,h.2⟩
  · rw [if_neg h0] at h
    simp only [Bool.and_eq_true,decide_eq_true_eq] at h
    exact ⟨h.1.1,h.1.2,fun j y hy => all_kid h.2 hy⟩
/-- One kid. -/
theorem ex_one {d : Nat} {x : Ex} (h : exB d x = true) (ho : x.op = 1 ∨ 8 ≤ x.op ∧ x.op ≤ 10) : 0 < x.kids.length ∧ exB (d - 1) (x.kid 0) = true := by
  obtain ⟨_,_,h2⟩ := exB_parts h
  obtain ⟨_,h3,h4⟩ := h2 (by omega)
  have e : kidsN x.op = 1 := by simp [kidsN]; omega
  have : 0 < x.kids.length := by omega
  exact ⟨this,h4 0 _ (kid_there this)⟩
theorem ex_ops {d : Nat} {x : Ex} (h : exB d x = true) : 0 ≤ x.op ∧ x.op ≤ 10 := by
  obtain ⟨_,_,h2⟩ := exB_parts h
  by_cases h0 : x.op = 0
  · omega
  · obtain ⟨_,h3,_⟩ := h2 h0
    unfold kidsN at h3
    split at h3
    · omega
    · split at h3
      · omega
      · omega
/-- Two kids. -/
theorem ex_two {d : Nat} {x : Ex} (h : exB d x = true) (h0 : ¬ x.op = 0) (h1 : ¬ x.op = 1) (h8 : ¬ (8 ≤ x.op ∧ x.op ≤ 10)) : 1 < x.kids.length ∧ exB (d - 1) (x.kid 0) = true ∧ exB (d - 1) (x.kid 1) = true := by
  have hop := ex_ops h
  obtain ⟨_,_,h2⟩ := exB_parts h
  obtain ⟨_,h3,h4⟩ := h2 h0
  have e : kidsN x.op = 2 := by unfold kidsN; rw [if_neg (by omega),if_pos (by omega)]
  have : 1 < x.kids.length := by omega
  exact ⟨this,h4 0 _ (kid_there (by omega)),h4 1 _ (kid_there this)⟩
/-- Every term is one. -/
inductive Ex.Ok : Ex → Prop
  | mk (x : Ex) (h : x.t.wf) (k : ∀ (j : Nat) (y : Ex),x.kids[j]? = some y → Ex.Ok y) : Ex.Ok x
theorem Ex.Ok.t {x : Ex} (h : x.Ok) : x.t.wf := by cases h; assumption
theorem Ex.Ok.kid {x y : Ex} {j : Nat} (h : x.Ok) (hy : x.kids[j]? = some y) : y.Ok := by cases h with | mk _ _ k => exact k j y hy
theorem RE.ok {w : World} {x : Ex} {cs : List Value} (h : RE w x cs) : x.Ok := by
  induction h with
  | mk op t kids A c b o f hop ht hl hc hA hr hcell ih => exact .mk _ ht ih
theorem Row.ok {w : World} {A : Option Addr} {x : Ex} (h : Row RE 6 w A x.kids) (ht : x.t.wf) : x.Ok := by
  refine .mk x ht fun j y hy => ?_
  rcases h with h | ⟨b,o,_,h⟩
  · rw [h] at hy; simp at hy
  · obtain ⟨cs,h,_⟩ := h j y hy
    exact h.ok
theorem exW_size : ∀ (d : Nat) (x : Ex),exB d x = true → x.Ok → (exW d x).size ≤ 2 ^ d * 900 - 8
  | 0,x,h,_ => by simp [exB] at h
  | d + 1,x,h,hx => by
    have ih : ∀ j,j < x.kids.length → exB d (x.kid j) = true → (exW d (x.kid j)).size ≤ 2 ^ d * 900 - 8 := fun j hj hb => exW_size d _ hb (hx.kid (kid_there hj))
    have hp : 1 ≤ 2 ^ d := Nat.one_le_two_pow
    have hp2 : 2 ^ (d + 1) = 2 * 2 ^ d := by rw [Nat.pow_succ]; omega
    rw [exW_pos (by omega)]
    simp only [Nat.add_sub_cancel]
    split
    · rename_i h0
      have := termW_size ((exB_parts h).2.1 h0).2.2 hx.t
      omega
    · rename_i h0
      split
      · rename_i h1
        obtain ⟨h2,h3⟩ := ex_one h (.inr h1)
        have := ih 0 h2 h3
        have := wordW_size x.op
        simp only [ByteArray.size_append,z1]
        omega
      · rename_i h1
        split
        · rename_i h2
          obtain ⟨h2,h3⟩ := ex_one h (.inl h2)
          have := ih 0 h2 h3
          have := inB_size (decide (fast (x.kid 0) < 3) || numB (x.kid 0)) (exW d (x.kid 0))
          simp only [ByteArray.size_append,z1]
          omega
        · rename_i h2
          obtain ⟨h3,h4,h5⟩ := ex_two h h0 h2 h1
          have := ih 0 (by omega) h4
          have := ih 1 h3 h5
          have := inB_size (decide (fast (x.kid 0) < fast x)) (exW d (x.kid 0))
          have := inB_size (decide (fast (x.kid 1) ≤ fast x)) (exW d (x.kid 1))
          have := signW_size x.op
          simp only [ByteArray.size_append,z1]
          omega
theorem exW_le {d : Nat} {x : Ex} (hd : d ≤ 8) (h : exB d x = true) (hx : x.Ok) : (exW d x).size ≤ 230400 := by
  have := exW_size d x h hx
  have h2 : 2 ^ d ≤ 2 ^ 8 := Nat.pow_le_pow_right (by omega) hd
  omega
theorem ci_t {b : Bool} {t e : Int} (h : e ≠ t) : cmpI .eql (if b then t else e) t = some b := by cases b <;> simp [cmpI,h]
theorem ci_tn {b : Bool} {t e : Int} (h : e ≠ t) : cmpI .neq (if b then t else e) t = some (!b) := by cases b <;> simp [cmpI,h]
theorem okV_s {x : Vl} (h : okV x = true) : x.s.size ≤ 200 := by
  simp only [okV,decide_eq_true_eq] at h
  rcases h with h | h
  · rw [h.2]; decide
  · exact h.2.2
end Go.Wk

set_option linter.unusedVariables false
set_option linter.unusedSimpArgs false
set_option maxRecDepth 10000
namespace Go.Proofs.Dw
open Go Go.Wk Go.Proofs Go.Lib
attribute [local irreducible] Go.wpList Go.wpStill Go.wpQuiet Go.Code.wp Go.Calls
theorem mixed : Tryd.prog.follows .mixedOrders = true := by kernel_rfl
theorem F_f26_0 : fieldAt Tryd.prog 26 0 0 = true := by kernel_rfl
theorem F_f26_1 : fieldAt Tryd.prog 26 1 1 = true := by kernel_rfl
theorem F_f26_2 : fieldAt Tryd.prog 26 2 2 = true := by kernel_rfl
theorem F_f28_0 : fieldAt Tryd.prog 28 0 0 = true := by kernel_rfl
theorem F_f28_1 : fieldAt Tryd.prog 28 1 1 = true := by kernel_rfl
theorem F_if5 : (Tryd.prog.info? 5).map (fun i => (i.zero,i.size,i.bytes)) = some (some (.int .u8 0),1,1) := by kernel_rfl
theorem F_m26 : many Tryd.prog 26 3 = true := by kernel_rfl
theorem F_o2 : one Tryd.prog 2 = true := by kernel_rfl
theorem F_o24 : one Tryd.prog 24 = true := by kernel_rfl
theorem F_o9 : one Tryd.prog 9 = true := by kernel_rfl
theorem F_sz26 : (Tryd.prog.info? 26).map (·.size) = some 3 := by kernel_rfl
theorem F_ui5 : Tryd.prog.underlying 5 = some (.int .u8) := by kernel_rfl
theorem F_ul81 : Tryd.prog.underlying 81 = some (.slice 5) := by kernel_rfl
theorem F_us9 : Tryd.prog.underlying 9 = some .string := by kernel_rfl
theorem F_z26 : (Tryd.prog.info? 26).bind (·.zero) = some (.agg #[.int .i8 0,.int .i64 0,.string (⟨#[]⟩ : ByteArray)]) := by kernel_rfl
theorem bd26 : ∀ w : World,(Instr.build 26 [].toArray).run Tryd.prog w = .ok (.agg #[.int .i8 0,.int .i64 0,.string (⟨#[]⟩ : ByteArray)]) w := by
  intros
  kernel_rfl
theorem bs81_1_0iu8 : ∀ (a0 : Int),∀ w : World,(Instr.buildSlice 81 1 [(0,.int .u8 a0)].toArray).run Tryd.prog w = .ok (.slice (some ⟨w.heap.size,0,none⟩) 1 1) (w.alloc (.cells #[.int .u8 a0] 5)) := by
  intros
  kernel_rfl
theorem eqzV26eql (x : Vl) (a b : Operand) (w : World) : (do eqGuard .eql 26 a b (.agg #[.int .i8 x.k,.int .i64 x.n,.string x.s]) (.agg #[.int .i8 0,.int .i64 0,.string ⟨#[]⟩]); binOp .eql 26 (.agg #[.int .i8 x.k,.int .i64 x.n,.string x.s]) (.agg #[.int .i8 0,.int .i64 0,.string ⟨#[]⟩]) : Sem Value).run Tryd.prog w = .ok (.bool (zV x)) w := by
  have hu := Tryd.underlying26
  go_simp
  simp only [toList_nil_iff]
  (first | (by_cases h0 : x.v = (⟨#[]⟩ : ByteArray)) | skip) <;> (first | (by_cases h1 : x.k = 0 <;> by_cases h2 : x.n = 0 <;> by_cases h3 : x.s = (⟨#[]⟩ : ByteArray)) | (by_cases h1 : x.l.k = 0 <;> by_cases h2 : x.l.n = 0 <;> by_cases h3 : x.l.s = (⟨#[]⟩ : ByteArray))) <;> simp [zV,zT, *]
end Go.Proofs.Dw

set_option linter.unusedVariables false
set_option linter.unusedSimpArgs false
set_option maxRecDepth 10000
namespace Go.Proofs.Dw
open Go Go.Wk Go.Proofs Go.Lib
attribute [local irreducible] Go.wpList Go.wpStill Go.wpQuiet Go.Code.wp Go.Calls
theorem F_f31_0 : fieldAt Tryd.prog 31 0 0 = true := by kernel_rfl
theorem F_o23 : one Tryd.prog 23 = true := by kernel_rfl
end Go.Proofs.Dw

set_option linter.unusedVariables false
set_option linter.unusedSimpArgs false
set_option maxRecDepth 10000
namespace Go.Proofs.Dw
open Go Go.Wk Go.Proofs Go.Lib
attribute [local irreducible] Go.wpList Go.wpStill Go.wpQuiet Go.Code.wp Go.Calls
theorem F_f31_1 : fieldAt Tryd.prog 31 1 1 = true := by kernel_rfl
theorem F_f31_2 : fieldAt Tryd.prog 31 2 5 = true := by kernel_rfl
theorem F_l29 : sliceT Tryd.prog 29 6 = true := by kernel_rfl
theorem F_m28 : many Tryd.prog 28 4 = true := by kernel_rfl
theorem F_m31 : many Tryd.prog 31 6 = true := by kernel_rfl
theorem F_o29 : one Tryd.prog 29 = true := by kernel_rfl
theorem bd28 : ∀ w : World,(Instr.build 28 [].toArray).run Tryd.prog w = .ok (.agg #[.string (⟨#[]⟩ : ByteArray),.int .i8 0,.int .i64 0,.string (⟨#[]⟩ : ByteArray)]) w := by
  intros
  kernel_rfl
end Go.Proofs.Dw

set_option linter.unusedVariables false
set_option linter.unusedSimpArgs false
set_option maxRecDepth 10000
namespace Go.Proofs.Dw
open Go Go.Wk Go.Proofs Go.Lib
attribute [local irreducible] Go.wpList Go.wpStill Go.wpQuiet Go.Code.wp Go.Calls
theorem F_sz31 : (Tryd.prog.info? 31).map (·.size) = some 6 := by kernel_rfl
theorem F_z31 : (Tryd.prog.info? 31).bind (·.zero) = some (.agg #[.int .i8 0,.string (⟨#[]⟩ : ByteArray),.int .i8 0,.int .i64 0,.string (⟨#[]⟩ : ByteArray),.slice none 0 0]) := by kernel_rfl
/-- A kid's index, and that it may be. -/
theorem exOp {d : Nat} {x : Ex} (h : exB d x = true) : (0 ≤ x.op ∧ x.op ≤ 10) ∧ (x.op = 1 ∨ 8 ≤ x.op ∧ x.op ≤ 10 → 0 < x.kids.length) ∧ (¬ x.op = 0 ∧ ¬ x.op = 1 ∧ ¬ (8 ≤ x.op ∧ x.op ≤ 10) → 1 < x.kids.length) := ⟨ex_ops h,fun h1 => (ex_one h h1).1,fun h1 => (ex_two h h1.1 h1.2.1 h1.2.2).1⟩
theorem exKid0 {d : Nat} {x : Ex} (h : exB d x = true) (h0 : ¬ x.op = 0) : exB (d - 1) (x.kid 0) = true := by
  by_cases h1 : x.op = 1 ∨ 8 ≤ x.op ∧ x.op ≤ 10
  · exact (ex_one h h1).2
  exact (ex_two h h0 (by omega) (by omega)).2.1
end Go.Proofs.Dw

set_option linter.unusedVariables false
set_option linter.unusedSimpArgs false
namespace Go.Wk
open Go Go.RowKit Go.Lib
section
variable {P : Program} {ops : Array Oper} {Q : Exit → Act → World → Prop} {rest : List Oper} {n d t : Nat} {env : Nat → Value} {ds : List Deferred} {w w' : World} {v u : Value}
  {ty T : TypeId} {pos : String} {af : Array Edge} {gd : Option (Nat × Bool)} {x y z : Operand}
/-- A text's bytes in a block. -/
def SB (w : World) (g : Nat) (s : ByteArray) : Prop := ∀ j,j < s.size → w.cell? ⟨g,0 + j * 1,none⟩ = some (.int .u8 (byteAt s j))
theorem SB.ext {g : Nat} {s : ByteArray} (h : SB w g s) (k : Ext w w') : SB w' g s := fun j hj => k.cell (h j hj)
/-- []byte(s) -/
theorem s_sbytes {S2 e : TypeId} {s : ByteArray} (hs : P.underlying T = some .string) (hd : P.underlying S2 = some (.slice e)) (he : P.underlying e = some (.int .u8)) (hx : (mkA n env ds).eval x = .string s)
    (hw : Region.wanted ⟨some d,.convert T S2 x,ty,pos,af,gd⟩ (yielded ops (mkA n env ds).tmps) = true)
    (k : ∀ w' g c,SB w' g s → Ext w w' → wpList P ops Q rest (mkA n (upd env d (.slice (some ⟨g,0,none⟩) s.size c)) ds) w') : wpList P ops Q (⟨some d,.convert T S2 x,ty,pos,af,gd⟩ :: rest) (mkA n env ds) w := by
  refine s_val hw (w' := bytesWorld w e s) (v := .slice (some ⟨w.heap.size,0,none⟩) s.size (grownCap w s.size 0 e)) ?_ (k _ _ _ ?_ ?_)
  · simp only [execOp,hx]
    rw [Sem.run_bind,Go.Lib.run_convert_string_bytes w T S2 e s hs hd he]
    rfl
  · intro j hj
    have := bytesWorld_cell w e s j hj
    rw [Nat.zero_add,Nat.mul_one,this]
    congr 2
    simp [byteAt,Array.getD_eq_getD_getElem?,List.getD_eq_getElem?_getD]
  · refine ⟨rfl,rfl,rfl,?_,fun j hj _ => bytesWorld_at_old w e s j hj⟩
    rw [bytesWorld_size]; omega
end
/-- A word is one, asked from the first byte on. -/
theorem wordB_yes0 {s : ByteArray} {lo hi : Int} (h1 : ¬ (s.size : Int) = 0) (h2 : ¬ (120 : Int) < s.size) (h3 : ¬ (byteAt s 0 : Int) < lo) (h4 : ¬ hi < (byteAt s 0 : Int)) {i : Nat} (hi' : ¬ (i : Int) < s.size) (h5 : ∀ j,j < i → letterB (byteAt s j) = true) : wordB s lo hi = true := by
  simp only [wordB,decide_eq_true_eq]
  exact ⟨by omega,by omega,by omega,by omega,fun j hj => h5 j (by omega)⟩
/-- Where the first one lies, or -1. -/
def posB {α : Type} (p : α → Bool) (l : List α) : Int := match l.findIdx? p with
  | some i => (i : Int)
  | none => -1
theorem posB_at {α : Type} {p : α → Bool} {l : List α} {i : Nat} {z : α} (h : ∀ j y,j < i → l[j]? = some y → p y = false) (hz : l[i]? = some z) (hp : p z = true) : posB p l = i := by
  have hi : i < l.length := (List.getElem?_eq_some_iff.1 hz).1
  have he : l[i] = z := (List.getElem?_eq_some_iff.1 hz).2
  have : l.findIdx? p = some i := by
    rw [List.findIdx?_eq_some_iff_getElem]
    refine ⟨hi,by rw [he]; exact hp,fun j hj => ?_⟩
    have := h j (l[j]'(by omega)) hj (List.getElem?_eq_getElem _)
    simp [this]
  simp [posB,this]
theorem posB_none {α : Type} {p : α → Bool} {l : List α} {i : Nat} (hi : ¬ (i : Int) < l.length) (h : ∀ j y,j < i → l[j]? = some y → p y = false) : posB p l = -1 := by
  have : l.findIdx? p = none := by
    rw [List.findIdx?_eq_none_iff]
    intro y hy
    obtain ⟨j,hj,rfl⟩ := List.getElem_of_mem hy
    exact h j _ (by omega) (List.getElem?_eq_getElem hj)
  simp [posB,this]
theorem kids_stepF {α : Type} {p : α → Bool} {l : List α} {i : Nat} {z : α} (h : ∀ j y,j < i → l[j]? = some y → p y = false) (hz : l[i]? = some z) (hp : p z = false) : ∀ j y,j < i + 1 → l[j]? = some y → p y = false := by
  intro j y hj hy
  rcases Nat.lt_succ_iff_lt_or_eq.1 hj with hj | rfl
  · exact h j y hj hy
  · rw [hz] at hy; cases hy; exact hp
theorem posB_all {α : Type} (p : α → Bool) (l : List α) : (!decide (0 ≤ posB (fun y => !p y) l)) = l.all p := by
  rw [Bool.eq_iff_iff]
  simp only [Bool.not_eq_true',decide_eq_false_iff_not,List.all_eq_true]
  unfold posB
  cases h : l.findIdx? (fun y => !p y) with
  | none =>
    rw [List.findIdx?_eq_none_iff] at h
    simp only [Int.reduceNeg]
    exact ⟨fun _ y hy => by simpa using h y hy,fun _ => by omega⟩
  | some i =>
    rw [List.findIdx?_eq_some_iff_getElem] at h
    obtain ⟨hi,h1,_⟩ := h
    simp only
    refine ⟨fun h => absurd (Int.natCast_nonneg i) h,fun h => ?_⟩
    have := h _ (List.getElem_mem hi)
    simp [this] at h1
end Go.Wk

set_option linter.unusedVariables false
set_option linter.unusedSimpArgs false
set_option maxRecDepth 10000
namespace Go.Proofs.Dw
open Go Go.Wk Go.Proofs Go.Lib
attribute [local irreducible] Go.wpList Go.wpStill Go.wpQuiet Go.Code.wp Go.Calls
theorem F_e50 : enterable Tryd.prog 50 = true := by kernel_rfl
theorem F_e70 : enterable Tryd.prog 70 = true := by kernel_rfl
theorem F_e84 : enterable Tryd.prog 84 = true := by kernel_rfl
theorem F_e89 : enterable Tryd.prog 89 = true := by kernel_rfl
theorem F_l81 : sliceT Tryd.prog 81 1 = true := by kernel_rfl
theorem F_o5 : one Tryd.prog 5 = true := by kernel_rfl
theorem eqzT28eql (x : Tm) (a b : Operand) (w : World) : (do eqGuard .eql 28 a b (.agg #[.string x.v,.int .i8 x.l.k,.int .i64 x.l.n,.string x.l.s]) (.agg #[.string ⟨#[]⟩,.int .i8 0,.int .i64 0,.string ⟨#[]⟩]); binOp .eql 28 (.agg #[.string x.v,.int .i8 x.l.k,.int .i64 x.l.n,.string x.l.s]) (.agg #[.string ⟨#[]⟩,.int .i8 0,.int .i64 0,.string ⟨#[]⟩]) : Sem Value).run Tryd.prog w = .ok (.bool (zT x)) w := by
  have hu := Tryd.underlying28
  go_simp
  simp only [toList_nil_iff]
  (first | (by_cases h0 : x.v = (⟨#[]⟩ : ByteArray)) | skip) <;> (first | (by_cases h1 : x.k = 0 <;> by_cases h2 : x.n = 0 <;> by_cases h3 : x.s = (⟨#[]⟩ : ByteArray)) | (by_cases h1 : x.l.k = 0 <;> by_cases h2 : x.l.n = 0 <;> by_cases h3 : x.l.s = (⟨#[]⟩ : ByteArray))) <;> simp [zV,zT, *]
theorem v_Check (x : Vl) (w : World) :
    Rt Tryd.prog 70 #[.agg #[.int .i8 x.k,.int .i64 x.n,.string x.s]] w fun v w' => v = .int .i64 (if okV x then 0 else 10 : Int) ∧ Ext w w' := by
  refine enter Tryd.func70 rfl (l := [.agg #[.int .i8 x.k,.int .i64 x.n,.string x.s]]) rfl Tryd.ntmps70 (Nat.le_of_ble_eq_true rfl) ?_
  refine c_seq (c_reg (s_box (v := .agg #[.int .i8 x.k,.int .i64 x.n,.string x.s]) (cs := #[.int .i8 x.k,.int .i64 x.n,.string x.s]) (w0 rfl) (ej rfl rfl) rfl ?_))
  intro w2 g1 n3
  refine s_assign (v := .int .i64 0) ev_c (w0 rfl) (c_done (n_then (c_seq (c_seq (c_reg (s_field (off := 0) (o' := 0) F_f26_0 (ej rfl rfl) rfl (w0 rfl) (s_load (v := .int .i8 x.k) F_o24 (ej rfl rfl) (cell_of_blk (i := 0) (NewB.blk n3) rfl) (w0 rfl) (c_done (n_then (c_block (c_seq ?_)))))))))))
  refine c_reg (s_cmp (r := decide (x.k = 1)) (ej rfl rfl) ev_c rfl (w0 rfl) (s_assign (v := .bool (decide (x.k = 1))) (ej rfl rfl) (w0 rfl) (c_done (n_then ?_))))
  by_cases h4 : x.k = 1
  · refine c_cond1 (vb (ej rfl rfl) (decide_eq_true h4)) (c_seq (c_reg (s_field (off := 2) (o' := 2) F_f26_2 (ej rfl rfl) rfl (w0 rfl) (s_load (v := .string x.s) F_o9 (ej rfl rfl) (cell_of_blk (i := 2) (NewB.blk n3) rfl) (w0 rfl) (s_cmpS (r := decide (x.s = (⟨#[]⟩ : ByteArray))) (ej rfl rfl) ev_c rfl (w0 rfl) (c_done (n_then ?_)))))))
    by_cases h5 : x.s = (⟨#[]⟩ : ByteArray)
    · refine c_cond1 (vb (ej rfl rfl) (decide_eq_true h5)) (c_seq (c_reg (s_assign (v := .int .i64 0) ev_c (w0 rfl) (c_done (n_then (c_ret (r_block (r_then (ret1 (v := .int .i64 0) rfl rfl rfl ?_)))))))))
      refine ⟨_,rfl,?_,(NewB.ext n3)⟩
      (first | rfl | (simp [okV, *]; done) | (simp [okV, *]; omega) | (simp [okV, *] <;> omega))
    refine c_cond0 (vb (ej rfl rfl) (decide_eq_false h5)) (c_skip (n_block (n_then (c_seq (c_reg (s_assign (v := .int .i64 10) ev_c (w0 rfl) (c_done (n_then (c_ret (ret1 (v := .int .i64 10) rfl rfl rfl ?_))))))))))
    refine ⟨_,rfl,?_,(NewB.ext n3)⟩
    (first | rfl | (simp [okV, *]; done) | (simp [okV, *]; omega) | (simp [okV, *] <;> omega))
  refine c_cond0 (vb (ej rfl rfl) (decide_eq_false h4)) (c_seq (c_reg (s_cmp (r := decide (x.k = 2)) (ej rfl rfl) ev_c rfl (w0 rfl) (s_assign (v := .bool (decide (x.k = 2))) (ej rfl rfl) (w0 rfl) (c_done (n_then ?_))))))
  by_cases h6 : x.k = 2
  · refine c_cond1 (vb (ej rfl rfl) (decide_eq_true h6)) (c_seq (c_reg (s_field (off := 1) (o' := 1) F_f26_1 (ej rfl rfl) rfl (w0 rfl) (s_load (v := .int .i64 x.n) F_o2 (ej rfl rfl) (cell_of_blk (i := 1) (NewB.blk n3) rfl) (w0 rfl) (s_cmp (r := decide (x.n = 0)) (ej rfl rfl) ev_c rfl (w0 rfl) ?_)))))
    by_cases h7 : x.n = 0
    · refine s_move (v := .bool true) (vb (ej rfl rfl) (decide_eq_true h7)) (w0 rfl) (s_field (off := 2) (o' := 2) F_f26_2 (ej rfl rfl) rfl (wy rfl rfl rfl rfl) (s_load (v := .string x.s) F_o9 (ej rfl rfl) (cell_of_blk (i := 2) (NewB.blk n3) rfl) (wy rfl rfl rfl rfl) (s_lenS F_us9 (ej rfl rfl) (wy rfl rfl rfl rfl) (s_cmp (r := decide ((x.s.size : Int) ≤ 200)) (ej rfl rfl) ev_c rfl (wy rfl rfl rfl rfl) (s_pick1 (v := .bool (decide ((x.s.size : Int) ≤ 200))) (ej rfl rfl) (ej rfl rfl) (w0 rfl) (c_done (n_then ?_)))))))
      by_cases h8 : (x.s.size : Int) ≤ 200
      · refine c_cond1 (vb (ej rfl rfl) (decide_eq_true h8)) (c_seq (c_reg (s_assign (v := .int .i64 0) ev_c (w0 rfl) (c_done (n_then (c_ret (r_block (r_then (ret1 (v := .int .i64 0) rfl rfl rfl ?_)))))))))
        refine ⟨_,rfl,?_,(NewB.ext n3)⟩
        (first | rfl | (simp [okV, *]; done) | (simp [okV, *]; omega) | (simp [okV, *] <;> omega))
      refine c_cond0 (vb (ej rfl rfl) (decide_eq_false h8)) (c_skip (n_block (n_then (c_seq (c_reg (s_assign (v := .int .i64 10) ev_c (w0 rfl) (c_done (n_then (c_ret (ret1 (v := .int .i64 10) rfl rfl rfl ?_))))))))))
      refine ⟨_,rfl,?_,(NewB.ext n3)⟩
      (first | rfl | (simp [okV, *]; done) | (simp [okV, *]; omega) | (simp [okV, *] <;> omega))
    refine s_move (v := .bool false) (vb (ej rfl rfl) (decide_eq_false h7)) (w0 rfl) (s_skip (wn rfl rfl rfl rfl rfl) (s_skip (wn rfl rfl rfl rfl rfl) (s_skip (wn rfl rfl rfl rfl rfl) (s_skip (wn rfl rfl rfl rfl rfl) (s_pick0 (v := .bool false) (ej rfl rfl) ev_c (w0 rfl) (c_done (n_then (c_cond0 (ej rfl rfl) (c_skip (n_block (n_then ?_)))))))))))
    refine c_seq (c_reg (s_assign (v := .int .i64 10) ev_c (w0 rfl) (c_done (n_then (c_ret (ret1 (v := .int .i64 10) rfl rfl rfl ?_))))))
    refine ⟨_,rfl,?_,(NewB.ext n3)⟩
    (first | rfl | (simp [okV, *]; done) | (simp [okV, *]; omega) | (simp [okV, *] <;> omega))
  refine c_cond0 (vb (ej rfl rfl) (decide_eq_false h6)) (c_skip (n_block (n_then (c_seq (c_reg (s_assign (v := .int .i64 10) ev_c (w0 rfl) (c_done (n_then (c_ret (ret1 (v := .int .i64 10) rfl rfl rfl ?_))))))))))
  refine ⟨_,rfl,?_,(NewB.ext n3)⟩
  (first | rfl | (simp [okV, *]; done) | (simp [okV, *]; omega) | (simp [okV, *] <;> omega))
theorem t_code (b : Bool) (w : World) :
    Rt Tryd.prog 50 #[.bool b] w fun v w' => v = .int .i64 (code b) ∧ Ext w w' := by
  refine enter Tryd.func50 rfl (l := [.bool b]) rfl Tryd.ntmps50 (Nat.le_of_ble_eq_true rfl) ?_
  refine c_seq (c_reg (s_assign (v := .int .i64 0) ev_c (w0 rfl) (c_done (n_then (c_seq (c_seq (c_reg (s_move (v := .bool b) (ej rfl rfl) (w0 rfl) (c_done (n_then ?_))))))))))
  rcases Bool.eq_false_or_eq_true b with h1 | h1
  · refine c_cond1 (vb (ej rfl rfl) h1) (c_seq (c_reg (s_assign (v := .int .i64 0) ev_c (w0 rfl) (c_done (n_then (c_ret (r_then (ret1 (v := .int .i64 0) rfl rfl rfl ?_))))))))
    refine ⟨_,rfl,?_,(Ext.refl w)⟩
    (first | rfl | (simp [code, *]; done) | (simp [code, *]; omega) | (simp [code, *] <;> omega))
  refine c_cond0 (vb (ej rfl rfl) h1) (c_skip (n_then (c_seq (c_reg (s_assign (v := .int .i64 40) ev_c (w0 rfl) (c_done (n_then (c_ret (ret1 (v := .int .i64 40) rfl rfl rfl ?_)))))))))
  refine ⟨_,rfl,?_,(Ext.refl w)⟩
  (first | rfl | (simp [code, *]; done) | (simp [code, *]; omega) | (simp [code, *] <;> omega))
theorem t_arity (op : Int) (w : World) :
    Rt Tryd.prog 79 #[.int .i8 op] w fun v w' => v = .int .i64 (kidsN op) ∧ Ext w w' := by
  refine enter Tryd.func79 rfl (l := [.int .i8 op]) rfl Tryd.ntmps79 (Nat.le_of_ble_eq_true rfl) ?_
  refine c_seq (c_reg (s_assign (v := .int .i64 0) ev_c (w0 rfl) (c_done (n_then (c_seq (c_seq (c_reg (s_move (v := .int .i8 op) (ej rfl rfl) (w0 rfl) (c_done (n_then (c_block ?_)))))))))))
  refine c_seq (c_seq (c_reg (s_cmp (r := decide (op = 1)) (ej rfl rfl) ev_c rfl (w0 rfl) (s_assign (v := .bool (decide (op = 1))) (ej rfl rfl) (w0 rfl) (c_done (n_then ?_))))))
  by_cases h1 : op = 1
  · refine c_cond1 (vb (ej rfl rfl) (decide_eq_true h1)) (c_skip (n_then (c_cond1 (vb (ej rfl rfl) (decide_eq_true h1)) (c_seq (c_reg (s_assign (v := .int .i64 1) ev_c (w0 rfl) (c_done (n_then (c_ret (r_block (r_then ?_)))))))))))
    refine ret1 (v := .int .i64 1) rfl rfl rfl ?_
    refine ⟨_,rfl,?_,(Ext.refl w)⟩
    (refine congrArg (Value.int .i64) ?_; unfold kidsN; first | rw [if_pos (by omega)] | rw [if_neg (by omega),if_pos (by omega)] | rw [if_neg (by omega),if_neg (by omega)])
  refine c_cond0 (vb (ej rfl rfl) (decide_eq_false h1)) (c_seq (c_reg (s_cmp (r := decide (op = 8)) (ej rfl rfl) ev_c rfl (w0 rfl) (s_assign (v := .bool (decide (op = 8))) (ej rfl rfl) (w0 rfl) (c_done (n_then ?_))))))
  by_cases h2 : op = 8
  · refine c_cond1 (vb (ej rfl rfl) (decide_eq_true h2)) (c_skip (n_then (c_cond1 (vb (ej rfl rfl) (decide_eq_true h2)) (c_seq (c_reg (s_assign (v := .int .i64 1) ev_c (w0 rfl) (c_done (n_then (c_ret (r_block (r_then ?_)))))))))))
    refine ret1 (v := .int .i64 1) rfl rfl rfl ?_
    refine ⟨_,rfl,?_,(Ext.refl w)⟩
    (refine congrArg (Value.int .i64) ?_; unfold kidsN; first | rw [if_pos (by omega)] | rw [if_neg (by omega),if_pos (by omega)] | rw [if_neg (by omega),if_neg (by omega)])
  refine c_cond0 (vb (ej rfl rfl) (decide_eq_false h2)) (c_seq (c_reg (s_cmp (r := decide (op = 9)) (ej rfl rfl) ev_c rfl (w0 rfl) (s_assign (v := .bool (decide (op = 9))) (ej rfl rfl) (w0 rfl) (c_done (n_then ?_))))))
  by_cases h3 : op = 9
  · refine c_cond1 (vb (ej rfl rfl) (decide_eq_true h3)) (c_skip (n_then (c_cond1 (vb (ej rfl rfl) (decide_eq_true h3)) (c_seq (c_reg (s_assign (v := .int .i64 1) ev_c (w0 rfl) (c_done (n_then (c_ret (r_block (r_then ?_)))))))))))
    refine ret1 (v := .int .i64 1) rfl rfl rfl ?_
    refine ⟨_,rfl,?_,(Ext.refl w)⟩
    (refine congrArg (Value.int .i64) ?_; unfold kidsN; first | rw [if_pos (by omega)] | rw [if_neg (by omega),if_pos (by omega)] | rw [if_neg (by omega),if_neg (by omega)])
  refine c_cond0 (vb (ej rfl rfl) (decide_eq_false h3)) (c_reg (s_cmp (r := decide (op = 10)) (ej rfl rfl) ev_c rfl (w0 rfl) (s_assign (v := .bool (decide (op = 10))) (ej rfl rfl) (w0 rfl) (c_done (n_then ?_)))))
  by_cases h4 : op = 10
  · refine c_cond1 (vb (ej rfl rfl) (decide_eq_true h4)) (c_seq (c_reg (s_assign (v := .int .i64 1) ev_c (w0 rfl) (c_done (n_then (c_ret (r_block (r_then (ret1 (v := .int .i64 1) rfl rfl rfl ?_)))))))))
    refine ⟨_,rfl,?_,(Ext.refl w)⟩
    (refine congrArg (Value.int .i64) ?_; unfold kidsN; first | rw [if_pos (by omega)] | rw [if_neg (by omega),if_pos (by omega)] | rw [if_neg (by omega),if_neg (by omega)])
  refine c_cond0 (vb (ej rfl rfl) (decide_eq_false h4)) (c_seq (c_seq (c_reg (s_cmp (r := decide (op = 2)) (ej rfl rfl) ev_c rfl (w0 rfl) (s_assign (v := .bool (decide (op = 2))) (ej rfl rfl) (w0 rfl) (c_done (n_then ?_)))))))
  by_cases h5 : op = 2
  · refine c_cond1 (vb (ej rfl rfl) (decide_eq_true h5)) (c_skip (n_then (c_cond1 (vb (ej rfl rfl) (decide_eq_true h5)) (c_seq (c_reg (s_assign (v := .int .i64 2) ev_c (w0 rfl) (c_done (n_then (c_ret (r_block (r_then ?_)))))))))))
    refine ret1 (v := .int .i64 2) rfl rfl rfl ?_
    refine ⟨_,rfl,?_,(Ext.refl w)⟩
    (refine congrArg (Value.int .i64) ?_; unfold kidsN; first | rw [if_pos (by omega)] | rw [if_neg (by omega),if_pos (by omega)] | rw [if_neg (by omega),if_neg (by omega)])
  refine c_cond0 (vb (ej rfl rfl) (decide_eq_false h5)) (c_seq (c_reg (s_cmp (r := decide (op = 3)) (ej rfl rfl) ev_c rfl (w0 rfl) (s_assign (v := .bool (decide (op = 3))) (ej rfl rfl) (w0 rfl) (c_done (n_then ?_))))))
  by_cases h6 : op = 3
  · refine c_cond1 (vb (ej rfl rfl) (decide_eq_true h6)) (c_skip (n_then (c_cond1 (vb (ej rfl rfl) (decide_eq_true h6)) (c_seq (c_reg (s_assign (v := .int .i64 2) ev_c (w0 rfl) (c_done (n_then (c_ret (r_block (r_then ?_)))))))))))
    refine ret1 (v := .int .i64 2) rfl rfl rfl ?_
    refine ⟨_,rfl,?_,(Ext.refl w)⟩
    (refine congrArg (Value.int .i64) ?_; unfold kidsN; first | rw [if_pos (by omega)] | rw [if_neg (by omega),if_pos (by omega)] | rw [if_neg (by omega),if_neg (by omega)])
  refine c_cond0 (vb (ej rfl rfl) (decide_eq_false h6)) (c_seq (c_reg (s_cmp (r := decide (op = 4)) (ej rfl rfl) ev_c rfl (w0 rfl) (s_assign (v := .bool (decide (op = 4))) (ej rfl rfl) (w0 rfl) (c_done (n_then ?_))))))
  by_cases h7 : op = 4
  · refine c_cond1 (vb (ej rfl rfl) (decide_eq_true h7)) (c_skip (n_then (c_cond1 (vb (ej rfl rfl) (decide_eq_true h7)) (c_seq (c_reg (s_assign (v := .int .i64 2) ev_c (w0 rfl) (c_done (n_then (c_ret (r_block (r_then ?_)))))))))))
    refine ret1 (v := .int .i64 2) rfl rfl rfl ?_
    refine ⟨_,rfl,?_,(Ext.refl w)⟩
    (refine congrArg (Value.int .i64) ?_; unfold kidsN; first | rw [if_pos (by omega)] | rw [if_neg (by omega),if_pos (by omega)] | rw [if_neg (by omega),if_neg (by omega)])
  refine c_cond0 (vb (ej rfl rfl) (decide_eq_false h7)) (c_seq (c_reg (s_cmp (r := decide (op = 5)) (ej rfl rfl) ev_c rfl (w0 rfl) (s_assign (v := .bool (decide (op = 5))) (ej rfl rfl) (w0 rfl) (c_done (n_then ?_))))))
  by_cases h8 : op = 5
  · refine c_cond1 (vb (ej rfl rfl) (decide_eq_true h8)) (c_skip (n_then (c_cond1 (vb (ej rfl rfl) (decide_eq_true h8)) (c_seq (c_reg (s_assign (v := .int .i64 2) ev_c (w0 rfl) (c_done (n_then (c_ret (r_block (r_then ?_)))))))))))
    refine ret1 (v := .int .i64 2) rfl rfl rfl ?_
    refine ⟨_,rfl,?_,(Ext.refl w)⟩
    (refine congrArg (Value.int .i64) ?_; unfold kidsN; first | rw [if_pos (by omega)] | rw [if_neg (by omega),if_pos (by omega)] | rw [if_neg (by omega),if_neg (by omega)])
  refine c_cond0 (vb (ej rfl rfl) (decide_eq_false h8)) (c_seq (c_reg (s_cmp (r := decide (op = 6)) (ej rfl rfl) ev_c rfl (w0 rfl) (s_assign (v := .bool (decide (op = 6))) (ej rfl rfl) (w0 rfl) (c_done (n_then ?_))))))
  by_cases h9 : op = 6
  · refine c_cond1 (vb (ej rfl rfl) (decide_eq_true h9)) (c_skip (n_then (c_cond1 (vb (ej rfl rfl) (decide_eq_true h9)) (c_seq (c_reg (s_assign (v := .int .i64 2) ev_c (w0 rfl) (c_done (n_then (c_ret (r_block (r_then ?_)))))))))))
    refine ret1 (v := .int .i64 2) rfl rfl rfl ?_
    refine ⟨_,rfl,?_,(Ext.refl w)⟩
    (refine congrArg (Value.int .i64) ?_; unfold kidsN; first | rw [if_pos (by omega)] | rw [if_neg (by omega),if_pos (by omega)] | rw [if_neg (by omega),if_neg (by omega)])
  refine c_cond0 (vb (ej rfl rfl) (decide_eq_false h9)) (c_reg (s_cmp (r := decide (op = 7)) (ej rfl rfl) ev_c rfl (w0 rfl) (s_assign (v := .bool (decide (op = 7))) (ej rfl rfl) (w0 rfl) (c_done (n_then ?_)))))
  by_cases h10 : op = 7
  · refine c_cond1 (vb (ej rfl rfl) (decide_eq_true h10)) (c_seq (c_reg (s_assign (v := .int .i64 2) ev_c (w0 rfl) (c_done (n_then (c_ret (r_block (r_then (ret1 (v := .int .i64 2) rfl rfl rfl ?_)))))))))
    refine ⟨_,rfl,?_,(Ext.refl w)⟩
    (refine congrArg (Value.int .i64) ?_; unfold kidsN; first | rw [if_pos (by omega)] | rw [if_neg (by omega),if_pos (by omega)] | rw [if_neg (by omega),if_neg (by omega)])
  refine c_cond0 (vb (ej rfl rfl) (decide_eq_false h10)) (c_skip (n_block (n_then (c_seq (c_reg (s_assign (v := .int .i64 (-1)) ev_c (w0 rfl) (c_done (n_then (c_ret (ret1 (v := .int .i64 (-1)) rfl rfl rfl ?_))))))))))
  refine ⟨_,rfl,?_,(Ext.refl w)⟩
  (refine congrArg (Value.int .i64) ?_; unfold kidsN; first | rw [if_pos (by omega)] | rw [if_neg (by omega),if_pos (by omega)] | rw [if_neg (by omega),if_neg (by omega)])
theorem t_none (x : Tm) (w : World) :
    Rt Tryd.prog 78 #[.agg #[.string x.v,.int .i8 x.l.k,.int .i64 x.l.n,.string x.l.s]] w fun v w' => v = .bool (zT x) ∧ Ext w w' := by
  refine enter Tryd.func78 rfl (l := [.agg #[.string x.v,.int .i8 x.l.k,.int .i64 x.l.n,.string x.l.s]]) rfl Tryd.ntmps78 (Nat.le_of_ble_eq_true rfl) ?_
  refine c_seq (c_reg (s_box (v := .agg #[.string x.v,.int .i8 x.l.k,.int .i64 x.l.n,.string x.l.s]) (cs := #[.string x.v,.int .i8 x.l.k,.int .i64 x.l.n,.string x.l.s]) (w0 rfl) (ej rfl rfl) rfl ?_))
  intro w2 g1 n3
  refine s_assign (v := .bool false) ev_c (w0 rfl) (c_done (n_then (c_seq (c_reg (s_loadL (cs := [.string x.v,.int .i8 x.l.k,.int .i64 x.l.n,.string x.l.s]) F_m28 (ej rfl rfl) rfl rfl (blk_cells (NewB.blk n3) 0 rfl) (w0 rfl) (s_build (v := .agg #[.string (⟨#[]⟩ : ByteArray),.int .i8 0,.int .i64 0,.string (⟨#[]⟩ : ByteArray)]) (vs := []) b0 (bd28) (w0 rfl) (s_cmpG (r := zT x) (ej rfl rfl) (ej rfl rfl) ((fun w_ => eqzT28eql x _ _ w_)) (w0 rfl) (s_assign (v := .bool (zT x)) (ej rfl rfl) (w0 rfl) (c_done (n_then (c_ret ?_)))))))))))
  refine ret1 (v := .bool (zT x)) rfl rfl rfl ?_
  refine ⟨_,rfl,?_,(NewB.ext n3)⟩
  rfl
theorem t_word (s : ByteArray) (lo hi : Int) (w : World) (hs : s.size ≤ 140737488351232) :
    Rt Tryd.prog 89 #[.string s,.int .u8 lo,.int .u8 hi] w fun v w' => v = .bool (wordB s lo hi) ∧ Ext w w' := by
  refine enter Tryd.func89 rfl (l := [.string s,.int .u8 lo,.int .u8 hi]) rfl Tryd.ntmps89 (Nat.le_of_ble_eq_true rfl) ?_
  refine c_seq (c_reg (s_assign (v := .bool false) ev_c (w0 rfl) (c_done (n_then (c_seq (c_seq (c_reg (s_move (v := .string s) (ej rfl rfl) (w0 rfl) (s_lenS F_us9 (ej rfl rfl) (w0 rfl) (s_cmp (r := decide ((s.size : Int) = 0)) (ej rfl rfl) ev_c rfl (w0 rfl) ?_))))))))))
  by_cases h1 : (s.size : Int) = 0
  · refine s_move (v := .bool true) (vb (ej rfl rfl) (decide_eq_true h1)) (w0 rfl) (s_skip (wn rfl rfl rfl rfl rfl) (s_skip (wn rfl rfl rfl rfl rfl) (s_skip (wn rfl rfl rfl rfl rfl) (s_pick1 (v := .bool true) (ej rfl rfl) ev_c (w0 rfl) (s_move (v := .bool true) (ej rfl rfl) (w0 rfl) (s_skip (wn rfl rfl rfl rfl rfl) (s_skip (wn rfl rfl rfl rfl rfl) (s_skip (wn rfl rfl rfl rfl rfl) (s_skip (wn rfl rfl rfl rfl rfl) (s_pick1 (v := .bool true) (ej rfl rfl) ev_c (w0 rfl) (s_move (v := .bool true) (ej rfl rfl) (w0 rfl) ?_)))))))))))
    refine s_skip (wn rfl rfl rfl rfl rfl) (s_skip (wn rfl rfl rfl rfl rfl) (s_skip (wn rfl rfl rfl rfl rfl) (s_skip (wn rfl rfl rfl rfl rfl) (s_pick1 (v := .bool true) (ej rfl rfl) ev_c (w0 rfl) (c_done (n_then (c_cond1 (ej rfl rfl) (c_seq (c_reg (s_assign (v := .bool false) ev_c (w0 rfl) (c_done ?_)))))))))))
    refine n_then (c_ret (r_then (ret1 (v := .bool false) rfl rfl rfl ?_)))
    refine ⟨_,rfl,?_,(Ext.refl w)⟩
    (simp only [wordB]; congr 1; symm; simp only [decide_eq_false_iff_not]; omega)
  refine s_move (v := .bool false) (vb (ej rfl rfl) (decide_eq_false h1)) (w0 rfl) (s_move (v := .string s) (ej rfl rfl) (wy rfl rfl rfl rfl) (s_lenS F_us9 (ej rfl rfl) (wy rfl rfl rfl rfl) (s_cmp (r := decide (120 < (s.size : Int))) (ej rfl rfl) ev_c rfl (wy rfl rfl rfl rfl) (s_pick0 (v := .bool (decide (120 < (s.size : Int)))) (ej rfl rfl) (ej rfl rfl) (w0 rfl) ?_))))
  by_cases h2 : 120 < (s.size : Int)
  · refine s_move (v := .bool true) (vb (ej rfl rfl) (decide_eq_true h2)) (w0 rfl) (s_skip (wn rfl rfl rfl rfl rfl) (s_skip (wn rfl rfl rfl rfl rfl) (s_skip (wn rfl rfl rfl rfl rfl) (s_skip (wn rfl rfl rfl rfl rfl) (s_pick1 (v := .bool true) (ej rfl rfl) ev_c (w0 rfl) (s_move (v := .bool true) (ej rfl rfl) (w0 rfl) (s_skip (wn rfl rfl rfl rfl rfl) (s_skip (wn rfl rfl rfl rfl rfl) (s_skip (wn rfl rfl rfl rfl rfl) (s_skip (wn rfl rfl rfl rfl rfl) (s_pick1 (v := .bool true) (ej rfl rfl) ev_c (w0 rfl) ?_)))))))))))
    refine c_done (n_then (c_cond1 (ej rfl rfl) (c_seq (c_reg (s_assign (v := .bool false) ev_c (w0 rfl) (c_done (n_then (c_ret (r_then (ret1 (v := .bool false) rfl rfl rfl ?_))))))))))
    refine ⟨_,rfl,?_,(Ext.refl w)⟩
    (simp only [wordB]; congr 1; symm; simp only [decide_eq_false_iff_not]; omega)
  refine s_move (v := .bool false) (vb (ej rfl rfl) (decide_eq_false h2)) (w0 rfl) (s_move (v := .string s) (ej rfl rfl) (wy rfl rfl rfl rfl) (s_byte (j := 0) F_us9 (ej rfl rfl) ev_c rfl (by omega) (wy rfl rfl rfl rfl) (s_move (v := .int .u8 lo) (ej rfl rfl) (wy rfl rfl rfl rfl) (s_cmp (r := decide ((byteAt s 0 : Int) < lo)) (ej rfl rfl) (ej rfl rfl) rfl (wy rfl rfl rfl rfl) (s_pick0 (v := .bool (decide ((byteAt s 0 : Int) < lo))) (ej rfl rfl) (ej rfl rfl) (w0 rfl) ?_)))))
  by_cases h3 : (byteAt s 0 : Int) < lo
  · refine s_move (v := .bool true) (vb (ej rfl rfl) (decide_eq_true h3)) (w0 rfl) (s_skip (wn rfl rfl rfl rfl rfl) (s_skip (wn rfl rfl rfl rfl rfl) (s_skip (wn rfl rfl rfl rfl rfl) (s_skip (wn rfl rfl rfl rfl rfl) (s_pick1 (v := .bool true) (ej rfl rfl) ev_c (w0 rfl) (c_done (n_then (c_cond1 (ej rfl rfl) (c_seq (c_reg (s_assign (v := .bool false) ev_c (w0 rfl) ?_)))))))))))
    refine c_done (n_then (c_ret (r_then (ret1 (v := .bool false) rfl rfl rfl ?_))))
    refine ⟨_,rfl,?_,(Ext.refl w)⟩
    (simp only [wordB]; congr 1; symm; simp only [decide_eq_false_iff_not]; omega)
  refine s_move (v := .bool false) (vb (ej rfl rfl) (decide_eq_false h3)) (w0 rfl) (s_move (v := .string s) (ej rfl rfl) (wy rfl rfl rfl rfl) (s_byte (j := 0) F_us9 (ej rfl rfl) ev_c rfl (by omega) (wy rfl rfl rfl rfl) (s_move (v := .int .u8 hi) (ej rfl rfl) (wy rfl rfl rfl rfl) (s_cmp (r := decide (hi < (byteAt s 0 : Int))) (ej rfl rfl) (ej rfl rfl) rfl (wy rfl rfl rfl rfl) (s_pick0 (v := .bool (decide (hi < (byteAt s 0 : Int)))) (ej rfl rfl) (ej rfl rfl) (w0 rfl) (c_done (n_then ?_)))))))
  by_cases h4 : hi < (byteAt s 0 : Int)
  · refine c_cond1 (vb (ej rfl rfl) (decide_eq_true h4)) (c_seq (c_reg (s_assign (v := .bool false) ev_c (w0 rfl) (c_done (n_then (c_ret (r_then (ret1 (v := .bool false) rfl rfl rfl ?_))))))))
    refine ⟨_,rfl,?_,(Ext.refl w)⟩
    (simp only [wordB]; congr 1; symm; simp only [decide_eq_false_iff_not]; omega)
  refine c_cond0 (vb (ej rfl rfl) (decide_eq_false h4)) (c_skip (n_then (c_seq (c_seq (c_reg (s_move (v := .string s) (ej rfl rfl) (w0 rfl) (s_sbytes F_us9 F_ul81 F_ui5 (ej rfl rfl) (w0 rfl) ?_)))))))
  intro w7 g5 c6 sb8 x9
  refine s_lenL F_l81 (ej rfl rfl) (w0 rfl) (s_move (v := .int .i64 0) ev_c (w0 rfl) (c_done (n_then (c_block (c_loop (α := Nat) (fun (i : Nat) env_ w_ => Ext w7 w_ ∧ (∀ j,j < i → letterB (byteAt s j) = true) ∧ env_ 30 = .slice (some ⟨g5,0,none⟩) s.size c6 ∧ env_ 31 = .int .i64 (s.size : Int) ∧ env_ 32 = .int .i64 ((i : Nat) : Int)) (fun i => s.size - i) (0) ⟨Ext.refl _,fun j hj => absurd hj (Nat.not_lt_zero j),rfl,rfl,rfl⟩ ?_)))))
  rintro i env12 w10 ⟨x11,i13,e14,e15,e16⟩
  refine c_seq (c_reg (s_cmp (r := decide (((i : Nat) : Int) < (s.size : Int))) (ej rfl e16) (ej rfl e15) rfl (w0 rfl) (c_done (n_then (c_seq ?_)))))
  by_cases h17 : ((i : Nat) : Int) < (s.size : Int)
  · refine c_cond1 (vb (ej rfl rfl) (decide_eq_true h17)) (c_skip (n_then (c_seq (c_block (c_seq (c_reg (s_indexR (j := i) F_l81 (ej rfl e14) rfl (ej rfl e16) rfl (by omega) (w0 rfl) (s_load (v := .int .u8 (byteAt s i : Int)) F_o5 (ej rfl rfl) ((SB.ext sb8 x11) i (by omega)) (w0 rfl) (s_assign (v := .int .u8 (byteAt s i : Int)) (ej rfl rfl) (w0 rfl) (c_done (n_then ?_)))))))))))
    refine c_seq (c_reg (s_move (v := .int .u8 (byteAt s i : Int)) (ej rfl rfl) (w0 rfl) (s_cmp (r := decide ((byteAt s i : Int) < 97)) (ej rfl rfl) ev_c rfl (w0 rfl) ?_)))
    by_cases h18 : (byteAt s i : Int) < 97
    · refine s_move (v := .bool true) (vb (ej rfl rfl) (decide_eq_true h18)) (w0 rfl) (s_skip (wn rfl rfl rfl rfl rfl) (s_skip (wn rfl rfl rfl rfl rfl) (s_pick1 (v := .bool true) (ej rfl rfl) ev_c (w0 rfl) (s_move (v := .bool true) (ej rfl rfl) (w0 rfl) (s_move (v := .int .u8 (byteAt s i : Int)) (ej rfl rfl) (wy rfl rfl rfl rfl) (s_cmp (r := decide ((byteAt s i : Int) < 65)) (ej rfl rfl) ev_c rfl (wy rfl rfl rfl rfl) ?_))))))
      by_cases h19 : (byteAt s i : Int) < 65
      · refine s_move (v := .bool true) (vb (ej rfl rfl) (decide_eq_true h19)) (wy rfl rfl rfl rfl) (s_skip (wn rfl rfl rfl rfl rfl) (s_skip (wn rfl rfl rfl rfl rfl) (s_pick1 (v := .bool true) (ej rfl rfl) ev_c (wy rfl rfl rfl rfl) (s_pick1 (v := .bool true) (ej rfl rfl) (ej rfl rfl) (w0 rfl) (s_move (v := .bool true) (ej rfl rfl) (w0 rfl) (s_move (v := .int .u8 (byteAt s i : Int)) (ej rfl rfl) (wy rfl rfl rfl rfl) (s_cmp (r := decide ((byteAt s i : Int) < 48)) (ej rfl rfl) ev_c rfl (wy rfl rfl rfl rfl) ?_)))))))
        by_cases h20 : (byteAt s i : Int) < 48
        · refine s_move (v := .bool true) (vb (ej rfl rfl) (decide_eq_true h20)) (wy rfl rfl rfl rfl) (s_skip (wn rfl rfl rfl rfl rfl) (s_skip (wn rfl rfl rfl rfl rfl) (s_pick1 (v := .bool true) (ej rfl rfl) ev_c (wy rfl rfl rfl rfl) (s_pick1 (v := .bool true) (ej rfl rfl) (ej rfl rfl) (w0 rfl) (s_move (v := .bool true) (ej rfl rfl) (w0 rfl) (s_move (v := .int .u8 (byteAt s i : Int)) (ej rfl rfl) (wy rfl rfl rfl rfl) (s_cmp (r := !decide ((byteAt s i : Int) = 95)) (ej rfl rfl) ev_c rfl (wy rfl rfl rfl rfl) (s_pick1 (v := .bool (!decide ((byteAt s i : Int) = 95))) (ej rfl rfl) (ej rfl rfl) (w0 rfl) (c_done (n_then ?_))))))))))
          by_cases h21 : (byteAt s i : Int) = 95
          · refine c_cond0 (vb (ej rfl rfl) (nb0 h21)) (c_skip (n_block (n_then (c_reg (s_add (r := ((i + 1 : Nat) : Int)) (ej rfl e16) ev_c (by omega) (by omega) (w0 rfl) (s_move (v := .int .i64 ((i + 1 : Nat) : Int)) (ej rfl rfl) (w0 rfl) (c_done ?_)))))))
            exact ⟨(i + 1),_,rfl,⟨x11,(step_all0 i13 (by simp [letterB]; omega)),e14,e15,rfl⟩,(show s.size - (i + 1) < s.size - i by omega)⟩
          refine c_cond1 (vb (ej rfl rfl) (nb1 h21)) (c_seq (c_reg (s_assign (v := .bool false) ev_c (w0 rfl) (c_done (n_then (c_ret (r_block (r_then (r_then (r_block (r_then ?_)))))))))))
          refine ret1 (v := .bool false) rfl rfl rfl ?_
          refine ⟨_,rfl,?_,(Ext.trans x9 x11)⟩
          (refine congrArg Value.bool (Eq.symm (wordB_no i (by omega) (by simp [letterB]; omega))))
        refine s_move (v := .bool false) (vb (ej rfl rfl) (decide_eq_false h20)) (wy rfl rfl rfl rfl) (s_move (v := .int .u8 (byteAt s i : Int)) (ej rfl rfl) (wy rfl rfl rfl rfl) (s_cmp (r := decide (57 < (byteAt s i : Int))) (ej rfl rfl) ev_c rfl (wy rfl rfl rfl rfl) (s_pick0 (v := .bool (decide (57 < (byteAt s i : Int)))) (ej rfl rfl) (ej rfl rfl) (wy rfl rfl rfl rfl) (s_pick1 (v := .bool (decide (57 < (byteAt s i : Int)))) (ej rfl rfl) (ej rfl rfl) (w0 rfl) ?_))))
        by_cases h22 : 57 < (byteAt s i : Int)
        · refine s_move (v := .bool true) (vb (ej rfl rfl) (decide_eq_true h22)) (w0 rfl) (s_move (v := .int .u8 (byteAt s i : Int)) (ej rfl rfl) (wy rfl rfl rfl rfl) (s_cmp (r := !decide ((byteAt s i : Int) = 95)) (ej rfl rfl) ev_c rfl (wy rfl rfl rfl rfl) (s_pick1 (v := .bool (!decide ((byteAt s i : Int) = 95))) (ej rfl rfl) (ej rfl rfl) (w0 rfl) (c_done (n_then ?_)))))
          by_cases h23 : (byteAt s i : Int) = 95
          · refine c_cond0 (vb (ej rfl rfl) (nb0 h23)) (c_skip (n_block (n_then (c_reg (s_add (r := ((i + 1 : Nat) : Int)) (ej rfl e16) ev_c (by omega) (by omega) (w0 rfl) (s_move (v := .int .i64 ((i + 1 : Nat) : Int)) (ej rfl rfl) (w0 rfl) (c_done ?_)))))))
            exact ⟨(i + 1),_,rfl,⟨x11,(step_all0 i13 (by simp [letterB]; omega)),e14,e15,rfl⟩,(show s.size - (i + 1) < s.size - i by omega)⟩
          refine c_cond1 (vb (ej rfl rfl) (nb1 h23)) (c_seq (c_reg (s_assign (v := .bool false) ev_c (w0 rfl) (c_done (n_then (c_ret (r_block (r_then (r_then (r_block (r_then ?_)))))))))))
          refine ret1 (v := .bool false) rfl rfl rfl ?_
          refine ⟨_,rfl,?_,(Ext.trans x9 x11)⟩
          (refine congrArg Value.bool (Eq.symm (wordB_no i (by omega) (by simp [letterB]; omega))))
        refine s_move (v := .bool false) (vb (ej rfl rfl) (decide_eq_false h22)) (w0 rfl) (s_skip (wn rfl rfl rfl rfl rfl) (s_skip (wn rfl rfl rfl rfl rfl) (s_pick0 (v := .bool false) (ej rfl rfl) ev_c (w0 rfl) (c_done (n_then (c_cond0 (ej rfl rfl) (c_skip (n_block (n_then (c_reg (s_add (r := ((i + 1 : Nat) : Int)) (ej rfl e16) ev_c (by omega) (by omega) (w0 rfl) ?_)))))))))))
        refine s_move (v := .int .i64 ((i + 1 : Nat) : Int)) (ej rfl rfl) (w0 rfl) (c_done ?_)
        exact ⟨(i + 1),_,rfl,⟨x11,(step_all0 i13 (by simp [letterB]; omega)),e14,e15,rfl⟩,(show s.size - (i + 1) < s.size - i by omega)⟩
      refine s_move (v := .bool false) (vb (ej rfl rfl) (decide_eq_false h19)) (wy rfl rfl rfl rfl) (s_move (v := .int .u8 (byteAt s i : Int)) (ej rfl rfl) (wy rfl rfl rfl rfl) (s_cmp (r := decide (90 < (byteAt s i : Int))) (ej rfl rfl) ev_c rfl (wy rfl rfl rfl rfl) (s_pick0 (v := .bool (decide (90 < (byteAt s i : Int)))) (ej rfl rfl) (ej rfl rfl) (wy rfl rfl rfl rfl) (s_pick1 (v := .bool (decide (90 < (byteAt s i : Int)))) (ej rfl rfl) (ej rfl rfl) (w0 rfl) ?_))))
      by_cases h24 : 90 < (byteAt s i : Int)
      · refine s_move (v := .bool true) (vb (ej rfl rfl) (decide_eq_true h24)) (w0 rfl) (s_move (v := .int .u8 (byteAt s i : Int)) (ej rfl rfl) (wy rfl rfl rfl rfl) (s_cmp (r := decide ((byteAt s i : Int) < 48)) (ej rfl rfl) ev_c rfl (wy rfl rfl rfl rfl) ?_))
        by_cases h25 : (byteAt s i : Int) < 48
        · refine s_move (v := .bool true) (vb (ej rfl rfl) (decide_eq_true h25)) (wy rfl rfl rfl rfl) (s_skip (wn rfl rfl rfl rfl rfl) (s_skip (wn rfl rfl rfl rfl rfl) (s_pick1 (v := .bool true) (ej rfl rfl) ev_c (wy rfl rfl rfl rfl) (s_pick1 (v := .bool true) (ej rfl rfl) (ej rfl rfl) (w0 rfl) (s_move (v := .bool true) (ej rfl rfl) (w0 rfl) (s_move (v := .int .u8 (byteAt s i : Int)) (ej rfl rfl) (wy rfl rfl rfl rfl) (s_cmp (r := !decide ((byteAt s i : Int) = 95)) (ej rfl rfl) ev_c rfl (wy rfl rfl rfl rfl) (s_pick1 (v := .bool (!decide ((byteAt s i : Int) = 95))) (ej rfl rfl) (ej rfl rfl) (w0 rfl) (c_done (n_then ?_))))))))))
          by_cases h26 : (byteAt s i : Int) = 95
          · refine c_cond0 (vb (ej rfl rfl) (nb0 h26)) (c_skip (n_block (n_then (c_reg (s_add (r := ((i + 1 : Nat) : Int)) (ej rfl e16) ev_c (by omega) (by omega) (w0 rfl) (s_move (v := .int .i64 ((i + 1 : Nat) : Int)) (ej rfl rfl) (w0 rfl) (c_done ?_)))))))
            exact ⟨(i + 1),_,rfl,⟨x11,(step_all0 i13 (by simp [letterB]; omega)),e14,e15,rfl⟩,(show s.size - (i + 1) < s.size - i by omega)⟩
          refine c_cond1 (vb (ej rfl rfl) (nb1 h26)) (c_seq (c_reg (s_assign (v := .bool false) ev_c (w0 rfl) (c_done (n_then (c_ret (r_block (r_then (r_then (r_block (r_then ?_)))))))))))
          refine ret1 (v := .bool false) rfl rfl rfl ?_
          refine ⟨_,rfl,?_,(Ext.trans x9 x11)⟩
          (refine congrArg Value.bool (Eq.symm (wordB_no i (by omega) (by simp [letterB]; omega))))
        refine s_move (v := .bool false) (vb (ej rfl rfl) (decide_eq_false h25)) (wy rfl rfl rfl rfl) (s_move (v := .int .u8 (byteAt s i : Int)) (ej rfl rfl) (wy rfl rfl rfl rfl) (s_cmp (r := decide (57 < (byteAt s i : Int))) (ej rfl rfl) ev_c rfl (wy rfl rfl rfl rfl) (s_pick0 (v := .bool (decide (57 < (byteAt s i : Int)))) (ej rfl rfl) (ej rfl rfl) (wy rfl rfl rfl rfl) (s_pick1 (v := .bool (decide (57 < (byteAt s i : Int)))) (ej rfl rfl) (ej rfl rfl) (w0 rfl) ?_))))
        by_cases h27 : 57 < (byteAt s i : Int)
        · refine s_move (v := .bool true) (vb (ej rfl rfl) (decide_eq_true h27)) (w0 rfl) (s_move (v := .int .u8 (byteAt s i : Int)) (ej rfl rfl) (wy rfl rfl rfl rfl) (s_cmp (r := !decide ((byteAt s i : Int) = 95)) (ej rfl rfl) ev_c rfl (wy rfl rfl rfl rfl) (s_pick1 (v := .bool (!decide ((byteAt s i : Int) = 95))) (ej rfl rfl) (ej rfl rfl) (w0 rfl) (c_done (n_then ?_)))))
          by_cases h28 : (byteAt s i : Int) = 95
          · refine c_cond0 (vb (ej rfl rfl) (nb0 h28)) (c_skip (n_block (n_then (c_reg (s_add (r := ((i + 1 : Nat) : Int)) (ej rfl e16) ev_c (by omega) (by omega) (w0 rfl) (s_move (v := .int .i64 ((i + 1 : Nat) : Int)) (ej rfl rfl) (w0 rfl) (c_done ?_)))))))
            exact ⟨(i + 1),_,rfl,⟨x11,(step_all0 i13 (by simp [letterB]; omega)),e14,e15,rfl⟩,(show s.size - (i + 1) < s.size - i by omega)⟩
          refine c_cond1 (vb (ej rfl rfl) (nb1 h28)) (c_seq (c_reg (s_assign (v := .bool false) ev_c (w0 rfl) (c_done (n_then (c_ret (r_block (r_then (r_then (r_block (r_then ?_)))))))))))
          refine ret1 (v := .bool false) rfl rfl rfl ?_
          refine ⟨_,rfl,?_,(Ext.trans x9 x11)⟩
          (refine congrArg Value.bool (Eq.symm (wordB_no i (by omega) (by simp [letterB]; omega))))
        refine s_move (v := .bool false) (vb (ej rfl rfl) (decide_eq_false h27)) (w0 rfl) (s_skip (wn rfl rfl rfl rfl rfl) (s_skip (wn rfl rfl rfl rfl rfl) (s_pick0 (v := .bool false) (ej rfl rfl) ev_c (w0 rfl) (c_done (n_then (c_cond0 (ej rfl rfl) (c_skip (n_block (n_then (c_reg (s_add (r := ((i + 1 : Nat) : Int)) (ej rfl e16) ev_c (by omega) (by omega) (w0 rfl) ?_)))))))))))
        refine s_move (v := .int .i64 ((i + 1 : Nat) : Int)) (ej rfl rfl) (w0 rfl) (c_done ?_)
        exact ⟨(i + 1),_,rfl,⟨x11,(step_all0 i13 (by simp [letterB]; omega)),e14,e15,rfl⟩,(show s.size - (i + 1) < s.size - i by omega)⟩
      refine s_move (v := .bool false) (vb (ej rfl rfl) (decide_eq_false h24)) (w0 rfl) (s_skip (wn rfl rfl rfl rfl rfl) (s_skip (wn rfl rfl rfl rfl rfl) (s_skip (wn rfl rfl rfl rfl rfl) (s_skip (wu rfl rfl rfl rfl) (s_skip (wu rfl rfl rfl rfl) (s_skip (wn rfl rfl rfl rfl rfl) (s_pick0 (v := .bool false) (ej rfl rfl) ev_c (w0 rfl) (s_move (v := .bool false) (ej rfl rfl) (w0 rfl) (s_skip (wn rfl rfl rfl rfl rfl) (s_skip (wn rfl rfl rfl rfl rfl) (s_pick0 (v := .bool false) (ej rfl rfl) ev_c (w0 rfl) ?_)))))))))))
      refine c_done (n_then (c_cond0 (ej rfl rfl) (c_skip (n_block (n_then (c_reg (s_add (r := ((i + 1 : Nat) : Int)) (ej rfl e16) ev_c (by omega) (by omega) (w0 rfl) (s_move (v := .int .i64 ((i + 1 : Nat) : Int)) (ej rfl rfl) (w0 rfl) (c_done ?_)))))))))
      exact ⟨(i + 1),_,rfl,⟨x11,(step_all0 i13 (by simp [letterB]; omega)),e14,e15,rfl⟩,(show s.size - (i + 1) < s.size - i by omega)⟩
    refine s_move (v := .bool false) (vb (ej rfl rfl) (decide_eq_false h18)) (w0 rfl) (s_move (v := .int .u8 (byteAt s i : Int)) (ej rfl rfl) (wy rfl rfl rfl rfl) (s_cmp (r := decide (122 < (byteAt s i : Int))) (ej rfl rfl) ev_c rfl (wy rfl rfl rfl rfl) (s_pick0 (v := .bool (decide (122 < (byteAt s i : Int)))) (ej rfl rfl) (ej rfl rfl) (w0 rfl) ?_)))
    by_cases h29 : 122 < (byteAt s i : Int)
    · refine s_move (v := .bool true) (vb (ej rfl rfl) (decide_eq_true h29)) (w0 rfl) (s_move (v := .int .u8 (byteAt s i : Int)) (ej rfl rfl) (wy rfl rfl rfl rfl) (s_cmp (r := decide ((byteAt s i : Int) < 65)) (ej rfl rfl) ev_c rfl (wy rfl rfl rfl rfl) ?_))
      by_cases h30 : (byteAt s i : Int) < 65
      · refine s_move (v := .bool true) (vb (ej rfl rfl) (decide_eq_true h30)) (wy rfl rfl rfl rfl) (s_skip (wn rfl rfl rfl rfl rfl) (s_skip (wn rfl rfl rfl rfl rfl) (s_pick1 (v := .bool true) (ej rfl rfl) ev_c (wy rfl rfl rfl rfl) (s_pick1 (v := .bool true) (ej rfl rfl) (ej rfl rfl) (w0 rfl) (s_move (v := .bool true) (ej rfl rfl) (w0 rfl) (s_move (v := .int .u8 (byteAt s i : Int)) (ej rfl rfl) (wy rfl rfl rfl rfl) (s_cmp (r := decide ((byteAt s i : Int) < 48)) (ej rfl rfl) ev_c rfl (wy rfl rfl rfl rfl) ?_)))))))
        by_cases h31 : (byteAt s i : Int) < 48
        · refine s_move (v := .bool true) (vb (ej rfl rfl) (decide_eq_true h31)) (wy rfl rfl rfl rfl) (s_skip (wn rfl rfl rfl rfl rfl) (s_skip (wn rfl rfl rfl rfl rfl) (s_pick1 (v := .bool true) (ej rfl rfl) ev_c (wy rfl rfl rfl rfl) (s_pick1 (v := .bool true) (ej rfl rfl) (ej rfl rfl) (w0 rfl) (s_move (v := .bool true) (ej rfl rfl) (w0 rfl) (s_move (v := .int .u8 (byteAt s i : Int)) (ej rfl rfl) (wy rfl rfl rfl rfl) (s_cmp (r := !decide ((byteAt s i : Int) = 95)) (ej rfl rfl) ev_c rfl (wy rfl rfl rfl rfl) (s_pick1 (v := .bool (!decide ((byteAt s i : Int) = 95))) (ej rfl rfl) (ej rfl rfl) (w0 rfl) (c_done (n_then ?_))))))))))
          by_cases h32 : (byteAt s i : Int) = 95
          · refine c_cond0 (vb (ej rfl rfl) (nb0 h32)) (c_skip (n_block (n_then (c_reg (s_add (r := ((i + 1 : Nat) : Int)) (ej rfl e16) ev_c (by omega) (by omega) (w0 rfl) (s_move (v := .int .i64 ((i + 1 : Nat) : Int)) (ej rfl rfl) (w0 rfl) (c_done ?_)))))))
            exact ⟨(i + 1),_,rfl,⟨x11,(step_all0 i13 (by simp [letterB]; omega)),e14,e15,rfl⟩,(show s.size - (i + 1) < s.size - i by omega)⟩
          refine c_cond1 (vb (ej rfl rfl) (nb1 h32)) (c_seq (c_reg (s_assign (v := .bool false) ev_c (w0 rfl) (c_done (n_then (c_ret (r_block (r_then (r_then (r_block (r_then ?_)))))))))))
          refine ret1 (v := .bool false) rfl rfl rfl ?_
          refine ⟨_,rfl,?_,(Ext.trans x9 x11)⟩
          (refine congrArg Value.bool (Eq.symm (wordB_no i (by omega) (by simp [letterB]; omega))))
        refine s_move (v := .bool false) (vb (ej rfl rfl) (decide_eq_false h31)) (wy rfl rfl rfl rfl) (s_move (v := .int .u8 (byteAt s i : Int)) (ej rfl rfl) (wy rfl rfl rfl rfl) (s_cmp (r := decide (57 < (byteAt s i : Int))) (ej rfl rfl) ev_c rfl (wy rfl rfl rfl rfl) (s_pick0 (v := .bool (decide (57 < (byteAt s i : Int)))) (ej rfl rfl) (ej rfl rfl) (wy rfl rfl rfl rfl) (s_pick1 (v := .bool (decide (57 < (byteAt s i : Int)))) (ej rfl rfl) (ej rfl rfl) (w0 rfl) ?_))))
        by_cases h33 : 57 < (byteAt s i : Int)
        · refine s_move (v := .bool true) (vb (ej rfl rfl) (decide_eq_true h33)) (w0 rfl) (s_move (v := .int .u8 (byteAt s i : Int)) (ej rfl rfl) (wy rfl rfl rfl rfl) (s_cmp (r := !decide ((byteAt s i : Int) = 95)) (ej rfl rfl) ev_c rfl (wy rfl rfl rfl rfl) (s_pick1 (v := .bool (!decide ((byteAt s i : Int) = 95))) (ej rfl rfl) (ej rfl rfl) (w0 rfl) (c_done (n_then ?_)))))
          by_cases h34 : (byteAt s i : Int) = 95
          · refine c_cond0 (vb (ej rfl rfl) (nb0 h34)) (c_skip (n_block (n_then (c_reg (s_add (r := ((i + 1 : Nat) : Int)) (ej rfl e16) ev_c (by omega) (by omega) (w0 rfl) (s_move (v := .int .i64 ((i + 1 : Nat) : Int)) (ej rfl rfl) (w0 rfl) (c_done ?_)))))))
            exact ⟨(i + 1),_,rfl,⟨x11,(step_all0 i13 (by simp [letterB]; omega)),e14,e15,rfl⟩,(show s.size - (i + 1) < s.size - i by omega)⟩
          refine c_cond1 (vb (ej rfl rfl) (nb1 h34)) (c_seq (c_reg (s_assign (v := .bool false) ev_c (w0 rfl) (c_done (n_then (c_ret (r_block (r_then (r_then (r_block (r_then ?_)))))))))))
          refine ret1 (v := .bool false) rfl rfl rfl ?_
          refine ⟨_,rfl,?_,(Ext.trans x9 x11)⟩
          (refine congrArg Value.bool (Eq.symm (wordB_no i (by omega) (by simp [letterB]; omega))))
        refine s_move (v := .bool false) (vb (ej rfl rfl) (decide_eq_false h33)) (w0 rfl) (s_skip (wn rfl rfl rfl rfl rfl) (s_skip (wn rfl rfl rfl rfl rfl) (s_pick0 (v := .bool false) (ej rfl rfl) ev_c (w0 rfl) (c_done (n_then (c_cond0 (ej rfl rfl) (c_skip (n_block (n_then (c_reg (s_add (r := ((i + 1 : Nat) : Int)) (ej rfl e16) ev_c (by omega) (by omega) (w0 rfl) ?_)))))))))))
        refine s_move (v := .int .i64 ((i + 1 : Nat) : Int)) (ej rfl rfl) (w0 rfl) (c_done ?_)
        exact ⟨(i + 1),_,rfl,⟨x11,(step_all0 i13 (by simp [letterB]; omega)),e14,e15,rfl⟩,(show s.size - (i + 1) < s.size - i by omega)⟩
      refine s_move (v := .bool false) (vb (ej rfl rfl) (decide_eq_false h30)) (wy rfl rfl rfl rfl) (s_move (v := .int .u8 (byteAt s i : Int)) (ej rfl rfl) (wy rfl rfl rfl rfl) (s_cmp (r := decide (90 < (byteAt s i : Int))) (ej rfl rfl) ev_c rfl (wy rfl rfl rfl rfl) (s_pick0 (v := .bool (decide (90 < (byteAt s i : Int)))) (ej rfl rfl) (ej rfl rfl) (wy rfl rfl rfl rfl) (s_pick1 (v := .bool (decide (90 < (byteAt s i : Int)))) (ej rfl rfl) (ej rfl rfl) (w0 rfl) ?_))))
      by_cases h35 : 90 < (byteAt s i : Int)
      · refine s_move (v := .bool true) (vb (ej rfl rfl) (decide_eq_true h35)) (w0 rfl) (s_move (v := .int .u8 (byteAt s i : Int)) (ej rfl rfl) (wy rfl rfl rfl rfl) (s_cmp (r := decide ((byteAt s i : Int) < 48)) (ej rfl rfl) ev_c rfl (wy rfl rfl rfl rfl) ?_))
        by_cases h36 : (byteAt s i : Int) < 48
        · refine s_move (v := .bool true) (vb (ej rfl rfl) (decide_eq_true h36)) (wy rfl rfl rfl rfl) (s_skip (wn rfl rfl rfl rfl rfl) (s_skip (wn rfl rfl rfl rfl rfl) (s_pick1 (v := .bool true) (ej rfl rfl) ev_c (wy rfl rfl rfl rfl) (s_pick1 (v := .bool true) (ej rfl rfl) (ej rfl rfl) (w0 rfl) (s_move (v := .bool true) (ej rfl rfl) (w0 rfl) (s_move (v := .int .u8 (byteAt s i : Int)) (ej rfl rfl) (wy rfl rfl rfl rfl) (s_cmp (r := !decide ((byteAt s i : Int) = 95)) (ej rfl rfl) ev_c rfl (wy rfl rfl rfl rfl) (s_pick1 (v := .bool (!decide ((byteAt s i : Int) = 95))) (ej rfl rfl) (ej rfl rfl) (w0 rfl) (c_done (n_then ?_))))))))))
          by_cases h37 : (byteAt s i : Int) = 95
          · refine c_cond0 (vb (ej rfl rfl) (nb0 h37)) (c_skip (n_block (n_then (c_reg (s_add (r := ((i + 1 : Nat) : Int)) (ej rfl e16) ev_c (by omega) (by omega) (w0 rfl) (s_move (v := .int .i64 ((i + 1 : Nat) : Int)) (ej rfl rfl) (w0 rfl) (c_done ?_)))))))
            exact ⟨(i + 1),_,rfl,⟨x11,(step_all0 i13 (by simp [letterB]; omega)),e14,e15,rfl⟩,(show s.size - (i + 1) < s.size - i by omega)⟩
          refine c_cond1 (vb (ej rfl rfl) (nb1 h37)) (c_seq (c_reg (s_assign (v := .bool false) ev_c (w0 rfl) (c_done (n_then (c_ret (r_block (r_then (r_then (r_block (r_then ?_)))))))))))
          refine ret1 (v := .bool false) rfl rfl rfl ?_
          refine ⟨_,rfl,?_,(Ext.trans x9 x11)⟩
          (refine congrArg Value.bool (Eq.symm (wordB_no i (by omega) (by simp [letterB]; omega))))
        refine s_move (v := .bool false) (vb (ej rfl rfl) (decide_eq_false h36)) (wy rfl rfl rfl rfl) (s_move (v := .int .u8 (byteAt s i : Int)) (ej rfl rfl) (wy rfl rfl rfl rfl) (s_cmp (r := decide (57 < (byteAt s i : Int))) (ej rfl rfl) ev_c rfl (wy rfl rfl rfl rfl) (s_pick0 (v := .bool (decide (57 < (byteAt s i : Int)))) (ej rfl rfl) (ej rfl rfl) (wy rfl rfl rfl rfl) (s_pick1 (v := .bool (decide (57 < (byteAt s i : Int)))) (ej rfl rfl) (ej rfl rfl) (w0 rfl) ?_))))
        by_cases h38 : 57 < (byteAt s i : Int)
        · refine s_move (v := .bool true) (vb (ej rfl rfl) (decide_eq_true h38)) (w0 rfl) (s_move (v := .int .u8 (byteAt s i : Int)) (ej rfl rfl) (wy rfl rfl rfl rfl) (s_cmp (r := !decide ((byteAt s i : Int) = 95)) (ej rfl rfl) ev_c rfl (wy rfl rfl rfl rfl) (s_pick1 (v := .bool (!decide ((byteAt s i : Int) = 95))) (ej rfl rfl) (ej rfl rfl) (w0 rfl) (c_done (n_then ?_)))))
          by_cases h39 : (byteAt s i : Int) = 95
          · refine c_cond0 (vb (ej rfl rfl) (nb0 h39)) (c_skip (n_block (n_then (c_reg (s_add (r := ((i + 1 : Nat) : Int)) (ej rfl e16) ev_c (by omega) (by omega) (w0 rfl) (s_move (v := .int .i64 ((i + 1 : Nat) : Int)) (ej rfl rfl) (w0 rfl) (c_done ?_)))))))
            exact ⟨(i + 1),_,rfl,⟨x11,(step_all0 i13 (by simp [letterB]; omega)),e14,e15,rfl⟩,(show s.size - (i + 1) < s.size - i by omega)⟩
          refine c_cond1 (vb (ej rfl rfl) (nb1 h39)) (c_seq (c_reg (s_assign (v := .bool false) ev_c (w0 rfl) (c_done (n_then (c_ret (r_block (r_then (r_then (r_block (r_then ?_)))))))))))
          refine ret1 (v := .bool false) rfl rfl rfl ?_
          refine ⟨_,rfl,?_,(Ext.trans x9 x11)⟩
          (refine congrArg Value.bool (Eq.symm (wordB_no i (by omega) (by simp [letterB]; omega))))
        refine s_move (v := .bool false) (vb (ej rfl rfl) (decide_eq_false h38)) (w0 rfl) (s_skip (wn rfl rfl rfl rfl rfl) (s_skip (wn rfl rfl rfl rfl rfl) (s_pick0 (v := .bool false) (ej rfl rfl) ev_c (w0 rfl) (c_done (n_then (c_cond0 (ej rfl rfl) (c_skip (n_block (n_then (c_reg (s_add (r := ((i + 1 : Nat) : Int)) (ej rfl e16) ev_c (by omega) (by omega) (w0 rfl) ?_)))))))))))
        refine s_move (v := .int .i64 ((i + 1 : Nat) : Int)) (ej rfl rfl) (w0 rfl) (c_done ?_)
        exact ⟨(i + 1),_,rfl,⟨x11,(step_all0 i13 (by simp [letterB]; omega)),e14,e15,rfl⟩,(show s.size - (i + 1) < s.size - i by omega)⟩
      refine s_move (v := .bool false) (vb (ej rfl rfl) (decide_eq_false h35)) (w0 rfl) (s_skip (wn rfl rfl rfl rfl rfl) (s_skip (wn rfl rfl rfl rfl rfl) (s_skip (wn rfl rfl rfl rfl rfl) (s_skip (wu rfl rfl rfl rfl) (s_skip (wu rfl rfl rfl rfl) (s_skip (wn rfl rfl rfl rfl rfl) (s_pick0 (v := .bool false) (ej rfl rfl) ev_c (w0 rfl) (s_move (v := .bool false) (ej rfl rfl) (w0 rfl) (s_skip (wn rfl rfl rfl rfl rfl) (s_skip (wn rfl rfl rfl rfl rfl) (s_pick0 (v := .bool false) (ej rfl rfl) ev_c (w0 rfl) ?_)))))))))))
      refine c_done (n_then (c_cond0 (ej rfl rfl) (c_skip (n_block (n_then (c_reg (s_add (r := ((i + 1 : Nat) : Int)) (ej rfl e16) ev_c (by omega) (by omega) (w0 rfl) (s_move (v := .int .i64 ((i + 1 : Nat) : Int)) (ej rfl rfl) (w0 rfl) (c_done ?_)))))))))
      exact ⟨(i + 1),_,rfl,⟨x11,(step_all0 i13 (by simp [letterB]; omega)),e14,e15,rfl⟩,(show s.size - (i + 1) < s.size - i by omega)⟩
    refine s_move (v := .bool false) (vb (ej rfl rfl) (decide_eq_false h29)) (w0 rfl) (s_skip (wn rfl rfl rfl rfl rfl) (s_skip (wn rfl rfl rfl rfl rfl) (s_skip (wn rfl rfl rfl rfl rfl) (s_skip (wu rfl rfl rfl rfl) (s_skip (wu rfl rfl rfl rfl) (s_skip (wn rfl rfl rfl rfl rfl) (s_pick0 (v := .bool false) (ej rfl rfl) ev_c (w0 rfl) (s_move (v := .bool false) (ej rfl rfl) (w0 rfl) (s_skip (wn rfl rfl rfl rfl rfl) (s_skip (wn rfl rfl rfl rfl rfl) (s_skip (wn rfl rfl rfl rfl rfl) ?_)))))))))))
    refine s_skip (wu rfl rfl rfl rfl) (s_skip (wu rfl rfl rfl rfl) (s_skip (wn rfl rfl rfl rfl rfl) (s_pick0 (v := .bool false) (ej rfl rfl) ev_c (w0 rfl) (s_move (v := .bool false) (ej rfl rfl) (w0 rfl) (s_skip (wn rfl rfl rfl rfl rfl) (s_skip (wn rfl rfl rfl rfl rfl) (s_pick0 (v := .bool false) (ej rfl rfl) ev_c (w0 rfl) (c_done (n_then (c_cond0 (ej rfl rfl) (c_skip ?_)))))))))))
    refine n_block (n_then (c_reg (s_add (r := ((i + 1 : Nat) : Int)) (ej rfl e16) ev_c (by omega) (by omega) (w0 rfl) (s_move (v := .int .i64 ((i + 1 : Nat) : Int)) (ej rfl rfl) (w0 rfl) (c_done ?_)))))
    exact ⟨(i + 1),_,rfl,⟨x11,(step_all0 i13 (by simp [letterB]; omega)),e14,e15,rfl⟩,(show s.size - (i + 1) < s.size - i by omega)⟩
  refine c_cond0 (vb (ej rfl rfl) (decide_eq_false h17)) (c_exit (e_then (e_then (e_hit (n_then (c_seq (c_reg (s_assign (v := .bool true) ev_c (w0 rfl) (c_done (n_then (c_ret ?_)))))))))))
  refine ret1 (v := .bool true) rfl rfl rfl ?_
  refine ⟨_,rfl,?_,(Ext.trans x9 x11)⟩
  (refine congrArg Value.bool (Eq.symm (wordB_yes0 (by omega) (by omega) (by omega) (by omega) (by assumption) i13)))
theorem v_name (s : ByteArray) (w : World) (hs : s.size ≤ 140737488351232) :
    Rt Tryd.prog 99 #[.string s] w fun v w' => v = .bool (nameB s) ∧ Ext w w' := by
  refine enter Tryd.func99 rfl (l := [.string s]) rfl Tryd.ntmps99 (Nat.le_of_ble_eq_true rfl) ?_
  refine c_seq (c_reg (s_assign (v := .bool false) ev_c (w0 rfl) (c_done (n_then (c_seq (c_seq (c_reg (s_move (v := .string s) (ej rfl rfl) (w0 rfl) (s_lenS F_us9 (ej rfl rfl) (w0 rfl) (s_cmp (r := decide ((s.size : Int) = 0)) (ej rfl rfl) ev_c rfl (w0 rfl) ?_))))))))))
  by_cases h1 : (s.size : Int) = 0
  · refine s_move (v := .bool true) (vb (ej rfl rfl) (decide_eq_true h1)) (w0 rfl) (s_skip (wn rfl rfl rfl rfl rfl) (s_skip (wn rfl rfl rfl rfl rfl) (s_skip (wn rfl rfl rfl rfl rfl) (s_pick1 (v := .bool true) (ej rfl rfl) ev_c (w0 rfl) (s_move (v := .bool true) (ej rfl rfl) (w0 rfl) (s_skip (wn rfl rfl rfl rfl rfl) (s_skip (wn rfl rfl rfl rfl rfl) (s_skip (wn rfl rfl rfl rfl rfl) (s_pick1 (v := .bool true) (ej rfl rfl) ev_c (w0 rfl) (s_move (v := .bool true) (ej rfl rfl) (w0 rfl) (s_skip (wn rfl rfl rfl rfl rfl) ?_)))))))))))
    refine s_skip (wn rfl rfl rfl rfl rfl) (s_skip (wn rfl rfl rfl rfl rfl) (s_pick1 (v := .bool true) (ej rfl rfl) ev_c (w0 rfl) (c_done (n_then (c_cond1 (ej rfl rfl) (c_seq (c_reg (s_assign (v := .bool false) ev_c (w0 rfl) (c_done (n_then (c_ret ?_)))))))))))
    refine r_then (ret1 (v := .bool false) rfl rfl rfl ?_)
    refine ⟨_,rfl,?_,(Ext.refl w)⟩
    (refine congrArg Value.bool (Eq.symm ?_); simp only [nameB,wordB,Bool.and_eq_false_iff,decide_eq_false_iff_not]; left; omega)
  refine s_move (v := .bool false) (vb (ej rfl rfl) (decide_eq_false h1)) (w0 rfl) (s_move (v := .string s) (ej rfl rfl) (wy rfl rfl rfl rfl) (s_lenS F_us9 (ej rfl rfl) (wy rfl rfl rfl rfl) (s_cmp (r := decide (120 < (s.size : Int))) (ej rfl rfl) ev_c rfl (wy rfl rfl rfl rfl) (s_pick0 (v := .bool (decide (120 < (s.size : Int)))) (ej rfl rfl) (ej rfl rfl) (w0 rfl) ?_))))
  by_cases h2 : 120 < (s.size : Int)
  · refine s_move (v := .bool true) (vb (ej rfl rfl) (decide_eq_true h2)) (w0 rfl) (s_skip (wn rfl rfl rfl rfl rfl) (s_skip (wn rfl rfl rfl rfl rfl) (s_skip (wn rfl rfl rfl rfl rfl) (s_pick1 (v := .bool true) (ej rfl rfl) ev_c (w0 rfl) (s_move (v := .bool true) (ej rfl rfl) (w0 rfl) (s_skip (wn rfl rfl rfl rfl rfl) (s_skip (wn rfl rfl rfl rfl rfl) (s_skip (wn rfl rfl rfl rfl rfl) (s_pick1 (v := .bool true) (ej rfl rfl) ev_c (w0 rfl) (c_done (n_then ?_)))))))))))
    refine c_cond1 (ej rfl rfl) (c_seq (c_reg (s_assign (v := .bool false) ev_c (w0 rfl) (c_done (n_then (c_ret (r_then (ret1 (v := .bool false) rfl rfl rfl ?_))))))))
    refine ⟨_,rfl,?_,(Ext.refl w)⟩
    (refine congrArg Value.bool (Eq.symm ?_); simp only [nameB,wordB,Bool.and_eq_false_iff,decide_eq_false_iff_not]; left; omega)
  refine s_move (v := .bool false) (vb (ej rfl rfl) (decide_eq_false h2)) (w0 rfl) (s_move (v := .string s) (ej rfl rfl) (wy rfl rfl rfl rfl) (s_byte (j := 0) F_us9 (ej rfl rfl) ev_c rfl (by omega) (wy rfl rfl rfl rfl) (s_cmp (r := decide ((byteAt s 0 : Int) < 97)) (ej rfl rfl) ev_c rfl (wy rfl rfl rfl rfl) (s_pick0 (v := .bool (decide ((byteAt s 0 : Int) < 97))) (ej rfl rfl) (ej rfl rfl) (w0 rfl) ?_))))
  by_cases h3 : (byteAt s 0 : Int) < 97
  · refine s_move (v := .bool true) (vb (ej rfl rfl) (decide_eq_true h3)) (w0 rfl) (s_skip (wn rfl rfl rfl rfl rfl) (s_skip (wn rfl rfl rfl rfl rfl) (s_skip (wn rfl rfl rfl rfl rfl) (s_pick1 (v := .bool true) (ej rfl rfl) ev_c (w0 rfl) (c_done (n_then (c_cond1 (ej rfl rfl) (c_seq (c_reg (s_assign (v := .bool false) ev_c (w0 rfl) (c_done ?_)))))))))))
    refine n_then (c_ret (r_then (ret1 (v := .bool false) rfl rfl rfl ?_)))
    refine ⟨_,rfl,?_,(Ext.refl w)⟩
    (refine congrArg Value.bool (Eq.symm ?_); simp only [nameB,wordB,Bool.and_eq_false_iff,decide_eq_false_iff_not]; left; omega)
  refine s_move (v := .bool false) (vb (ej rfl rfl) (decide_eq_false h3)) (w0 rfl) (s_move (v := .string s) (ej rfl rfl) (wy rfl rfl rfl rfl) (s_byte (j := 0) F_us9 (ej rfl rfl) ev_c rfl (by omega) (wy rfl rfl rfl rfl) (s_cmp (r := decide (122 < (byteAt s 0 : Int))) (ej rfl rfl) ev_c rfl (wy rfl rfl rfl rfl) (s_pick0 (v := .bool (decide (122 < (byteAt s 0 : Int)))) (ej rfl rfl) (ej rfl rfl) (w0 rfl) (c_done (n_then ?_))))))
  by_cases h4 : 122 < (byteAt s 0 : Int)
  · refine c_cond1 (vb (ej rfl rfl) (decide_eq_true h4)) (c_seq (c_reg (s_assign (v := .bool false) ev_c (w0 rfl) (c_done (n_then (c_ret (r_then (ret1 (v := .bool false) rfl rfl rfl ?_))))))))
    refine ⟨_,rfl,?_,(Ext.refl w)⟩
    (refine congrArg Value.bool (Eq.symm ?_); simp only [nameB,wordB,Bool.and_eq_false_iff,decide_eq_false_iff_not]; left; omega)
  refine c_cond0 (vb (ej rfl rfl) (decide_eq_false h4)) (c_skip (n_then (c_seq (c_seq (c_reg (s_move (v := .string s) (ej rfl rfl) (w0 rfl) (s_sbytes F_us9 F_ul81 F_ui5 (ej rfl rfl) (w0 rfl) ?_)))))))
  intro w7 g5 c6 sb8 x9
  refine s_lenL F_l81 (ej rfl rfl) (w0 rfl) (s_move (v := .int .i64 0) ev_c (w0 rfl) (c_done (n_then (c_block (c_loop (α := Nat) (fun (i : Nat) env_ w_ => Ext w7 w_ ∧ (∀ j,j < i → letterB (byteAt s j) = true) ∧ env_ 0 = .string s ∧ env_ 24 = .slice (some ⟨g5,0,none⟩) s.size c6 ∧ env_ 25 = .int .i64 (s.size : Int) ∧ env_ 26 = .int .i64 ((i : Nat) : Int)) (fun i => s.size - i) (0) ⟨Ext.refl _,fun j hj => absurd hj (Nat.not_lt_zero j),rfl,rfl,rfl,rfl⟩ ?_)))))
  rintro i env12 w10 ⟨x11,i13,e14,e15,e16,e17⟩
  refine c_seq (c_reg (s_cmp (r := decide (((i : Nat) : Int) < (s.size : Int))) (ej rfl e17) (ej rfl e16) rfl (w0 rfl) (c_done (n_then (c_seq ?_)))))
  by_cases h18 : ((i : Nat) : Int) < (s.size : Int)
  · refine c_cond1 (vb (ej rfl rfl) (decide_eq_true h18)) (c_skip (n_then (c_seq (c_block (c_seq (c_reg (s_indexR (j := i) F_l81 (ej rfl e15) rfl (ej rfl e17) rfl (by omega) (w0 rfl) (s_load (v := .int .u8 (byteAt s i : Int)) F_o5 (ej rfl rfl) ((SB.ext sb8 x11) i (by omega)) (w0 rfl) (s_assign (v := .int .u8 (byteAt s i : Int)) (ej rfl rfl) (w0 rfl) (c_done (n_then ?_)))))))))))
    refine c_seq (c_reg (s_move (v := .int .u8 (byteAt s i : Int)) (ej rfl rfl) (w0 rfl) (s_cmp (r := decide ((byteAt s i : Int) < 97)) (ej rfl rfl) ev_c rfl (w0 rfl) ?_)))
    by_cases h19 : (byteAt s i : Int) < 97
    · refine s_move (v := .bool true) (vb (ej rfl rfl) (decide_eq_true h19)) (w0 rfl) (s_skip (wn rfl rfl rfl rfl rfl) (s_skip (wn rfl rfl rfl rfl rfl) (s_pick1 (v := .bool true) (ej rfl rfl) ev_c (w0 rfl) (s_move (v := .bool true) (ej rfl rfl) (w0 rfl) (s_move (v := .int .u8 (byteAt s i : Int)) (ej rfl rfl) (wy rfl rfl rfl rfl) (s_cmp (r := decide ((byteAt s i : Int) < 65)) (ej rfl rfl) ev_c rfl (wy rfl rfl rfl rfl) ?_))))))
      by_cases h20 : (byteAt s i : Int) < 65
      · refine s_move (v := .bool true) (vb (ej rfl rfl) (decide_eq_true h20)) (wy rfl rfl rfl rfl) (s_skip (wn rfl rfl rfl rfl rfl) (s_skip (wn rfl rfl rfl rfl rfl) (s_pick1 (v := .bool true) (ej rfl rfl) ev_c (wy rfl rfl rfl rfl) (s_pick1 (v := .bool true) (ej rfl rfl) (ej rfl rfl) (w0 rfl) (s_move (v := .bool true) (ej rfl rfl) (w0 rfl) (s_move (v := .int .u8 (byteAt s i : Int)) (ej rfl rfl) (wy rfl rfl rfl rfl) (s_cmp (r := decide ((byteAt s i : Int) < 48)) (ej rfl rfl) ev_c rfl (wy rfl rfl rfl rfl) ?_)))))))
        by_cases h21 : (byteAt s i : Int) < 48
        · refine s_move (v := .bool true) (vb (ej rfl rfl) (decide_eq_true h21)) (wy rfl rfl rfl rfl) (s_skip (wn rfl rfl rfl rfl rfl) (s_skip (wn rfl rfl rfl rfl rfl) (s_pick1 (v := .bool true) (ej rfl rfl) ev_c (wy rfl rfl rfl rfl) (s_pick1 (v := .bool true) (ej rfl rfl) (ej rfl rfl) (w0 rfl) (s_move (v := .bool true) (ej rfl rfl) (w0 rfl) (s_move (v := .int .u8 (byteAt s i : Int)) (ej rfl rfl) (wy rfl rfl rfl rfl) (s_cmp (r := !decide ((byteAt s i : Int) = 95)) (ej rfl rfl) ev_c rfl (wy rfl rfl rfl rfl) (s_pick1 (v := .bool (!decide ((byteAt s i : Int) = 95))) (ej rfl rfl) (ej rfl rfl) (w0 rfl) (c_done (n_then ?_))))))))))
          by_cases h22 : (byteAt s i : Int) = 95
          · refine c_cond0 (vb (ej rfl rfl) (nb0 h22)) (c_skip (n_block (n_then (c_reg (s_add (r := ((i + 1 : Nat) : Int)) (ej rfl e17) ev_c (by omega) (by omega) (w0 rfl) (s_move (v := .int .i64 ((i + 1 : Nat) : Int)) (ej rfl rfl) (w0 rfl) (c_done ?_)))))))
            exact ⟨(i + 1),_,rfl,⟨x11,(step_all0 i13 (by simp [letterB]; omega)),e14,e15,e16,rfl⟩,(show s.size - (i + 1) < s.size - i by omega)⟩
          refine c_cond1 (vb (ej rfl rfl) (nb1 h22)) (c_seq (c_reg (s_assign (v := .bool false) ev_c (w0 rfl) (c_done (n_then (c_ret (r_block (r_then (r_then (r_block (r_then ?_)))))))))))
          refine ret1 (v := .bool false) rfl rfl rfl ?_
          refine ⟨_,rfl,?_,(Ext.trans x9 x11)⟩
          (refine congrArg Value.bool (Eq.symm ?_); first | (simp [nameB,kwB, *]; done) | (simp only [nameB]; rw [wordB_no i (by omega) (by simp [letterB]; omega)]; rfl))
        refine s_move (v := .bool false) (vb (ej rfl rfl) (decide_eq_false h21)) (wy rfl rfl rfl rfl) (s_move (v := .int .u8 (byteAt s i : Int)) (ej rfl rfl) (wy rfl rfl rfl rfl) (s_cmp (r := decide (57 < (byteAt s i : Int))) (ej rfl rfl) ev_c rfl (wy rfl rfl rfl rfl) (s_pick0 (v := .bool (decide (57 < (byteAt s i : Int)))) (ej rfl rfl) (ej rfl rfl) (wy rfl rfl rfl rfl) (s_pick1 (v := .bool (decide (57 < (byteAt s i : Int)))) (ej rfl rfl) (ej rfl rfl) (w0 rfl) ?_))))
        by_cases h23 : 57 < (byteAt s i : Int)
        · refine s_move (v := .bool true) (vb (ej rfl rfl) (decide_eq_true h23)) (w0 rfl) (s_move (v := .int .u8 (byteAt s i : Int)) (ej rfl rfl) (wy rfl rfl rfl rfl) (s_cmp (r := !decide ((byteAt s i : Int) = 95)) (ej rfl rfl) ev_c rfl (wy rfl rfl rfl rfl) (s_pick1 (v := .bool (!decide ((byteAt s i : Int) = 95))) (ej rfl rfl) (ej rfl rfl) (w0 rfl) (c_done (n_then ?_)))))
          by_cases h24 : (byteAt s i : Int) = 95
          · refine c_cond0 (vb (ej rfl rfl) (nb0 h24)) (c_skip (n_block (n_then (c_reg (s_add (r := ((i + 1 : Nat) : Int)) (ej rfl e17) ev_c (by omega) (by omega) (w0 rfl) (s_move (v := .int .i64 ((i + 1 : Nat) : Int)) (ej rfl rfl) (w0 rfl) (c_done ?_)))))))
            exact ⟨(i + 1),_,rfl,⟨x11,(step_all0 i13 (by simp [letterB]; omega)),e14,e15,e16,rfl⟩,(show s.size - (i + 1) < s.size - i by omega)⟩
          refine c_cond1 (vb (ej rfl rfl) (nb1 h24)) (c_seq (c_reg (s_assign (v := .bool false) ev_c (w0 rfl) (c_done (n_then (c_ret (r_block (r_then (r_then (r_block (r_then ?_)))))))))))
          refine ret1 (v := .bool false) rfl rfl rfl ?_
          refine ⟨_,rfl,?_,(Ext.trans x9 x11)⟩
          (refine congrArg Value.bool (Eq.symm ?_); first | (simp [nameB,kwB, *]; done) | (simp only [nameB]; rw [wordB_no i (by omega) (by simp [letterB]; omega)]; rfl))
        refine s_move (v := .bool false) (vb (ej rfl rfl) (decide_eq_false h23)) (w0 rfl) (s_skip (wn rfl rfl rfl rfl rfl) (s_skip (wn rfl rfl rfl rfl rfl) (s_pick0 (v := .bool false) (ej rfl rfl) ev_c (w0 rfl) (c_done (n_then (c_cond0 (ej rfl rfl) (c_skip (n_block (n_then (c_reg (s_add (r := ((i + 1 : Nat) : Int)) (ej rfl e17) ev_c (by omega) (by omega) (w0 rfl) ?_)))))))))))
        refine s_move (v := .int .i64 ((i + 1 : Nat) : Int)) (ej rfl rfl) (w0 rfl) (c_done ?_)
        exact ⟨(i + 1),_,rfl,⟨x11,(step_all0 i13 (by simp [letterB]; omega)),e14,e15,e16,rfl⟩,(show s.size - (i + 1) < s.size - i by omega)⟩
      refine s_move (v := .bool false) (vb (ej rfl rfl) (decide_eq_false h20)) (wy rfl rfl rfl rfl) (s_move (v := .int .u8 (byteAt s i : Int)) (ej rfl rfl) (wy rfl rfl rfl rfl) (s_cmp (r := decide (90 < (byteAt s i : Int))) (ej rfl rfl) ev_c rfl (wy rfl rfl rfl rfl) (s_pick0 (v := .bool (decide (90 < (byteAt s i : Int)))) (ej rfl rfl) (ej rfl rfl) (wy rfl rfl rfl rfl) (s_pick1 (v := .bool (decide (90 < (byteAt s i : Int)))) (ej rfl rfl) (ej rfl rfl) (w0 rfl) ?_))))
      by_cases h25 : 90 < (byteAt s i : Int)
      · refine s_move (v := .bool true) (vb (ej rfl rfl) (decide_eq_true h25)) (w0 rfl) (s_move (v := .int .u8 (byteAt s i : Int)) (ej rfl rfl) (wy rfl rfl rfl rfl) (s_cmp (r := decide ((byteAt s i : Int) < 48)) (ej rfl rfl) ev_c rfl (wy rfl rfl rfl rfl) ?_))
        by_cases h26 : (byteAt s i : Int) < 48
        · refine s_move (v := .bool true) (vb (ej rfl rfl) (decide_eq_true h26)) (wy rfl rfl rfl rfl) (s_skip (wn rfl rfl rfl rfl rfl) (s_skip (wn rfl rfl rfl rfl rfl) (s_pick1 (v := .bool true) (ej rfl rfl) ev_c (wy rfl rfl rfl rfl) (s_pick1 (v := .bool true) (ej rfl rfl) (ej rfl rfl) (w0 rfl) (s_move (v := .bool true) (ej rfl rfl) (w0 rfl) (s_move (v := .int .u8 (byteAt s i : Int)) (ej rfl rfl) (wy rfl rfl rfl rfl) (s_cmp (r := !decide ((byteAt s i : Int) = 95)) (ej rfl rfl) ev_c rfl (wy rfl rfl rfl rfl) (s_pick1 (v := .bool (!decide ((byteAt s i : Int) = 95))) (ej rfl rfl) (ej rfl rfl) (w0 rfl) (c_done (n_then ?_))))))))))
          by_cases h27 : (byteAt s i : Int) = 95
          · refine c_cond0 (vb (ej rfl rfl) (nb0 h27)) (c_skip (n_block (n_then (c_reg (s_add (r := ((i + 1 : Nat) : Int)) (ej rfl e17) ev_c (by omega) (by omega) (w0 rfl) (s_move (v := .int .i64 ((i + 1 : Nat) : Int)) (ej rfl rfl) (w0 rfl) (c_done ?_)))))))
            exact ⟨(i + 1),_,rfl,⟨x11,(step_all0 i13 (by simp [letterB]; omega)),e14,e15,e16,rfl⟩,(show s.size - (i + 1) < s.size - i by omega)⟩
          refine c_cond1 (vb (ej rfl rfl) (nb1 h27)) (c_seq (c_reg (s_assign (v := .bool false) ev_c (w0 rfl) (c_done (n_then (c_ret (r_block (r_then (r_then (r_block (r_then ?_)))))))))))
          refine ret1 (v := .bool false) rfl rfl rfl ?_
          refine ⟨_,rfl,?_,(Ext.trans x9 x11)⟩
          (refine congrArg Value.bool (Eq.symm ?_); first | (simp [nameB,kwB, *]; done) | (simp only [nameB]; rw [wordB_no i (by omega) (by simp [letterB]; omega)]; rfl))
        refine s_move (v := .bool false) (vb (ej rfl rfl) (decide_eq_false h26)) (wy rfl rfl rfl rfl) (s_move (v := .int .u8 (byteAt s i : Int)) (ej rfl rfl) (wy rfl rfl rfl rfl) (s_cmp (r := decide (57 < (byteAt s i : Int))) (ej rfl rfl) ev_c rfl (wy rfl rfl rfl rfl) (s_pick0 (v := .bool (decide (57 < (byteAt s i : Int)))) (ej rfl rfl) (ej rfl rfl) (wy rfl rfl rfl rfl) (s_pick1 (v := .bool (decide (57 < (byteAt s i : Int)))) (ej rfl rfl) (ej rfl rfl) (w0 rfl) ?_))))
        by_cases h28 : 57 < (byteAt s i : Int)
        · refine s_move (v := .bool true) (vb (ej rfl rfl) (decide_eq_true h28)) (w0 rfl) (s_move (v := .int .u8 (byteAt s i : Int)) (ej rfl rfl) (wy rfl rfl rfl rfl) (s_cmp (r := !decide ((byteAt s i : Int) = 95)) (ej rfl rfl) ev_c rfl (wy rfl rfl rfl rfl) (s_pick1 (v := .bool (!decide ((byteAt s i : Int) = 95))) (ej rfl rfl) (ej rfl rfl) (w0 rfl) (c_done (n_then ?_)))))
          by_cases h29 : (byteAt s i : Int) = 95
          · refine c_cond0 (vb (ej rfl rfl) (nb0 h29)) (c_skip (n_block (n_then (c_reg (s_add (r := ((i + 1 : Nat) : Int)) (ej rfl e17) ev_c (by omega) (by omega) (w0 rfl) (s_move (v := .int .i64 ((i + 1 : Nat) : Int)) (ej rfl rfl) (w0 rfl) (c_done ?_)))))))
            exact ⟨(i + 1),_,rfl,⟨x11,(step_all0 i13 (by simp [letterB]; omega)),e14,e15,e16,rfl⟩,(show s.size - (i + 1) < s.size - i by omega)⟩
          refine c_cond1 (vb (ej rfl rfl) (nb1 h29)) (c_seq (c_reg (s_assign (v := .bool false) ev_c (w0 rfl) (c_done (n_then (c_ret (r_block (r_then (r_then (r_block (r_then ?_)))))))))))
          refine ret1 (v := .bool false) rfl rfl rfl ?_
          refine ⟨_,rfl,?_,(Ext.trans x9 x11)⟩
          (refine congrArg Value.bool (Eq.symm ?_); first | (simp [nameB,kwB, *]; done) | (simp only [nameB]; rw [wordB_no i (by omega) (by simp [letterB]; omega)]; rfl))
        refine s_move (v := .bool false) (vb (ej rfl rfl) (decide_eq_false h28)) (w0 rfl) (s_skip (wn rfl rfl rfl rfl rfl) (s_skip (wn rfl rfl rfl rfl rfl) (s_pick0 (v := .bool false) (ej rfl rfl) ev_c (w0 rfl) (c_done (n_then (c_cond0 (ej rfl rfl) (c_skip (n_block (n_then (c_reg (s_add (r := ((i + 1 : Nat) : Int)) (ej rfl e17) ev_c (by omega) (by omega) (w0 rfl) ?_)))))))))))
        refine s_move (v := .int .i64 ((i + 1 : Nat) : Int)) (ej rfl rfl) (w0 rfl) (c_done ?_)
        exact ⟨(i + 1),_,rfl,⟨x11,(step_all0 i13 (by simp [letterB]; omega)),e14,e15,e16,rfl⟩,(show s.size - (i + 1) < s.size - i by omega)⟩
      refine s_move (v := .bool false) (vb (ej rfl rfl) (decide_eq_false h25)) (w0 rfl) (s_skip (wn rfl rfl rfl rfl rfl) (s_skip (wn rfl rfl rfl rfl rfl) (s_skip (wn rfl rfl rfl rfl rfl) (s_skip (wu rfl rfl rfl rfl) (s_skip (wu rfl rfl rfl rfl) (s_skip (wn rfl rfl rfl rfl rfl) (s_pick0 (v := .bool false) (ej rfl rfl) ev_c (w0 rfl) (s_move (v := .bool false) (ej rfl rfl) (w0 rfl) (s_skip (wn rfl rfl rfl rfl rfl) (s_skip (wn rfl rfl rfl rfl rfl) (s_pick0 (v := .bool false) (ej rfl rfl) ev_c (w0 rfl) ?_)))))))))))
      refine c_done (n_then (c_cond0 (ej rfl rfl) (c_skip (n_block (n_then (c_reg (s_add (r := ((i + 1 : Nat) : Int)) (ej rfl e17) ev_c (by omega) (by omega) (w0 rfl) (s_move (v := .int .i64 ((i + 1 : Nat) : Int)) (ej rfl rfl) (w0 rfl) (c_done ?_)))))))))
      exact ⟨(i + 1),_,rfl,⟨x11,(step_all0 i13 (by simp [letterB]; omega)),e14,e15,e16,rfl⟩,(show s.size - (i + 1) < s.size - i by omega)⟩
    refine s_move (v := .bool false) (vb (ej rfl rfl) (decide_eq_false h19)) (w0 rfl) (s_move (v := .int .u8 (byteAt s i : Int)) (ej rfl rfl) (wy rfl rfl rfl rfl) (s_cmp (r := decide (122 < (byteAt s i : Int))) (ej rfl rfl) ev_c rfl (wy rfl rfl rfl rfl) (s_pick0 (v := .bool (decide (122 < (byteAt s i : Int)))) (ej rfl rfl) (ej rfl rfl) (w0 rfl) ?_)))
    by_cases h30 : 122 < (byteAt s i : Int)
    · refine s_move (v := .bool true) (vb (ej rfl rfl) (decide_eq_true h30)) (w0 rfl) (s_move (v := .int .u8 (byteAt s i : Int)) (ej rfl rfl) (wy rfl rfl rfl rfl) (s_cmp (r := decide ((byteAt s i : Int) < 65)) (ej rfl rfl) ev_c rfl (wy rfl rfl rfl rfl) ?_))
      by_cases h31 : (byteAt s i : Int) < 65
      · refine s_move (v := .bool true) (vb (ej rfl rfl) (decide_eq_true h31)) (wy rfl rfl rfl rfl) (s_skip (wn rfl rfl rfl rfl rfl) (s_skip (wn rfl rfl rfl rfl rfl) (s_pick1 (v := .bool true) (ej rfl rfl) ev_c (wy rfl rfl rfl rfl) (s_pick1 (v := .bool true) (ej rfl rfl) (ej rfl rfl) (w0 rfl) (s_move (v := .bool true) (ej rfl rfl) (w0 rfl) (s_move (v := .int .u8 (byteAt s i : Int)) (ej rfl rfl) (wy rfl rfl rfl rfl) (s_cmp (r := decide ((byteAt s i : Int) < 48)) (ej rfl rfl) ev_c rfl (wy rfl rfl rfl rfl) ?_)))))))
        by_cases h32 : (byteAt s i : Int) < 48
        · refine s_move (v := .bool true) (vb (ej rfl rfl) (decide_eq_true h32)) (wy rfl rfl rfl rfl) (s_skip (wn rfl rfl rfl rfl rfl) (s_skip (wn rfl rfl rfl rfl rfl) (s_pick1 (v := .bool true) (ej rfl rfl) ev_c (wy rfl rfl rfl rfl) (s_pick1 (v := .bool true) (ej rfl rfl) (ej rfl rfl) (w0 rfl) (s_move (v := .bool true) (ej rfl rfl) (w0 rfl) (s_move (v := .int .u8 (byteAt s i : Int)) (ej rfl rfl) (wy rfl rfl rfl rfl) (s_cmp (r := !decide ((byteAt s i : Int) = 95)) (ej rfl rfl) ev_c rfl (wy rfl rfl rfl rfl) (s_pick1 (v := .bool (!decide ((byteAt s i : Int) = 95))) (ej rfl rfl) (ej rfl rfl) (w0 rfl) (c_done (n_then ?_))))))))))
          by_cases h33 : (byteAt s i : Int) = 95
          · refine c_cond0 (vb (ej rfl rfl) (nb0 h33)) (c_skip (n_block (n_then (c_reg (s_add (r := ((i + 1 : Nat) : Int)) (ej rfl e17) ev_c (by omega) (by omega) (w0 rfl) (s_move (v := .int .i64 ((i + 1 : Nat) : Int)) (ej rfl rfl) (w0 rfl) (c_done ?_)))))))
            exact ⟨(i + 1),_,rfl,⟨x11,(step_all0 i13 (by simp [letterB]; omega)),e14,e15,e16,rfl⟩,(show s.size - (i + 1) < s.size - i by omega)⟩
          refine c_cond1 (vb (ej rfl rfl) (nb1 h33)) (c_seq (c_reg (s_assign (v := .bool false) ev_c (w0 rfl) (c_done (n_then (c_ret (r_block (r_then (r_then (r_block (r_then ?_)))))))))))
          refine ret1 (v := .bool false) rfl rfl rfl ?_
          refine ⟨_,rfl,?_,(Ext.trans x9 x11)⟩
          (refine congrArg Value.bool (Eq.symm ?_); first | (simp [nameB,kwB, *]; done) | (simp only [nameB]; rw [wordB_no i (by omega) (by simp [letterB]; omega)]; rfl))
        refine s_move (v := .bool false) (vb (ej rfl rfl) (decide_eq_false h32)) (wy rfl rfl rfl rfl) (s_move (v := .int .u8 (byteAt s i : Int)) (ej rfl rfl) (wy rfl rfl rfl rfl) (s_cmp (r := decide (57 < (byteAt s i : Int))) (ej rfl rfl) ev_c rfl (wy rfl rfl rfl rfl) (s_pick0 (v := .bool (decide (57 < (byteAt s i : Int)))) (ej rfl rfl) (ej rfl rfl) (wy rfl rfl rfl rfl) (s_pick1 (v := .bool (decide (57 < (byteAt s i : Int)))) (ej rfl rfl) (ej rfl rfl) (w0 rfl) ?_))))
        by_cases h34 : 57 < (byteAt s i : Int)
        · refine s_move (v := .bool true) (vb (ej rfl rfl) (decide_eq_true h34)) (w0 rfl) (s_move (v := .int .u8 (byteAt s i : Int)) (ej rfl rfl) (wy rfl rfl rfl rfl) (s_cmp (r := !decide ((byteAt s i : Int) = 95)) (ej rfl rfl) ev_c rfl (wy rfl rfl rfl rfl) (s_pick1 (v := .bool (!decide ((byteAt s i : Int) = 95))) (ej rfl rfl) (ej rfl rfl) (w0 rfl) (c_done (n_then ?_)))))
          by_cases h35 : (byteAt s i : Int) = 95
          · refine c_cond0 (vb (ej rfl rfl) (nb0 h35)) (c_skip (n_block (n_then (c_reg (s_add (r := ((i + 1 : Nat) : Int)) (ej rfl e17) ev_c (by omega) (by omega) (w0 rfl) (s_move (v := .int .i64 ((i + 1 : Nat) : Int)) (ej rfl rfl) (w0 rfl) (c_done ?_)))))))
            exact ⟨(i + 1),_,rfl,⟨x11,(step_all0 i13 (by simp [letterB]; omega)),e14,e15,e16,rfl⟩,(show s.size - (i + 1) < s.size - i by omega)⟩
          refine c_cond1 (vb (ej rfl rfl) (nb1 h35)) (c_seq (c_reg (s_assign (v := .bool false) ev_c (w0 rfl) (c_done (n_then (c_ret (r_block (r_then (r_then (r_block (r_then ?_)))))))))))
          refine ret1 (v := .bool false) rfl rfl rfl ?_
          refine ⟨_,rfl,?_,(Ext.trans x9 x11)⟩
          (refine congrArg Value.bool (Eq.symm ?_); first | (simp [nameB,kwB, *]; done) | (simp only [nameB]; rw [wordB_no i (by omega) (by simp [letterB]; omega)]; rfl))
        refine s_move (v := .bool false) (vb (ej rfl rfl) (decide_eq_false h34)) (w0 rfl) (s_skip (wn rfl rfl rfl rfl rfl) (s_skip (wn rfl rfl rfl rfl rfl) (s_pick0 (v := .bool false) (ej rfl rfl) ev_c (w0 rfl) (c_done (n_then (c_cond0 (ej rfl rfl) (c_skip (n_block (n_then (c_reg (s_add (r := ((i + 1 : Nat) : Int)) (ej rfl e17) ev_c (by omega) (by omega) (w0 rfl) ?_)))))))))))
        refine s_move (v := .int .i64 ((i + 1 : Nat) : Int)) (ej rfl rfl) (w0 rfl) (c_done ?_)
        exact ⟨(i + 1),_,rfl,⟨x11,(step_all0 i13 (by simp [letterB]; omega)),e14,e15,e16,rfl⟩,(show s.size - (i + 1) < s.size - i by omega)⟩
      refine s_move (v := .bool false) (vb (ej rfl rfl) (decide_eq_false h31)) (wy rfl rfl rfl rfl) (s_move (v := .int .u8 (byteAt s i : Int)) (ej rfl rfl) (wy rfl rfl rfl rfl) (s_cmp (r := decide (90 < (byteAt s i : Int))) (ej rfl rfl) ev_c rfl (wy rfl rfl rfl rfl) (s_pick0 (v := .bool (decide (90 < (byteAt s i : Int)))) (ej rfl rfl) (ej rfl rfl) (wy rfl rfl rfl rfl) (s_pick1 (v := .bool (decide (90 < (byteAt s i : Int)))) (ej rfl rfl) (ej rfl rfl) (w0 rfl) ?_))))
      by_cases h36 : 90 < (byteAt s i : Int)
      · refine s_move (v := .bool true) (vb (ej rfl rfl) (decide_eq_true h36)) (w0 rfl) (s_move (v := .int .u8 (byteAt s i : Int)) (ej rfl rfl) (wy rfl rfl rfl rfl) (s_cmp (r := decide ((byteAt s i : Int) < 48)) (ej rfl rfl) ev_c rfl (wy rfl rfl rfl rfl) ?_))
        by_cases h37 : (byteAt s i : Int) < 48
        · refine s_move (v := .bool true) (vb (ej rfl rfl) (decide_eq_true h37)) (wy rfl rfl rfl rfl) (s_skip (wn rfl rfl rfl rfl rfl) (s_skip (wn rfl rfl rfl rfl rfl) (s_pick1 (v := .bool true) (ej rfl rfl) ev_c (wy rfl rfl rfl rfl) (s_pick1 (v := .bool true) (ej rfl rfl) (ej rfl rfl) (w0 rfl) (s_move (v := .bool true) (ej rfl rfl) (w0 rfl) (s_move (v := .int .u8 (byteAt s i : Int)) (ej rfl rfl) (wy rfl rfl rfl rfl) (s_cmp (r := !decide ((byteAt s i : Int) = 95)) (ej rfl rfl) ev_c rfl (wy rfl rfl rfl rfl) (s_pick1 (v := .bool (!decide ((byteAt s i : Int) = 95))) (ej rfl rfl) (ej rfl rfl) (w0 rfl) (c_done (n_then ?_))))))))))
          by_cases h38 : (byteAt s i : Int) = 95
          · refine c_cond0 (vb (ej rfl rfl) (nb0 h38)) (c_skip (n_block (n_then (c_reg (s_add (r := ((i + 1 : Nat) : Int)) (ej rfl e17) ev_c (by omega) (by omega) (w0 rfl) (s_move (v := .int .i64 ((i + 1 : Nat) : Int)) (ej rfl rfl) (w0 rfl) (c_done ?_)))))))
            exact ⟨(i + 1),_,rfl,⟨x11,(step_all0 i13 (by simp [letterB]; omega)),e14,e15,e16,rfl⟩,(show s.size - (i + 1) < s.size - i by omega)⟩
          refine c_cond1 (vb (ej rfl rfl) (nb1 h38)) (c_seq (c_reg (s_assign (v := .bool false) ev_c (w0 rfl) (c_done (n_then (c_ret (r_block (r_then (r_then (r_block (r_then ?_)))))))))))
          refine ret1 (v := .bool false) rfl rfl rfl ?_
          refine ⟨_,rfl,?_,(Ext.trans x9 x11)⟩
          (refine congrArg Value.bool (Eq.symm ?_); first | (simp [nameB,kwB, *]; done) | (simp only [nameB]; rw [wordB_no i (by omega) (by simp [letterB]; omega)]; rfl))
        refine s_move (v := .bool false) (vb (ej rfl rfl) (decide_eq_false h37)) (wy rfl rfl rfl rfl) (s_move (v := .int .u8 (byteAt s i : Int)) (ej rfl rfl) (wy rfl rfl rfl rfl) (s_cmp (r := decide (57 < (byteAt s i : Int))) (ej rfl rfl) ev_c rfl (wy rfl rfl rfl rfl) (s_pick0 (v := .bool (decide (57 < (byteAt s i : Int)))) (ej rfl rfl) (ej rfl rfl) (wy rfl rfl rfl rfl) (s_pick1 (v := .bool (decide (57 < (byteAt s i : Int)))) (ej rfl rfl) (ej rfl rfl) (w0 rfl) ?_))))
        by_cases h39 : 57 < (byteAt s i : Int)
        · refine s_move (v := .bool true) (vb (ej rfl rfl) (decide_eq_true h39)) (w0 rfl) (s_move (v := .int .u8 (byteAt s i : Int)) (ej rfl rfl) (wy rfl rfl rfl rfl) (s_cmp (r := !decide ((byteAt s i : Int) = 95)) (ej rfl rfl) ev_c rfl (wy rfl rfl rfl rfl) (s_pick1 (v := .bool (!decide ((byteAt s i : Int) = 95))) (ej rfl rfl) (ej rfl rfl) (w0 rfl) (c_done (n_then ?_)))))
          by_cases h40 : (byteAt s i : Int) = 95
          · refine c_cond0 (vb (ej rfl rfl) (nb0 h40)) (c_skip (n_block (n_then (c_reg (s_add (r := ((i + 1 : Nat) : Int)) (ej rfl e17) ev_c (by omega) (by omega) (w0 rfl) (s_move (v := .int .i64 ((i + 1 : Nat) : Int)) (ej rfl rfl) (w0 rfl) (c_done ?_)))))))
            exact ⟨(i + 1),_,rfl,⟨x11,(step_all0 i13 (by simp [letterB]; omega)),e14,e15,e16,rfl⟩,(show s.size - (i + 1) < s.size - i by omega)⟩
          refine c_cond1 (vb (ej rfl rfl) (nb1 h40)) (c_seq (c_reg (s_assign (v := .bool false) ev_c (w0 rfl) (c_done (n_then (c_ret (r_block (r_then (r_then (r_block (r_then ?_)))))))))))
          refine ret1 (v := .bool false) rfl rfl rfl ?_
          refine ⟨_,rfl,?_,(Ext.trans x9 x11)⟩
          (refine congrArg Value.bool (Eq.symm ?_); first | (simp [nameB,kwB, *]; done) | (simp only [nameB]; rw [wordB_no i (by omega) (by simp [letterB]; omega)]; rfl))
        refine s_move (v := .bool false) (vb (ej rfl rfl) (decide_eq_false h39)) (w0 rfl) (s_skip (wn rfl rfl rfl rfl rfl) (s_skip (wn rfl rfl rfl rfl rfl) (s_pick0 (v := .bool false) (ej rfl rfl) ev_c (w0 rfl) (c_done (n_then (c_cond0 (ej rfl rfl) (c_skip (n_block (n_then (c_reg (s_add (r := ((i + 1 : Nat) : Int)) (ej rfl e17) ev_c (by omega) (by omega) (w0 rfl) ?_)))))))))))
        refine s_move (v := .int .i64 ((i + 1 : Nat) : Int)) (ej rfl rfl) (w0 rfl) (c_done ?_)
        exact ⟨(i + 1),_,rfl,⟨x11,(step_all0 i13 (by simp [letterB]; omega)),e14,e15,e16,rfl⟩,(show s.size - (i + 1) < s.size - i by omega)⟩
      refine s_move (v := .bool false) (vb (ej rfl rfl) (decide_eq_false h36)) (w0 rfl) (s_skip (wn rfl rfl rfl rfl rfl) (s_skip (wn rfl rfl rfl rfl rfl) (s_skip (wn rfl rfl rfl rfl rfl) (s_skip (wu rfl rfl rfl rfl) (s_skip (wu rfl rfl rfl rfl) (s_skip (wn rfl rfl rfl rfl rfl) (s_pick0 (v := .bool false) (ej rfl rfl) ev_c (w0 rfl) (s_move (v := .bool false) (ej rfl rfl) (w0 rfl) (s_skip (wn rfl rfl rfl rfl rfl) (s_skip (wn rfl rfl rfl rfl rfl) (s_pick0 (v := .bool false) (ej rfl rfl) ev_c (w0 rfl) ?_)))))))))))
      refine c_done (n_then (c_cond0 (ej rfl rfl) (c_skip (n_block (n_then (c_reg (s_add (r := ((i + 1 : Nat) : Int)) (ej rfl e17) ev_c (by omega) (by omega) (w0 rfl) (s_move (v := .int .i64 ((i + 1 : Nat) : Int)) (ej rfl rfl) (w0 rfl) (c_done ?_)))))))))
      exact ⟨(i + 1),_,rfl,⟨x11,(step_all0 i13 (by simp [letterB]; omega)),e14,e15,e16,rfl⟩,(show s.size - (i + 1) < s.size - i by omega)⟩
    refine s_move (v := .bool false) (vb (ej rfl rfl) (decide_eq_false h30)) (w0 rfl) (s_skip (wn rfl rfl rfl rfl rfl) (s_skip (wn rfl rfl rfl rfl rfl) (s_skip (wn rfl rfl rfl rfl rfl) (s_skip (wu rfl rfl rfl rfl) (s_skip (wu rfl rfl rfl rfl) (s_skip (wn rfl rfl rfl rfl rfl) (s_pick0 (v := .bool false) (ej rfl rfl) ev_c (w0 rfl) (s_move (v := .bool false) (ej rfl rfl) (w0 rfl) (s_skip (wn rfl rfl rfl rfl rfl) (s_skip (wn rfl rfl rfl rfl rfl) (s_skip (wn rfl rfl rfl rfl rfl) ?_)))))))))))
    refine s_skip (wu rfl rfl rfl rfl) (s_skip (wu rfl rfl rfl rfl) (s_skip (wn rfl rfl rfl rfl rfl) (s_pick0 (v := .bool false) (ej rfl rfl) ev_c (w0 rfl) (s_move (v := .bool false) (ej rfl rfl) (w0 rfl) (s_skip (wn rfl rfl rfl rfl rfl) (s_skip (wn rfl rfl rfl rfl rfl) (s_pick0 (v := .bool false) (ej rfl rfl) ev_c (w0 rfl) (c_done (n_then (c_cond0 (ej rfl rfl) (c_skip ?_)))))))))))
    refine n_block (n_then (c_reg (s_add (r := ((i + 1 : Nat) : Int)) (ej rfl e17) ev_c (by omega) (by omega) (w0 rfl) (s_move (v := .int .i64 ((i + 1 : Nat) : Int)) (ej rfl rfl) (w0 rfl) (c_done ?_)))))
    exact ⟨(i + 1),_,rfl,⟨x11,(step_all0 i13 (by simp [letterB]; omega)),e14,e15,e16,rfl⟩,(show s.size - (i + 1) < s.size - i by omega)⟩
  refine c_cond0 (vb (ej rfl rfl) (decide_eq_false h18)) (c_exit (e_then (e_then (e_hit (n_then (c_seq (c_seq (c_reg (s_move (v := .string s) (ej rfl e14) (w0 rfl) (c_done (n_then ?_)))))))))))
  refine c_block (c_seq (c_seq (c_reg (s_cmpS (r := decide (s = (⟨#[110,111,116]⟩ : ByteArray))) (ej rfl rfl) ev_c rfl (w0 rfl) (s_assign (v := .bool (decide (s = (⟨#[110,111,116]⟩ : ByteArray)))) (ej rfl rfl) (w0 rfl) (c_done (n_then ?_)))))))
  by_cases h41 : s = (⟨#[110,111,116]⟩ : ByteArray)
  · refine c_cond1 (vb (ej rfl rfl) (decide_eq_true h41)) (c_skip (n_then (c_cond1 (vb (ej rfl rfl) (decide_eq_true h41)) (c_seq (c_reg (s_assign (v := .bool false) ev_c (w0 rfl) (c_done (n_then (c_ret (r_block (r_then ?_)))))))))))
    refine ret1 (v := .bool false) rfl rfl rfl ?_
    refine ⟨_,rfl,?_,(Ext.trans x9 x11)⟩
    (refine congrArg Value.bool (Eq.symm ?_); first | (simp [nameB,kwB, *]; done) | (simp only [nameB]; rw [wordB_no i (by omega) (by simp [letterB]; omega)]; rfl))
  refine c_cond0 (vb (ej rfl rfl) (decide_eq_false h41)) (c_seq (c_reg (s_cmpS (r := decide (s = (⟨#[99,111,117,110,116]⟩ : ByteArray))) (ej rfl rfl) ev_c rfl (w0 rfl) (s_assign (v := .bool (decide (s = (⟨#[99,111,117,110,116]⟩ : ByteArray)))) (ej rfl rfl) (w0 rfl) (c_done (n_then ?_))))))
  by_cases h42 : s = (⟨#[99,111,117,110,116]⟩ : ByteArray)
  · refine c_cond1 (vb (ej rfl rfl) (decide_eq_true h42)) (c_skip (n_then (c_cond1 (vb (ej rfl rfl) (decide_eq_true h42)) (c_seq (c_reg (s_assign (v := .bool false) ev_c (w0 rfl) (c_done (n_then (c_ret (r_block (r_then ?_)))))))))))
    refine ret1 (v := .bool false) rfl rfl rfl ?_
    refine ⟨_,rfl,?_,(Ext.trans x9 x11)⟩
    (refine congrArg Value.bool (Eq.symm ?_); first | (simp [nameB,kwB, *]; done) | (simp only [nameB]; rw [wordB_no i (by omega) (by simp [letterB]; omega)]; rfl))
  refine c_cond0 (vb (ej rfl rfl) (decide_eq_false h42)) (c_seq (c_reg (s_cmpS (r := decide (s = (⟨#[115,117,109]⟩ : ByteArray))) (ej rfl rfl) ev_c rfl (w0 rfl) (s_assign (v := .bool (decide (s = (⟨#[115,117,109]⟩ : ByteArray)))) (ej rfl rfl) (w0 rfl) (c_done (n_then ?_))))))
  by_cases h43 : s = (⟨#[115,117,109]⟩ : ByteArray)
  · refine c_cond1 (vb (ej rfl rfl) (decide_eq_true h43)) (c_skip (n_then (c_cond1 (vb (ej rfl rfl) (decide_eq_true h43)) (c_seq (c_reg (s_assign (v := .bool false) ev_c (w0 rfl) (c_done (n_then (c_ret (r_block (r_then ?_)))))))))))
    refine ret1 (v := .bool false) rfl rfl rfl ?_
    refine ⟨_,rfl,?_,(Ext.trans x9 x11)⟩
    (refine congrArg Value.bool (Eq.symm ?_); first | (simp [nameB,kwB, *]; done) | (simp only [nameB]; rw [wordB_no i (by omega) (by simp [letterB]; omega)]; rfl))
  refine c_cond0 (vb (ej rfl rfl) (decide_eq_false h43)) (c_seq (c_reg (s_cmpS (r := decide (s = (⟨#[109,105,110]⟩ : ByteArray))) (ej rfl rfl) ev_c rfl (w0 rfl) (s_assign (v := .bool (decide (s = (⟨#[109,105,110]⟩ : ByteArray)))) (ej rfl rfl) (w0 rfl) (c_done (n_then ?_))))))
  by_cases h44 : s = (⟨#[109,105,110]⟩ : ByteArray)
  · refine c_cond1 (vb (ej rfl rfl) (decide_eq_true h44)) (c_skip (n_then (c_cond1 (vb (ej rfl rfl) (decide_eq_true h44)) (c_seq (c_reg (s_assign (v := .bool false) ev_c (w0 rfl) (c_done (n_then (c_ret (r_block (r_then ?_)))))))))))
    refine ret1 (v := .bool false) rfl rfl rfl ?_
    refine ⟨_,rfl,?_,(Ext.trans x9 x11)⟩
    (refine congrArg Value.bool (Eq.symm ?_); first | (simp [nameB,kwB, *]; done) | (simp only [nameB]; rw [wordB_no i (by omega) (by simp [letterB]; omega)]; rfl))
  refine c_cond0 (vb (ej rfl rfl) (decide_eq_false h44)) (c_seq (c_reg (s_cmpS (r := decide (s = (⟨#[109,97,120]⟩ : ByteArray))) (ej rfl rfl) ev_c rfl (w0 rfl) (s_assign (v := .bool (decide (s = (⟨#[109,97,120]⟩ : ByteArray)))) (ej rfl rfl) (w0 rfl) (c_done (n_then ?_))))))
  by_cases h45 : s = (⟨#[109,97,120]⟩ : ByteArray)
  · refine c_cond1 (vb (ej rfl rfl) (decide_eq_true h45)) (c_skip (n_then (c_cond1 (vb (ej rfl rfl) (decide_eq_true h45)) (c_seq (c_reg (s_assign (v := .bool false) ev_c (w0 rfl) (c_done (n_then (c_ret (r_block (r_then ?_)))))))))))
    refine ret1 (v := .bool false) rfl rfl rfl ?_
    refine ⟨_,rfl,?_,(Ext.trans x9 x11)⟩
    (refine congrArg Value.bool (Eq.symm ?_); first | (simp [nameB,kwB, *]; done) | (simp only [nameB]; rw [wordB_no i (by omega) (by simp [letterB]; omega)]; rfl))
  refine c_cond0 (vb (ej rfl rfl) (decide_eq_false h45)) (c_seq (c_reg (s_cmpS (r := decide (s = (⟨#[108,101,110]⟩ : ByteArray))) (ej rfl rfl) ev_c rfl (w0 rfl) (s_assign (v := .bool (decide (s = (⟨#[108,101,110]⟩ : ByteArray)))) (ej rfl rfl) (w0 rfl) (c_done (n_then ?_))))))
  by_cases h46 : s = (⟨#[108,101,110]⟩ : ByteArray)
  · refine c_cond1 (vb (ej rfl rfl) (decide_eq_true h46)) (c_skip (n_then (c_cond1 (vb (ej rfl rfl) (decide_eq_true h46)) (c_seq (c_reg (s_assign (v := .bool false) ev_c (w0 rfl) (c_done (n_then (c_ret (r_block (r_then ?_)))))))))))
    refine ret1 (v := .bool false) rfl rfl rfl ?_
    refine ⟨_,rfl,?_,(Ext.trans x9 x11)⟩
    (refine congrArg Value.bool (Eq.symm ?_); first | (simp [nameB,kwB, *]; done) | (simp only [nameB]; rw [wordB_no i (by omega) (by simp [letterB]; omega)]; rfl))
  refine c_cond0 (vb (ej rfl rfl) (decide_eq_false h46)) (c_seq (c_reg (s_cmpS (r := decide (s = (⟨#[99,104,97,114,115]⟩ : ByteArray))) (ej rfl rfl) ev_c rfl (w0 rfl) (s_assign (v := .bool (decide (s = (⟨#[99,104,97,114,115]⟩ : ByteArray)))) (ej rfl rfl) (w0 rfl) (c_done (n_then ?_))))))
  by_cases h47 : s = (⟨#[99,104,97,114,115]⟩ : ByteArray)
  · refine c_cond1 (vb (ej rfl rfl) (decide_eq_true h47)) (c_skip (n_then (c_cond1 (vb (ej rfl rfl) (decide_eq_true h47)) (c_seq (c_reg (s_assign (v := .bool false) ev_c (w0 rfl) (c_done (n_then (c_ret (r_block (r_then ?_)))))))))))
    refine ret1 (v := .bool false) rfl rfl rfl ?_
    refine ⟨_,rfl,?_,(Ext.trans x9 x11)⟩
    (refine congrArg Value.bool (Eq.symm ?_); first | (simp [nameB,kwB, *]; done) | (simp only [nameB]; rw [wordB_no i (by omega) (by simp [letterB]; omega)]; rfl))
  refine c_cond0 (vb (ej rfl rfl) (decide_eq_false h47)) (c_reg (s_cmpS (r := decide (s = (⟨#[98,97,99,107]⟩ : ByteArray))) (ej rfl rfl) ev_c rfl (w0 rfl) (s_assign (v := .bool (decide (s = (⟨#[98,97,99,107]⟩ : ByteArray)))) (ej rfl rfl) (w0 rfl) (c_done (n_then ?_)))))
  by_cases h48 : s = (⟨#[98,97,99,107]⟩ : ByteArray)
  · refine c_cond1 (vb (ej rfl rfl) (decide_eq_true h48)) (c_seq (c_reg (s_assign (v := .bool false) ev_c (w0 rfl) (c_done (n_then (c_ret (r_block (r_then (ret1 (v := .bool false) rfl rfl rfl ?_)))))))))
    refine ⟨_,rfl,?_,(Ext.trans x9 x11)⟩
    (refine congrArg Value.bool (Eq.symm ?_); first | (simp [nameB,kwB, *]; done) | (simp only [nameB]; rw [wordB_no i (by omega) (by simp [letterB]; omega)]; rfl))
  refine c_cond0 (vb (ej rfl rfl) (decide_eq_false h48)) (c_skip (n_block (n_then (c_seq (c_reg (s_assign (v := .bool true) ev_c (w0 rfl) (c_done (n_then (c_ret (ret1 (v := .bool true) rfl rfl rfl ?_))))))))))
  refine ⟨_,rfl,?_,(Ext.trans x9 x11)⟩
  (refine congrArg Value.bool (Eq.symm ?_); simp only [nameB]; rw [wordB_yes0 (by omega) (by omega) (by omega) (by omega) (by assumption) i13]; simp [kwB, *])
theorem t_name (s : ByteArray) (w : World) (hs : s.size ≤ 140737488351232) :
    Rt Tryd.prog 62 #[.string s] w fun v w' => v = .bool (nameB s) ∧ Ext w w' := by
  refine enter Tryd.func62 rfl (l := [.string s]) rfl Tryd.ntmps62 (Nat.le_of_ble_eq_true rfl) ?_
  refine c_seq (c_reg (s_assign (v := .bool false) ev_c (w0 rfl) (c_done (n_then (c_seq (c_seq (c_reg (s_move (v := .string s) (ej rfl rfl) (w0 rfl) (c_done (n_then (c_block ?_)))))))))))
  refine c_seq (c_seq (c_reg (s_cmpS (r := decide (s = (⟨#[110,111,116]⟩ : ByteArray))) (ej rfl rfl) ev_c rfl (w0 rfl) (s_assign (v := .bool (decide (s = (⟨#[110,111,116]⟩ : ByteArray)))) (ej rfl rfl) (w0 rfl) (c_done (n_then ?_))))))
  by_cases h1 : s = (⟨#[110,111,116]⟩ : ByteArray)
  · refine c_cond1 (vb (ej rfl rfl) (decide_eq_true h1)) (c_skip (n_then (c_cond1 (vb (ej rfl rfl) (decide_eq_true h1)) (c_seq (c_reg (s_assign (v := .bool false) ev_c (w0 rfl) (c_done (n_then (c_ret (r_block (r_then ?_)))))))))))
    refine ret1 (v := .bool false) rfl rfl rfl ?_
    refine ⟨_,rfl,?_,(Ext.refl w)⟩
    (simp [nameB,kwB, *])
  refine c_cond0 (vb (ej rfl rfl) (decide_eq_false h1)) (c_seq (c_reg (s_cmpS (r := decide (s = (⟨#[99,111,117,110,116]⟩ : ByteArray))) (ej rfl rfl) ev_c rfl (w0 rfl) (s_assign (v := .bool (decide (s = (⟨#[99,111,117,110,116]⟩ : ByteArray)))) (ej rfl rfl) (w0 rfl) (c_done (n_then ?_))))))
  by_cases h2 : s = (⟨#[99,111,117,110,116]⟩ : ByteArray)
  · refine c_cond1 (vb (ej rfl rfl) (decide_eq_true h2)) (c_skip (n_then (c_cond1 (vb (ej rfl rfl) (decide_eq_true h2)) (c_seq (c_reg (s_assign (v := .bool false) ev_c (w0 rfl) (c_done (n_then (c_ret (r_block (r_then ?_)))))))))))
    refine ret1 (v := .bool false) rfl rfl rfl ?_
    refine ⟨_,rfl,?_,(Ext.refl w)⟩
    (simp [nameB,kwB, *])
  refine c_cond0 (vb (ej rfl rfl) (decide_eq_false h2)) (c_seq (c_reg (s_cmpS (r := decide (s = (⟨#[115,117,109]⟩ : ByteArray))) (ej rfl rfl) ev_c rfl (w0 rfl) (s_assign (v := .bool (decide (s = (⟨#[115,117,109]⟩ : ByteArray)))) (ej rfl rfl) (w0 rfl) (c_done (n_then ?_))))))
  by_cases h3 : s = (⟨#[115,117,109]⟩ : ByteArray)
  · refine c_cond1 (vb (ej rfl rfl) (decide_eq_true h3)) (c_skip (n_then (c_cond1 (vb (ej rfl rfl) (decide_eq_true h3)) (c_seq (c_reg (s_assign (v := .bool false) ev_c (w0 rfl) (c_done (n_then (c_ret (r_block (r_then ?_)))))))))))
    refine ret1 (v := .bool false) rfl rfl rfl ?_
    refine ⟨_,rfl,?_,(Ext.refl w)⟩
    (simp [nameB,kwB, *])
  refine c_cond0 (vb (ej rfl rfl) (decide_eq_false h3)) (c_seq (c_reg (s_cmpS (r := decide (s = (⟨#[109,105,110]⟩ : ByteArray))) (ej rfl rfl) ev_c rfl (w0 rfl) (s_assign (v := .bool (decide (s = (⟨#[109,105,110]⟩ : ByteArray)))) (ej rfl rfl) (w0 rfl) (c_done (n_then ?_))))))
  by_cases h4 : s = (⟨#[109,105,110]⟩ : ByteArray)
  · refine c_cond1 (vb (ej rfl rfl) (decide_eq_true h4)) (c_skip (n_then (c_cond1 (vb (ej rfl rfl) (decide_eq_true h4)) (c_seq (c_reg (s_assign (v := .bool false) ev_c (w0 rfl) (c_done (n_then (c_ret (r_block (r_then ?_)))))))))))
    refine ret1 (v := .bool false) rfl rfl rfl ?_
    refine ⟨_,rfl,?_,(Ext.refl w)⟩
    (simp [nameB,kwB, *])
  refine c_cond0 (vb (ej rfl rfl) (decide_eq_false h4)) (c_seq (c_reg (s_cmpS (r := decide (s = (⟨#[109,97,120]⟩ : ByteArray))) (ej rfl rfl) ev_c rfl (w0 rfl) (s_assign (v := .bool (decide (s = (⟨#[109,97,120]⟩ : ByteArray)))) (ej rfl rfl) (w0 rfl) (c_done (n_then ?_))))))
  by_cases h5 : s = (⟨#[109,97,120]⟩ : ByteArray)
  · refine c_cond1 (vb (ej rfl rfl) (decide_eq_true h5)) (c_skip (n_then (c_cond1 (vb (ej rfl rfl) (decide_eq_true h5)) (c_seq (c_reg (s_assign (v := .bool false) ev_c (w0 rfl) (c_done (n_then (c_ret (r_block (r_then ?_)))))))))))
    refine ret1 (v := .bool false) rfl rfl rfl ?_
    refine ⟨_,rfl,?_,(Ext.refl w)⟩
    (simp [nameB,kwB, *])
  refine c_cond0 (vb (ej rfl rfl) (decide_eq_false h5)) (c_seq (c_reg (s_cmpS (r := decide (s = (⟨#[108,101,110]⟩ : ByteArray))) (ej rfl rfl) ev_c rfl (w0 rfl) (s_assign (v := .bool (decide (s = (⟨#[108,101,110]⟩ : ByteArray)))) (ej rfl rfl) (w0 rfl) (c_done (n_then ?_))))))
  by_cases h6 : s = (⟨#[108,101,110]⟩ : ByteArray)
  · refine c_cond1 (vb (ej rfl rfl) (decide_eq_true h6)) (c_skip (n_then (c_cond1 (vb (ej rfl rfl) (decide_eq_true h6)) (c_seq (c_reg (s_assign (v := .bool false) ev_c (w0 rfl) (c_done (n_then (c_ret (r_block (r_then ?_)))))))))))
    refine ret1 (v := .bool false) rfl rfl rfl ?_
    refine ⟨_,rfl,?_,(Ext.refl w)⟩
    (simp [nameB,kwB, *])
  refine c_cond0 (vb (ej rfl rfl) (decide_eq_false h6)) (c_seq (c_reg (s_cmpS (r := decide (s = (⟨#[99,104,97,114,115]⟩ : ByteArray))) (ej rfl rfl) ev_c rfl (w0 rfl) (s_assign (v := .bool (decide (s = (⟨#[99,104,97,114,115]⟩ : ByteArray)))) (ej rfl rfl) (w0 rfl) (c_done (n_then ?_))))))
  by_cases h7 : s = (⟨#[99,104,97,114,115]⟩ : ByteArray)
  · refine c_cond1 (vb (ej rfl rfl) (decide_eq_true h7)) (c_skip (n_then (c_cond1 (vb (ej rfl rfl) (decide_eq_true h7)) (c_seq (c_reg (s_assign (v := .bool false) ev_c (w0 rfl) (c_done (n_then (c_ret (r_block (r_then ?_)))))))))))
    refine ret1 (v := .bool false) rfl rfl rfl ?_
    refine ⟨_,rfl,?_,(Ext.refl w)⟩
    (simp [nameB,kwB, *])
  refine c_cond0 (vb (ej rfl rfl) (decide_eq_false h7)) (c_reg (s_cmpS (r := decide (s = (⟨#[98,97,99,107]⟩ : ByteArray))) (ej rfl rfl) ev_c rfl (w0 rfl) (s_assign (v := .bool (decide (s = (⟨#[98,97,99,107]⟩ : ByteArray)))) (ej rfl rfl) (w0 rfl) (c_done (n_then ?_)))))
  by_cases h8 : s = (⟨#[98,97,99,107]⟩ : ByteArray)
  · refine c_cond1 (vb (ej rfl rfl) (decide_eq_true h8)) (c_seq (c_reg (s_assign (v := .bool false) ev_c (w0 rfl) (c_done (n_then (c_ret (r_block (r_then (ret1 (v := .bool false) rfl rfl rfl ?_)))))))))
    refine ⟨_,rfl,?_,(Ext.refl w)⟩
    (simp [nameB,kwB, *])
  refine c_cond0 (vb (ej rfl rfl) (decide_eq_false h8)) (c_skip (n_block (n_then (c_seq (c_reg (s_move (v := .string s) (ej rfl rfl) (w0 rfl) (s_call F_e89 (w0 rfl) ev_f (m3 (ej rfl rfl) ev_c ev_c) (args := #[.string s,.int .u8 97,.int .u8 122]) rfl (t_word s 97 122 _ (by omega)) ?_)))))))
  rintro _ w10 ⟨rfl,x9⟩
  refine s_assign (v := .bool (wordB s 97 122)) (ej rfl rfl) (w0 rfl) (c_done (n_then (c_ret (ret1 (v := .bool (wordB s 97 122)) rfl rfl rfl ?_))))
  refine ⟨_,rfl,?_,x9⟩
  (simp [nameB,kwB, *])
theorem t_CheckTerm (x : Tm) (w : World) (hx : x.wf) :
    Rt Tryd.prog 84 #[.agg #[.string x.v,.int .i8 x.l.k,.int .i64 x.l.n,.string x.l.s]] w fun v w' => v = .int .i64 (code (tmB x)) ∧ Ext w w' := by
  refine enter Tryd.func84 rfl (l := [.agg #[.string x.v,.int .i8 x.l.k,.int .i64 x.l.n,.string x.l.s]]) rfl Tryd.ntmps84 (Nat.le_of_ble_eq_true rfl) ?_
  refine c_seq (c_reg (s_box (v := .agg #[.string x.v,.int .i8 x.l.k,.int .i64 x.l.n,.string x.l.s]) (cs := #[.string x.v,.int .i8 x.l.k,.int .i64 x.l.n,.string x.l.s]) (w0 rfl) (ej rfl rfl) rfl ?_))
  intro w2 g1 n3
  refine s_assign (v := .int .i64 0) ev_c (w0 rfl) (c_done (n_then (c_seq (c_seq (c_reg (s_field (off := 0) (o' := 0) F_f28_0 (ej rfl rfl) rfl (w0 rfl) (s_load (v := .string x.v) F_o9 (ej rfl rfl) (cell_of_blk (i := 0) (NewB.blk n3) rfl) (w0 rfl) (s_cmpS (r := decide (x.v = (⟨#[]⟩ : ByteArray))) (ej rfl rfl) ev_c rfl (w0 rfl) (c_done (n_then ?_))))))))))
  by_cases h4 : x.v = (⟨#[]⟩ : ByteArray)
  · refine c_cond1 (vb (ej rfl rfl) (decide_eq_true h4)) (c_seq (c_reg (s_field (off := 1) (o' := 1) F_f28_1 (ej rfl rfl) rfl (w0 rfl) (s_loadL (cs := [.int .i8 x.l.k,.int .i64 x.l.n,.string x.l.s]) F_m26 (ej rfl rfl) rfl rfl (blk_cells (NewB.blk n3) 1 rfl) (w0 rfl) (s_call F_e70 (w0 rfl) ev_f (m1 (ej rfl rfl)) (args := #[.agg #[.int .i8 x.l.k,.int .i64 x.l.n,.string x.l.s]]) rfl (v_Check x.l _) ?_)))))
    rintro _ w6 ⟨rfl,x5⟩
    refine s_cmp (r := okV x.l) (ej rfl rfl) ev_c (ci_t (b := (okV x.l)) (by decide)) (w0 rfl) (s_call F_e50 (w0 rfl) ev_f (m1 (ej rfl rfl)) (args := #[.bool (okV x.l)]) rfl (t_code (okV x.l) _) ?_)
    rintro _ w8 ⟨rfl,x7⟩
    refine s_assign (v := .int .i64 (code (okV x.l))) (ej rfl rfl) (w0 rfl) (c_done (n_then (c_ret (r_then (ret1 (v := .int .i64 (code (okV x.l))) rfl rfl rfl ?_)))))
    refine ⟨_,rfl,?_,(Ext.trans (Ext.trans (NewB.ext n3) x5) x7)⟩
    (refine congrArg (Value.int .i64) (congrArg code ?_); first | (simp [tmB, *]; done) | (simp [tmB,varB, *]; done) | (simp [tmB,varB, *]; (repeat' split) <;> simp_all [varB]; done))
  refine c_cond0 (vb (ej rfl rfl) (decide_eq_false h4)) (c_skip (n_then (c_seq (c_reg (s_field (off := 1) (o' := 1) F_f28_1 (ej rfl rfl) rfl (w0 rfl) (s_loadL (cs := [.int .i8 x.l.k,.int .i64 x.l.n,.string x.l.s]) F_m26 (ej rfl rfl) rfl rfl (blk_cells (NewB.blk n3) 1 rfl) (w0 rfl) (s_build (v := .agg #[.int .i8 0,.int .i64 0,.string (⟨#[]⟩ : ByteArray)]) (vs := []) b0 (bd26) (w0 rfl) (s_cmpG (r := zV x.l) (ej rfl rfl) (ej rfl rfl) ((fun w_ => eqzV26eql x.l _ _ w_)) (w0 rfl) ?_))))))))
  rcases Bool.eq_false_or_eq_true (zV x.l) with h9 | h9
  · refine s_move (v := .bool true) (vb (ej rfl rfl) h9) (w0 rfl) (s_field (off := 0) (o' := 0) F_f28_0 (ej rfl rfl) rfl (wy rfl rfl rfl rfl) (s_load (v := .string x.v) F_o9 (ej rfl rfl) (cell_of_blk (i := 0) (NewB.blk n3) rfl) (wy rfl rfl rfl rfl) (s_cmpS (r := decide (x.v = (⟨#[95]⟩ : ByteArray))) (ej rfl rfl) ev_c rfl (wy rfl rfl rfl rfl) ?_)))
    by_cases h10 : x.v = (⟨#[95]⟩ : ByteArray)
    · refine s_move (v := .bool true) (vb (ej rfl rfl) (decide_eq_true h10)) (wy rfl rfl rfl rfl) (s_skip (wn rfl rfl rfl rfl rfl) (s_skip (wn rfl rfl rfl rfl rfl) (s_skip (wn rfl rfl rfl rfl rfl) (s_pick1 (v := .bool true) (ej rfl rfl) ev_c (wy rfl rfl rfl rfl) (s_pick1 (v := .bool true) (ej rfl rfl) (ej rfl rfl) (w0 rfl) (s_call F_e50 (w0 rfl) ev_f (m1 (ej rfl rfl)) (args := #[.bool true]) rfl (t_code true _) ?_))))))
      rintro _ w12 ⟨rfl,x11⟩
      refine s_assign (v := .int .i64 (code true)) (ej rfl rfl) (w0 rfl) (c_done (n_then (c_ret (ret1 (v := .int .i64 (code true)) rfl rfl rfl ?_))))
      refine ⟨_,rfl,?_,(Ext.trans (NewB.ext n3) x11)⟩
      (refine congrArg (Value.int .i64) (congrArg code ?_); first | (simp [tmB, *]; done) | (simp [tmB,varB, *]; done) | (simp [tmB,varB, *]; (repeat' split) <;> simp_all [varB]; done))
    refine s_move (v := .bool false) (vb (ej rfl rfl) (decide_eq_false h10)) (wy rfl rfl rfl rfl) (s_field (off := 0) (o' := 0) F_f28_0 (ej rfl rfl) rfl (wy rfl rfl rfl rfl) (s_load (v := .string x.v) F_o9 (ej rfl rfl) (cell_of_blk (i := 0) (NewB.blk n3) rfl) (wy rfl rfl rfl rfl) (s_call F_e89 (wy rfl rfl rfl rfl) ev_f (m3 (ej rfl rfl) ev_c ev_c) (args := #[.string x.v,.int .u8 65,.int .u8 90]) rfl (t_word x.v 65 90 _ (Tm.wf.v hx)) ?_)))
    rintro _ w14 ⟨rfl,x13⟩
    refine s_pick0 (v := .bool (wordB x.v 65 90)) (ej rfl rfl) (ej rfl rfl) (wy rfl rfl rfl rfl) (s_pick1 (v := .bool (wordB x.v 65 90)) (ej rfl rfl) (ej rfl rfl) (w0 rfl) (s_call F_e50 (w0 rfl) ev_f (m1 (ej rfl rfl)) (args := #[.bool (wordB x.v 65 90)]) rfl (t_code (wordB x.v 65 90) _) ?_))
    rintro _ w16 ⟨rfl,x15⟩
    refine s_assign (v := .int .i64 (code (wordB x.v 65 90))) (ej rfl rfl) (w0 rfl) (c_done (n_then (c_ret (ret1 (v := .int .i64 (code (wordB x.v 65 90))) rfl rfl rfl ?_))))
    refine ⟨_,rfl,?_,(Ext.trans (Ext.trans (NewB.ext n3) x13) x15)⟩
    (refine congrArg (Value.int .i64) (congrArg code ?_); first | (simp [tmB, *]; done) | (simp [tmB,varB, *]; done) | (simp [tmB,varB, *]; (repeat' split) <;> simp_all [varB]; done))
  refine s_move (v := .bool false) (vb (ej rfl rfl) h9) (w0 rfl) (s_skip (wn rfl rfl rfl rfl rfl) (s_skip (wn rfl rfl rfl rfl rfl) (s_skip (wn rfl rfl rfl rfl rfl) (s_skip (wn rfl rfl rfl rfl rfl) (s_skip (wu rfl rfl rfl rfl) (s_skip (wu rfl rfl rfl rfl) (s_skip (wu rfl rfl rfl rfl) (s_skip (wn rfl rfl rfl rfl rfl) (s_pick0 (v := .bool false) (ej rfl rfl) ev_c (w0 rfl) (s_call F_e50 (w0 rfl) ev_f (m1 (ej rfl rfl)) (args := #[.bool false]) rfl (t_code false _) ?_))))))))))
  rintro _ w18 ⟨rfl,x17⟩
  refine s_assign (v := .int .i64 (code false)) (ej rfl rfl) (w0 rfl) (c_done (n_then (c_ret (ret1 (v := .int .i64 (code false)) rfl rfl rfl ?_))))
  refine ⟨_,rfl,?_,(Ext.trans (NewB.ext n3) x17)⟩
  (refine congrArg (Value.int .i64) (congrArg code ?_); first | (simp [tmB, *]; done) | (simp [tmB,varB, *]; done) | (simp [tmB,varB, *]; (repeat' split) <;> simp_all [varB]; done))
theorem t_solid (x : Tm) (w : World) (hx : x.wf) :
    Rt Tryd.prog 77 #[.agg #[.string x.v,.int .i8 x.l.k,.int .i64 x.l.n,.string x.l.s]] w fun v w' => v = .bool (!decide (x.v = ⟨#[95]⟩) && tmB x) ∧ Ext w w' := by
  refine enter Tryd.func77 rfl (l := [.agg #[.string x.v,.int .i8 x.l.k,.int .i64 x.l.n,.string x.l.s]]) rfl Tryd.ntmps77 (Nat.le_of_ble_eq_true rfl) ?_
  refine c_seq (c_reg (s_box (v := .agg #[.string x.v,.int .i8 x.l.k,.int .i64 x.l.n,.string x.l.s]) (cs := #[.string x.v,.int .i8 x.l.k,.int .i64 x.l.n,.string x.l.s]) (w0 rfl) (ej rfl rfl) rfl ?_))
  intro w2 g1 n3
  refine s_assign (v := .bool false) ev_c (w0 rfl) (c_done (n_then (c_seq (c_reg (s_field (off := 0) (o' := 0) F_f28_0 (ej rfl rfl) rfl (w0 rfl) (s_load (v := .string x.v) F_o9 (ej rfl rfl) (cell_of_blk (i := 0) (NewB.blk n3) rfl) (w0 rfl) (s_cmpS (r := !decide (x.v = (⟨#[95]⟩ : ByteArray))) (ej rfl rfl) ev_c rfl (w0 rfl) ?_)))))))
  by_cases h4 : x.v = (⟨#[95]⟩ : ByteArray)
  · refine s_move (v := .bool false) (vb (ej rfl rfl) (nb0 h4)) (w0 rfl) (s_skip (wn rfl rfl rfl rfl rfl) (s_skip (wn rfl rfl rfl rfl rfl) (s_skip (wn rfl rfl rfl rfl rfl) (s_pick0 (v := .bool false) (ej rfl rfl) ev_c (w0 rfl) (s_assign (v := .bool false) (ej rfl rfl) (w0 rfl) (c_done (n_then (c_ret (ret1 (v := .bool false) rfl rfl rfl ?_)))))))))
    refine ⟨_,rfl,?_,(NewB.ext n3)⟩
    (simp [*])
  refine s_move (v := .bool true) (vb (ej rfl rfl) (nb1 h4)) (w0 rfl) (s_loadL (cs := [.string x.v,.int .i8 x.l.k,.int .i64 x.l.n,.string x.l.s]) F_m28 (ej rfl rfl) rfl rfl (blk_cells (NewB.blk n3) 0 rfl) (wy rfl rfl rfl rfl) (s_call F_e84 (wy rfl rfl rfl rfl) ev_f (m1 (ej rfl rfl)) (args := #[.agg #[.string x.v,.int .i8 x.l.k,.int .i64 x.l.n,.string x.l.s]]) rfl (t_CheckTerm x _ hx) ?_))
  rintro _ w6 ⟨rfl,x5⟩
  refine s_cmp (r := tmB x) (ej rfl rfl) ev_c (ci_t (b := (tmB x)) (by decide)) (wy rfl rfl rfl rfl) (s_pick1 (v := .bool (tmB x)) (ej rfl rfl) (ej rfl rfl) (w0 rfl) (s_assign (v := .bool (tmB x)) (ej rfl rfl) (w0 rfl) (c_done (n_then (c_ret (ret1 (v := .bool (tmB x)) rfl rfl rfl ?_))))))
  refine ⟨_,rfl,?_,(Ext.trans (NewB.ext n3) x5)⟩
  (simp [*])
end Go.Proofs.Dw

set_option linter.unusedVariables false
set_option linter.unusedSimpArgs false
set_option maxRecDepth 10000
namespace Go.Proofs.Dw
open Go Go.Wk Go.Proofs Go.Lib
attribute [local irreducible] Go.wpList Go.wpStill Go.wpQuiet Go.Code.wp Go.Calls
theorem F_e107 : enterable Tryd.prog 107 = true := by kernel_rfl
theorem F_e51 : enterable Tryd.prog 51 = true := by kernel_rfl
theorem F_e77 : enterable Tryd.prog 77 = true := by kernel_rfl
theorem F_e78 : enterable Tryd.prog 78 = true := by kernel_rfl
theorem F_e79 : enterable Tryd.prog 79 = true := by kernel_rfl
theorem F_e80 : enterable Tryd.prog 80 = true := by kernel_rfl
theorem F_e81 : enterable Tryd.prog 81 = true := by kernel_rfl
theorem F_o3 : one Tryd.prog 3 = true := by kernel_rfl
theorem s_IndexFuncE (x : Ex) (A : Option Addr) (c : Nat) (g : Nat) (w : World) (p : Ex → Bool) (hl : x.kids.length ≤ 140737488351232) (hr : Row RE 6 w A x.kids) (hp : ∀ (j : Nat) (y : Ex) (A : Option Addr) (c : Nat) (w' : World),x.kids[j]? = some y → Ext w w' → y.okc c → Row RE 6 w' A y.kids → Rt Tryd.prog 81 #[.agg #[.int .i8 y.op,.string y.t.v,.int .i8 y.t.l.k,.int .i64 y.t.l.n,.string y.t.l.s,.slice A y.kids.length c],.pointer (some ⟨g,0,none⟩)] w' fun v w2 => v = .bool (p y) ∧ Ext w' w2) :
    Rt Tryd.prog 107 #[.slice A x.kids.length c,.func (.func 81) #[] #[.pointer (some ⟨g,0,none⟩)]] w fun v w' => v = .int .i64 (posB p x.kids) ∧ Ext w w' := by
  refine enter Tryd.func107 rfl (l := [.slice A x.kids.length c,.func (.func 81) #[] #[.pointer (some ⟨g,0,none⟩)]]) rfl Tryd.ntmps107 (Nat.le_of_ble_eq_true rfl) ?_
  refine c_seq (c_reg (s_assign (v := .int .i64 0) ev_c (w0 rfl) (c_done (n_then (c_seq (c_seq (c_reg (s_move (v := .slice A x.kids.length c) (ej rfl rfl) (w0 rfl) (s_lenL F_l29 (ej rfl rfl) (w0 rfl) (s_move (v := .int .i64 0) ev_c (w0 rfl) (c_done ?_)))))))))))
  refine n_then (c_block ?_)
  refine c_loop (α := Nat) (fun (i : Nat) env_ w_ => Ext w w_ ∧ (∀ j y,j < i → x.kids[j]? = some y → p y = false) ∧ env_ 0 = .slice A x.kids.length c ∧ env_ 1 = .func (.func 81) #[] #[.pointer (some ⟨g,0,none⟩)] ∧ env_ 7 = .int .i64 (x.kids.length : Int) ∧ env_ 8 = .int .i64 ((i : Nat) : Int)) (fun i => x.kids.length - i) (0) ⟨Ext.refl _,(fun j y h => absurd h (Nat.not_lt_zero j)),rfl,rfl,rfl,rfl⟩ ?_
  rintro i env3 w1 ⟨x2,i4,e5,e6,e7,e8⟩
  refine c_seq (c_reg (s_cmp (r := decide (((i : Nat) : Int) < (x.kids.length : Int))) (ej rfl e8) (ej rfl e7) rfl (w0 rfl) (c_done (n_then (c_seq ?_)))))
  by_cases h9 : ((i : Nat) : Int) < (x.kids.length : Int)
  · refine c_cond1 (vb (ej rfl rfl) (decide_eq_true h9)) (c_skip (n_then (c_seq (c_block (c_seq (c_reg (s_move (v := .int .i64 ((i : Nat) : Int)) (ej rfl e8) (w0 rfl) (s_assign (v := .int .i64 ((i : Nat) : Int)) (ej rfl rfl) (w0 rfl) (c_done (n_then (c_seq ?_)))))))))))
    refine c_reg (s_move (v := .func (.func 81) #[] #[.pointer (some ⟨g,0,none⟩)]) (ej rfl e6) (w0 rfl) (s_move (v := .slice A x.kids.length c) (ej rfl e5) (w0 rfl) (s_move (v := .int .i64 ((i : Nat) : Int)) (ej rfl rfl) (w0 rfl) ?_)))
    obtain ⟨b10,o11,x12,csx12,hA13,hx14,hR15,hc16⟩ := Row.at_ hr i (by omega)
    obtain rfl := Ex.kid_of hx14
    obtain ⟨A17,c18,rfl,ho19,hr20⟩ := RE.open_ hR15
    refine s_indexR (j := i) F_l29 (ej rfl rfl) hA13 (ej rfl rfl) rfl (by omega) (w0 rfl) (s_loadL (cs := [.int .i8 ((x.kid i).op),.string ((x.kid i).t.v),.int .i8 ((x.kid i).t.l.k),.int .i64 ((x.kid i).t.l.n),.string ((x.kid i).t.l.s),.slice A17 ((x.kid i).kids.length) c18]) F_m31 (ej rfl rfl) rfl rfl (sub_cells (cells_ext x2 hc16) 0 rfl) (w0 rfl) (s_call F_e81 (w0 rfl) (ej rfl rfl) (m1 (ej rfl rfl)) (args := #[.agg #[.int .i8 ((x.kid i).op),.string ((x.kid i).t.v),.int .i8 ((x.kid i).t.l.k),.int .i64 ((x.kid i).t.l.n),.string ((x.kid i).t.l.s),.slice A17 ((x.kid i).kids.length) c18],.pointer (some ⟨g,0,none⟩)]) rfl (hp i (x.kid i) A17 c18 _ (kid_there (x := x) (j := i) (by omega)) x2 ho19 (Row.extE hr20 x2)) ?_))
    rintro _ w22 ⟨rfl,x21⟩
    refine c_done (n_then ?_)
    rcases Bool.eq_false_or_eq_true (p (x.kid i)) with h23 | h23
    · refine c_cond1 (vb (ej rfl rfl) h23) (c_seq (c_reg (s_move (v := .int .i64 ((i : Nat) : Int)) (ej rfl rfl) (w0 rfl) (s_assign (v := .int .i64 ((i : Nat) : Int)) (ej rfl rfl) (w0 rfl) (c_done (n_then (c_ret (r_block (r_then (r_then (r_block ?_)))))))))))
      refine r_then (ret1 (v := .int .i64 ((i : Nat) : Int)) rfl rfl rfl ?_)
      refine ⟨_,rfl,?_,(Ext.trans x2 x21)⟩
      (refine congrArg (Value.int .i64) (Eq.symm (posB_at i4 (kid_there (x := x) (j := i) (by omega)) (by assumption))))
    refine c_cond0 (vb (ej rfl rfl) h23) (c_skip (n_block (n_then (c_reg (s_add (r := ((i + 1 : Nat) : Int)) (ej rfl e8) ev_c (by omega) (by omega) (w0 rfl) (s_move (v := .int .i64 ((i + 1 : Nat) : Int)) (ej rfl rfl) (w0 rfl) (c_done ?_)))))))
    exact ⟨(i + 1),_,rfl,⟨(Ext.trans x2 x21),(kids_stepF i4 (kid_there (by omega)) (by assumption)),e5,e6,e7,rfl⟩,(show x.kids.length - (i + 1) < x.kids.length - i by omega)⟩
  refine c_cond0 (vb (ej rfl rfl) (decide_eq_false h9)) (c_exit (e_then (e_then (e_hit (n_then (c_seq (c_reg (s_assign (v := .int .i64 (-1)) ev_c (w0 rfl) (c_done (n_then (c_ret ?_)))))))))))
  refine ret1 (v := .int .i64 (-1)) rfl rfl rfl ?_
  refine ⟨_,rfl,?_,x2⟩
  (refine congrArg (Value.int .i64) (Eq.symm (posB_none (by assumption) i4)))
theorem s_ContainsFuncE (x : Ex) (A : Option Addr) (c : Nat) (g : Nat) (w : World) (p : Ex → Bool) (hl : x.kids.length ≤ 140737488351232) (hr : Row RE 6 w A x.kids) (hp : ∀ (j : Nat) (y : Ex) (A : Option Addr) (c : Nat) (w' : World),x.kids[j]? = some y → Ext w w' → y.okc c → Row RE 6 w' A y.kids → Rt Tryd.prog 81 #[.agg #[.int .i8 y.op,.string y.t.v,.int .i8 y.t.l.k,.int .i64 y.t.l.n,.string y.t.l.s,.slice A y.kids.length c],.pointer (some ⟨g,0,none⟩)] w' fun v w2 => v = .bool (p y) ∧ Ext w' w2) :
    Rt Tryd.prog 80 #[.slice A x.kids.length c,.func (.func 81) #[] #[.pointer (some ⟨g,0,none⟩)]] w fun v w' => v = .bool (decide (0 ≤ posB p x.kids)) ∧ Ext w w' := by
  refine enter Tryd.func80 rfl (l := [.slice A x.kids.length c,.func (.func 81) #[] #[.pointer (some ⟨g,0,none⟩)]]) rfl Tryd.ntmps80 (Nat.le_of_ble_eq_true rfl) ?_
  refine c_seq (c_reg (s_assign (v := .bool false) ev_c (w0 rfl) (c_done (n_then (c_seq (c_reg (s_move (v := .slice A x.kids.length c) (ej rfl rfl) (w0 rfl) (s_move (v := .func (.func 81) #[] #[.pointer (some ⟨g,0,none⟩)]) (ej rfl rfl) (w0 rfl) (s_call F_e107 (w0 rfl) ev_f (m2 (ej rfl rfl) (ej rfl rfl)) (args := #[.slice A x.kids.length c,.func (.func 81) #[] #[.pointer (some ⟨g,0,none⟩)]]) rfl (s_IndexFuncE x A c g _ p hl hr hp) ?_)))))))))
  rintro _ w2 ⟨rfl,x1⟩
  refine s_cmp (r := decide (0 ≤ posB p x.kids)) (ej rfl rfl) ev_c rfl (w0 rfl) (s_assign (v := .bool (decide (0 ≤ posB p x.kids))) (ej rfl rfl) (w0 rfl) (c_done (n_then (c_ret (ret1 (v := .bool (decide (0 ≤ posB p x.kids))) rfl rfl rfl ?_)))))
  refine ⟨_,rfl,?_,x1⟩
  rfl
theorem t_deep1 (d : Nat) (x : Ex) (A : Option Addr) (c : Nat) (g : Nat) (w : World) (ho : x.okc c) (hr : Row RE 6 w A x.kids) (hg : w.heap[g]? = some (.cells #[.int .i64 ((d : Nat) : Int)] 3 (0,0))) (hd : d ≤ 100) (hd0 : d ≠ 0) (ih : ∀ (x : Ex) (A : Option Addr) (c : Nat) (w : World),x.okc c → Row RE 6 w A x.kids → Rt Tryd.prog 51 #[.agg #[.int .i8 x.op,.string x.t.v,.int .i8 x.t.l.k,.int .i64 x.t.l.n,.string x.t.l.s,.slice A x.kids.length c],.int .i64 ((d - 1 : Nat) : Int)] w fun v w' => v = .bool (exB (d - 1) x) ∧ Ext w w') :
    Rt Tryd.prog 81 #[.agg #[.int .i8 x.op,.string x.t.v,.int .i8 x.t.l.k,.int .i64 x.t.l.n,.string x.t.l.s,.slice A x.kids.length c],.pointer (some ⟨g,0,none⟩)] w fun v w' => v = .bool (!exB (d - 1) x) ∧ Ext w w' := by
  refine enter Tryd.func81 rfl (l := [.agg #[.int .i8 x.op,.string x.t.v,.int .i8 x.t.l.k,.int .i64 x.t.l.n,.string x.t.l.s,.slice A x.kids.length c],.pointer (some ⟨g,0,none⟩)]) rfl Tryd.ntmps81 (Nat.le_of_ble_eq_true rfl) ?_
  have hl_ := Ex.okc.l ho
  have hc_ := Ex.okc.c ho
  refine c_seq (c_reg (s_box (v := .agg #[.int .i8 x.op,.string x.t.v,.int .i8 x.t.l.k,.int .i64 x.t.l.n,.string x.t.l.s,.slice A x.kids.length c]) (cs := #[.int .i8 x.op,.string x.t.v,.int .i8 x.t.l.k,.int .i64 x.t.l.n,.string x.t.l.s,.slice A x.kids.length c]) (w0 rfl) (ej rfl rfl) rfl ?_))
  intro w2 g1 n3
  refine s_assign (v := .bool false) ev_c (w0 rfl) (c_done (n_then (c_seq (c_reg (s_loadL (cs := [.int .i8 x.op,.string x.t.v,.int .i8 x.t.l.k,.int .i64 x.t.l.n,.string x.t.l.s,.slice A x.kids.length c]) F_m31 (ej rfl rfl) rfl rfl (blk_cells (NewB.blk n3) 0 rfl) (w0 rfl) (s_load (v := .int .i64 ((d : Nat) : Int)) F_o3 (ej rfl rfl) (cell_of_blk (i := 0) (Ext.blk (NewB.ext n3) hg) rfl) (w0 rfl) (s_sub (r := ((d - 1 : Nat) : Int)) (ej rfl rfl) ev_c (by omega) (by omega) (w0 rfl) (s_call F_e51 (w0 rfl) ev_f (m2 (ej rfl rfl) (ej rfl rfl)) (args := #[.agg #[.int .i8 x.op,.string x.t.v,.int .i8 x.t.l.k,.int .i64 x.t.l.n,.string x.t.l.s,.slice A x.kids.length c],.int .i64 ((d - 1 : Nat) : Int)]) rfl (ih x A c _ ho (Row.extE hr (NewB.ext n3))) ?_))))))))
  rintro _ w5 ⟨rfl,x4⟩
  refine s_not (b := exB (d - 1) x) (ej rfl rfl) (w0 rfl) (s_assign (v := .bool (!(exB (d - 1) x))) (ej rfl rfl) (w0 rfl) (c_done (n_then (c_ret (ret1 (v := .bool (!(exB (d - 1) x))) rfl rfl rfl ?_)))))
  refine ⟨_,rfl,?_,(Ext.trans (NewB.ext n3) x4)⟩
  rfl
theorem t_deep_step (d : Nat) (x : Ex) (A : Option Addr) (c : Nat) (w : World) (ho : x.okc c) (hr : Row RE 6 w A x.kids) (hd : d ≤ 100) (ih : d ≠ 0 → ∀ (x : Ex) (A : Option Addr) (c : Nat) (w : World),x.okc c → Row RE 6 w A x.kids → Rt Tryd.prog 51 #[.agg #[.int .i8 x.op,.string x.t.v,.int .i8 x.t.l.k,.int .i64 x.t.l.n,.string x.t.l.s,.slice A x.kids.length c],.int .i64 ((d - 1 : Nat) : Int)] w fun v w' => v = .bool (exB (d - 1) x) ∧ Ext w w') :
    Rt Tryd.prog 51 #[.agg #[.int .i8 x.op,.string x.t.v,.int .i8 x.t.l.k,.int .i64 x.t.l.n,.string x.t.l.s,.slice A x.kids.length c],.int .i64 ((d : Nat) : Int)] w fun v w' => v = .bool (exB d x) ∧ Ext w w' := by
  refine enter Tryd.func51 rfl (l := [.agg #[.int .i8 x.op,.string x.t.v,.int .i8 x.t.l.k,.int .i64 x.t.l.n,.string x.t.l.s,.slice A x.kids.length c],.int .i64 ((d : Nat) : Int)]) rfl Tryd.ntmps51 (Nat.le_of_ble_eq_true rfl) ?_
  have hl_ := Ex.okc.l ho
  have hc_ := Ex.okc.c ho
  refine c_seq (c_reg (s_box (v := .agg #[.int .i8 x.op,.string x.t.v,.int .i8 x.t.l.k,.int .i64 x.t.l.n,.string x.t.l.s,.slice A x.kids.length c]) (cs := #[.int .i8 x.op,.string x.t.v,.int .i8 x.t.l.k,.int .i64 x.t.l.n,.string x.t.l.s,.slice A x.kids.length c]) (w0 rfl) (ej rfl rfl) rfl ?_))
  intro w2 g1 n3
  refine s_box (v := .int .i64 ((d : Nat) : Int)) (cs := #[.int .i64 ((d : Nat) : Int)]) (w0 rfl) (ej rfl rfl) rfl ?_
  intro w5 g4 n6
  refine s_assign (v := .bool false) ev_c (w0 rfl) (c_done (n_then (c_seq (c_seq (c_reg (s_load (v := .int .i64 ((d : Nat) : Int)) F_o3 (ej rfl rfl) (cell_of_blk (i := 0) (NewB.blk n6) rfl) (w0 rfl) (s_cmp (r := decide (((d : Nat) : Int) = 0)) (ej rfl rfl) ev_c rfl (w0 rfl) (c_done (n_then ?_)))))))))
  by_cases h7 : ((d : Nat) : Int) = 0
  · refine c_cond1 (vb (ej rfl rfl) (decide_eq_true h7)) (c_seq (c_reg (s_assign (v := .bool false) ev_c (w0 rfl) (c_done (n_then (c_ret (r_then (ret1 (v := .bool false) rfl rfl rfl ?_))))))))
    refine ⟨_,rfl,?_,(Ext.trans (NewB.ext n3) (NewB.ext n6))⟩
    (first | (have z_ : d = 0 := by omega); subst z_; rfl | (refine congrArg Value.bool ?_; rw [exB_pos (by omega)]; simp only [*,decide_true,decide_false,if_true,if_false,Bool.and_true,Bool.true_and,Bool.false_and,Bool.and_false,Bool.not_true,Bool.not_false,Bool.false_eq_true,reduceIte,not_true_eq_false,not_false_eq_true]))
  refine c_cond0 (vb (ej rfl rfl) (decide_eq_false h7)) (c_skip (n_then (c_seq (c_seq (c_reg (s_field (off := 0) (o' := 0) F_f31_0 (ej rfl rfl) rfl (w0 rfl) (s_load (v := .int .i8 x.op) F_o23 (ej rfl rfl) (cell_of_blk (i := 0) (Ext.blk (NewB.ext n6) (NewB.blk n3)) rfl) (w0 rfl) (s_cmp (r := decide (x.op = 0)) (ej rfl rfl) ev_c rfl (w0 rfl) (c_done (n_then ?_))))))))))
  by_cases h8 : x.op = 0
  · refine c_cond1 (vb (ej rfl rfl) (decide_eq_true h8)) (c_seq (c_reg (s_field (off := 5) (o' := 5) F_f31_2 (ej rfl rfl) rfl (w0 rfl) (s_load (v := .slice A x.kids.length c) F_o29 (ej rfl rfl) (cell_of_blk (i := 5) (Ext.blk (NewB.ext n6) (NewB.blk n3)) rfl) (w0 rfl) (s_lenL F_l29 (ej rfl rfl) (w0 rfl) (s_cmp (r := decide ((x.kids.length : Int) = 0)) (ej rfl rfl) ev_c rfl (w0 rfl) ?_))))))
    by_cases h9 : (x.kids.length : Int) = 0
    · refine s_move (v := .bool true) (vb (ej rfl rfl) (decide_eq_true h9)) (w0 rfl) (s_field (off := 1) (o' := 1) F_f31_1 (ej rfl rfl) rfl (wy rfl rfl rfl rfl) (s_loadL (cs := [.string x.t.v,.int .i8 x.t.l.k,.int .i64 x.t.l.n,.string x.t.l.s]) F_m28 (ej rfl rfl) rfl rfl (blk_cells (Ext.blk (NewB.ext n6) (NewB.blk n3)) 1 rfl) (wy rfl rfl rfl rfl) (s_call F_e77 (wy rfl rfl rfl rfl) ev_f (m1 (ej rfl rfl)) (args := #[.agg #[.string x.t.v,.int .i8 x.t.l.k,.int .i64 x.t.l.n,.string x.t.l.s]]) rfl (t_solid x.t _ (Ex.okc.t ho)) ?_)))
      rintro _ w11 ⟨rfl,x10⟩
      refine s_pick1 (v := .bool (!decide (x.t.v = ⟨#[95]⟩) && tmB x.t)) (ej rfl rfl) (ej rfl rfl) (w0 rfl) (s_assign (v := .bool (!decide (x.t.v = ⟨#[95]⟩) && tmB x.t)) (ej rfl rfl) (w0 rfl) (c_done (n_then (c_ret (r_then (ret1 (v := .bool (!decide (x.t.v = ⟨#[95]⟩) && tmB x.t)) rfl rfl rfl ?_))))))
      refine ⟨_,rfl,?_,(Ext.trans (Ext.trans (NewB.ext n3) (NewB.ext n6)) x10)⟩
      (first | (have z_ : d = 0 := by omega); subst z_; rfl | (refine congrArg Value.bool ?_; rw [exB_pos (by omega)]; simp only [*,decide_true,decide_false,if_true,if_false,Bool.and_true,Bool.true_and,Bool.false_and,Bool.and_false,Bool.not_true,Bool.not_false,Bool.false_eq_true,reduceIte,not_true_eq_false,not_false_eq_true]))
    refine s_move (v := .bool false) (vb (ej rfl rfl) (decide_eq_false h9)) (w0 rfl) (s_skip (wn rfl rfl rfl rfl rfl) (s_skip (wn rfl rfl rfl rfl rfl) (s_skip (wn rfl rfl rfl rfl rfl) (s_pick0 (v := .bool false) (ej rfl rfl) ev_c (w0 rfl) (s_assign (v := .bool false) (ej rfl rfl) (w0 rfl) (c_done (n_then (c_ret (r_then (ret1 (v := .bool false) rfl rfl rfl ?_))))))))))
    refine ⟨_,rfl,?_,(Ext.trans (NewB.ext n3) (NewB.ext n6))⟩
    (first | (have z_ : d = 0 := by omega); subst z_; rfl | (refine congrArg Value.bool ?_; rw [exB_pos (by omega)]; simp only [*,decide_true,decide_false,if_true,if_false,Bool.and_true,Bool.true_and,Bool.false_and,Bool.and_false,Bool.not_true,Bool.not_false,Bool.false_eq_true,reduceIte,not_true_eq_false,not_false_eq_true]))
  refine c_cond0 (vb (ej rfl rfl) (decide_eq_false h8)) (c_skip (n_then (c_seq (c_seq (c_quiet mixed (by kernel_rfl) (q_val (v := .pointer (some ⟨g1,1,none⟩)) (w0 rfl) (fun w_ c_ => r_field (off := 1) (o' := 1) F_f31_1 (ej rfl rfl) rfl) (q_val (v := .agg #[.string x.t.v,.int .i8 x.t.l.k,.int .i64 x.t.l.n,.string x.t.l.s]) (w0 rfl) (fun w_ c_ => r_loadL (cs := [.string x.t.v,.int .i8 x.t.l.k,.int .i64 x.t.l.n,.string x.t.l.s]) F_m28 (ej rfl rfl) rfl rfl (blk_cells (Ext.blk c_ (Ext.blk (NewB.ext n6) (NewB.blk n3))) 1 rfl)) (q_call (v := .bool (zT x.t)) F_e78 (w0 rfl) ev_f (m1 (ej rfl rfl)) (args := #[.agg #[.string x.t.v,.int .i8 x.t.l.k,.int .i64 x.t.l.n,.string x.t.l.s]]) rfl (fun w_ c_ => Rt.mono (t_none x.t _) (fun v_ w2_ h_ => ⟨h_.1,Ext.trans c_ h_.2⟩)) (q_val (v := .bool (!(zT x.t))) (w0 rfl) (fun w_ c_ => r_not (b := zT x.t) (ej rfl rfl)) ?_)))))))))
  rcases Bool.eq_false_or_eq_true (zT x.t) with h12 | h12
  · refine q_val (v := .bool false) (w0 rfl) (fun w_ c_ => r_move (v := .bool false) (vb (ej rfl rfl) (nbt h12))) (q_val (v := .pointer (some ⟨g1,5,none⟩)) (wy rfl rfl rfl rfl) (fun w_ c_ => r_field (off := 5) (o' := 5) F_f31_2 (ej rfl rfl) rfl) (q_val (v := .slice A x.kids.length c) (wy rfl rfl rfl rfl) (fun w_ c_ => r_load (v := .slice A x.kids.length c) F_o29 (ej rfl rfl) (cell_of_blk (i := 5) (Ext.blk c_ (Ext.blk (NewB.ext n6) (NewB.blk n3))) rfl)) (q_val (v := .int .i64 (x.kids.length : Int)) (wy rfl rfl rfl rfl) (fun w_ c_ => r_lenL F_l29 (ej rfl rfl)) (q_val (v := .pointer (some ⟨g1,0,none⟩)) (wy rfl rfl rfl rfl) (fun w_ c_ => r_field (off := 0) (o' := 0) F_f31_0 (ej rfl rfl) rfl) (q_val (v := .int .i8 x.op) (wy rfl rfl rfl rfl) (fun w_ c_ => r_load (v := .int .i8 x.op) F_o23 (ej rfl rfl) (cell_of_blk (i := 0) (Ext.blk c_ (Ext.blk (NewB.ext n6) (NewB.blk n3))) rfl)) (q_call (v := .int .i64 (kidsN x.op)) F_e79 (wy rfl rfl rfl rfl) ev_f (m1 (ej rfl rfl)) (args := #[.int .i8 x.op]) rfl (fun w_ c_ => Rt.mono (t_arity x.op _) (fun v_ w2_ h_ => ⟨h_.1,Ext.trans c_ h_.2⟩)) (q_val (v := .bool (!decide ((x.kids.length : Int) = kidsN x.op))) (wy rfl rfl rfl rfl) (fun w_ c_ => r_cmp (r := !decide ((x.kids.length : Int) = kidsN x.op)) (ej rfl rfl) (ej rfl rfl) rfl) (q_val (v := .bool (!decide ((x.kids.length : Int) = kidsN x.op))) (w0 rfl) (fun w_ c_ => r_pick0 (v := .bool (!decide ((x.kids.length : Int) = kidsN x.op))) (ej rfl rfl) (ej rfl rfl)) (q_done ?_)))))))))
    intro w13 x14
    refine n_then ?_
    by_cases h15 : (x.kids.length : Int) = kidsN x.op
    · refine c_cond0 (vb (ej rfl rfl) (nb0 h15)) (c_skip (n_then (c_seq (c_reg (s_field (off := 5) (o' := 5) F_f31_2 (ej rfl rfl) rfl (w0 rfl) (s_load (v := .slice A x.kids.length c) F_o29 (ej rfl rfl) (cell_of_blk (i := 5) (Ext.blk x14 (Ext.blk (NewB.ext n6) (NewB.blk n3))) rfl) (w0 rfl) (s_makeFunc (vf := #[]) (vc := #[.pointer (some ⟨g4,0,none⟩)]) m0 (m1 (ej rfl rfl)) (w0 rfl) (s_call F_e80 (w0 rfl) ev_f (m2 (ej rfl rfl) (ej rfl rfl)) (args := #[.slice A x.kids.length c,.func (.func 81) #[] #[.pointer (some ⟨g4,0,none⟩)]]) rfl (s_ContainsFuncE x A c g4 _ (fun y => !exB (d - 1) y) (by omega) (Row.extE (Row.extE (Row.extE hr (NewB.ext n3)) (NewB.ext n6)) x14) (fun j_ y_ A_ c_ w_ _ x_ ho_ hr_ => t_deep1 d y_ A_ c_ g4 w_ ho_ hr_ (Ext.blk x_ (Ext.blk x14 (NewB.blk n6))) hd (by omega) (ih (by omega)))) ?_))))))))
      rintro _ w17 ⟨rfl,x16⟩
      refine s_not (b := decide (0 ≤ posB (fun y => !exB (d - 1) y) x.kids)) (ej rfl rfl) (w0 rfl) (s_assign (v := .bool (!(decide (0 ≤ posB (fun y => !exB (d - 1) y) x.kids)))) (ej rfl rfl) (w0 rfl) (c_done (n_then (c_ret (ret1 (v := .bool (!(decide (0 ≤ posB (fun y => !exB (d - 1) y) x.kids)))) rfl rfl rfl ?_)))))
      refine ⟨_,rfl,?_,(Ext.trans (Ext.trans (Ext.trans (NewB.ext n3) (NewB.ext n6)) x14) x16)⟩
      (refine congrArg Value.bool ?_; rw [posB_all,exB_pos (by omega),if_neg (by assumption)]; simp only [*,decide_true,decide_false,if_true,if_false,Bool.and_true,Bool.true_and,Bool.false_and,Bool.and_false,Bool.not_true,Bool.not_false,Bool.false_eq_true,reduceIte,not_true_eq_false,not_false_eq_true])
    refine c_cond1 (vb (ej rfl rfl) (nb1 h15)) (c_seq (c_reg (s_assign (v := .bool false) ev_c (w0 rfl) (c_done (n_then (c_ret (r_then (ret1 (v := .bool false) rfl rfl rfl ?_))))))))
    refine ⟨_,rfl,?_,(Ext.trans (Ext.trans (NewB.ext n3) (NewB.ext n6)) x14)⟩
    (first | (have z_ : d = 0 := by omega); subst z_; rfl | (refine congrArg Value.bool ?_; rw [exB_pos (by omega)]; simp only [*,decide_true,decide_false,if_true,if_false,Bool.and_true,Bool.true_and,Bool.false_and,Bool.and_false,Bool.not_true,Bool.not_false,Bool.false_eq_true,reduceIte,not_true_eq_false,not_false_eq_true]))
  refine q_val (v := .bool true) (w0 rfl) (fun w_ c_ => r_move (v := .bool true) (vb (ej rfl rfl) (nbf h12))) (q_skip (wn rfl rfl rfl rfl rfl) (q_skip (wn rfl rfl rfl rfl rfl) (q_skip (wn rfl rfl rfl rfl rfl) (q_skip (wn rfl rfl rfl rfl rfl) (q_skip (wn rfl rfl rfl rfl rfl) (q_skip (wn rfl rfl rfl rfl rfl) (q_skip (wn rfl rfl rfl rfl rfl) (q_val (v := .bool true) (w0 rfl) (fun w_ c_ => r_pick1 (v := .bool true) (ej rfl rfl) ev_c) (q_done ?_)))))))))
  intro w18 x19
  refine n_then (c_cond1 (ej rfl rfl) (c_seq (c_reg (s_assign (v := .bool false) ev_c (w0 rfl) (c_done (n_then (c_ret (r_then (ret1 (v := .bool false) rfl rfl rfl ?_)))))))))
  refine ⟨_,rfl,?_,(Ext.trans (Ext.trans (NewB.ext n3) (NewB.ext n6)) x19)⟩
  (first | (have z_ : d = 0 := by omega); subst z_; rfl | (refine congrArg Value.bool ?_; rw [exB_pos (by omega)]; simp only [*,decide_true,decide_false,if_true,if_false,Bool.and_true,Bool.true_and,Bool.false_and,Bool.and_false,Bool.not_true,Bool.not_false,Bool.false_eq_true,reduceIte,not_true_eq_false,not_false_eq_true]))
theorem t_deep : ∀ (d : Nat) (x : Ex) (A : Option Addr) (c : Nat) (w : World),d ≤ 100 → x.okc c → Row RE 6 w A x.kids → Rt Tryd.prog 51 #[.agg #[.int .i8 x.op,.string x.t.v,.int .i8 x.t.l.k,.int .i64 x.t.l.n,.string x.t.l.s,.slice A x.kids.length c],.int .i64 ((d : Nat) : Int)] w fun v w' => v = .bool (exB d x) ∧ Ext w w' := by
  intro d
  induction d with
  | zero =>
    intro x A c w hd ho hr
    exact t_deep_step 0 x A c w ho hr hd (fun h => absurd rfl h)
  | succ d ih =>
    intro x A c w hd ho hr
    exact t_deep_step (d + 1) x A c w ho hr hd (fun _ x A c w ho hr => ih x A c w (by omega) ho hr)
theorem t_CheckExpr (x : Ex) (A : Option Addr) (c : Nat) (w : World) (ho : x.okc c) (hr : Row RE 6 w A x.kids) :
    Rt Tryd.prog 23 #[.agg #[.int .i8 x.op,.string x.t.v,.int .i8 x.t.l.k,.int .i64 x.t.l.n,.string x.t.l.s,.slice A x.kids.length c]] w fun v w' => v = .int .i64 (code (exB 8 x)) ∧ Ext w w' := by
  refine enter Tryd.func23 rfl (l := [.agg #[.int .i8 x.op,.string x.t.v,.int .i8 x.t.l.k,.int .i64 x.t.l.n,.string x.t.l.s,.slice A x.kids.length c]]) rfl Tryd.ntmps23 (Nat.le_of_ble_eq_true rfl) ?_
  have hl_ := Ex.okc.l ho
  have hc_ := Ex.okc.c ho
  refine c_seq (c_reg (s_box (v := .agg #[.int .i8 x.op,.string x.t.v,.int .i8 x.t.l.k,.int .i64 x.t.l.n,.string x.t.l.s,.slice A x.kids.length c]) (cs := #[.int .i8 x.op,.string x.t.v,.int .i8 x.t.l.k,.int .i64 x.t.l.n,.string x.t.l.s,.slice A x.kids.length c]) (w0 rfl) (ej rfl rfl) rfl ?_))
  intro w2 g1 n3
  refine s_assign (v := .int .i64 0) ev_c (w0 rfl) (c_done (n_then (c_seq (c_reg (s_loadL (cs := [.int .i8 x.op,.string x.t.v,.int .i8 x.t.l.k,.int .i64 x.t.l.n,.string x.t.l.s,.slice A x.kids.length c]) F_m31 (ej rfl rfl) rfl rfl (blk_cells (NewB.blk n3) 0 rfl) (w0 rfl) (s_call F_e51 (w0 rfl) ev_f (m2 (ej rfl rfl) ev_c) (args := #[.agg #[.int .i8 x.op,.string x.t.v,.int .i8 x.t.l.k,.int .i64 x.t.l.n,.string x.t.l.s,.slice A x.kids.length c],.int .i64 8]) rfl (t_deep 8 x A c _ (by decide) ho (Row.extE hr (NewB.ext n3))) ?_))))))
  rintro _ w5 ⟨rfl,x4⟩
  refine s_call F_e50 (w0 rfl) ev_f (m1 (ej rfl rfl)) (args := #[.bool (exB 8 x)]) rfl (t_code (exB 8 x) _) ?_
  rintro _ w7 ⟨rfl,x6⟩
  refine s_assign (v := .int .i64 (code (exB 8 x))) (ej rfl rfl) (w0 rfl) (c_done (n_then (c_ret (ret1 (v := .int .i64 (code (exB 8 x))) rfl rfl rfl ?_))))
  refine ⟨_,rfl,?_,(Ext.trans (Ext.trans (NewB.ext n3) x4) x6)⟩
  rfl
end Go.Proofs.Dw

set_option linter.unusedVariables false
set_option linter.unusedSimpArgs false
namespace Go.Wk
open Go Go.RowKit Go.Lib
/-! ### a strings.Builder at the head of a block of type T (e: the bytes' type) -/
def BW (e T B : Nat) (w : World) (g : Nat) (s : ByteArray) : Prop :=
  e ≠ T ∧ B ≤ g ∧ ∃ a A c,(a = .pointer none ∨ a = .pointer (some ⟨g,0,none⟩)) ∧ w.heap[g]? = some (.cells #[a,.slice A s.size c] T (0,0)) ∧ w.ownsRow B e 1 (.slice A s.size c) s.size (strCells s)
/-- Only block g and the unfrozen rows of bytes may turn. -/
def Bld (e g : Nat) (w w' : World) : Prop := Keep (fun k => k = g ∨ ∃ cs,w.heap[k]? = some (.cells cs e (0,0))) w w'
structure Wr (e T B g : Nat) (s : ByteArray) (w w' : World) : Prop where
  bw : BW e T B w' g s
  below : Below B w w'
  bld : Bld e g w w'
section
variable {e T B g : Nat} {w w' w2 w0 : World} {s : ByteArray}
theorem BW.lt (h : BW e T B w g s) : g < w.heap.size := by
  obtain ⟨_,_,_,_,_,_,h,_⟩ := h; exact lt_of_blk h
theorem BW.ext (h : BW e T B w g s) (k : Ext w w') : BW e T B w' g s := by
  obtain ⟨h1,h2,a,A,c,h3,h4,h5⟩ := h
  exact ⟨h1,h2,a,A,c,h3,k.blk h4,own_ext k h5⟩
theorem BW.cast {s2 : ByteArray} (h : BW e T B w g s) (he : s = s2) : BW e T B w g s2 := he ▸ h
theorem BW.new {cs : Array Value} (nb : NewB w g (.cells cs T (0,0)) w') (hc : cs = #[.pointer none,.slice none 0 0]) (hT : e ≠ T) (hB : B ≤ w.heap.size) : BW e T B w' g ⟨#[]⟩ := by
  subst hc
  refine ⟨hT,by rw [nb.eq]; exact hB,_,none,0,.inl rfl,nb.blk,own_nil B e 1⟩
theorem Wr.cast {s2 : ByteArray} (h : Wr e T B g s w w') (he : s = s2) : Wr e T B g s2 w w' := he ▸ h
theorem Bld.refl : Bld e g w w := Keep.refl _ _
theorem Bld.trans (h : Bld e g w w') (k : Bld e g w' w2) : Bld e g w w2 := by
  refine Keep.then_ h k fun i hi h2 => ?_
  by_cases hs : i = g ∨ ∃ cs,w.heap[i]? = some (.cells cs e (0,0))
  · exact hs
  · rcases h2 with h2 | ⟨cs,h2⟩
    · exact .inl h2
    · rw [h.block i hi hs] at h2
      exact .inr ⟨cs,h2⟩
theorem Bld.of_ext (k : Ext w w') : Bld e g w w' := Keep.mono k (fun _ _ h => h.elim)
theorem Wr.refl (h : BW e T B w g s) : Wr e T B g s w w := ⟨h,Below.refl _ _,Bld.refl⟩
theorem Wr.then_ {s2 : ByteArray} (h : Wr e T B g s w w') (k : Wr e T B g s2 w' w2) : Wr e T B g s2 w w2 := ⟨k.bw,h.below.trans k.below,h.bld.trans k.bld⟩
theorem below_ext {B : Nat} (k : Ext w w') (hB : B ≤ w.heap.size) : Below B w w' := ⟨k.os,k.tape,k.output,k.size,fun i hi => k.block i (by omega) (fun h => h)⟩
theorem Wr.ext (h : Wr e T B g s w w') (k : Ext w' w2) (hB : B ≤ w.heap.size) : Wr e T B g s w w2 := ⟨h.bw.ext k,h.below.trans (below_ext k (Nat.le_trans hB h.below.size)),h.bld.trans (Bld.of_ext k)⟩
theorem Wr.of_ext (h : BW e T B w g s) (k : Ext w w') (hB : B ≤ w.heap.size) : Wr e T B g s w w' := (Wr.refl h).ext k hB
theorem Wr.size (h : Wr e T B g s w w') : w.heap.size ≤ w'.heap.size := h.bld.size
theorem Wr.after {B : Nat} {s : ByteArray} (h : Wr e T B g s w w') (k : Ext w0 w) (hB : B = w0.heap.size) : Ext w0 w' := by
  subst hB
  exact Ext.of_below ((Ext.below k).trans h.below)
theorem Bld.blk {i t : Nat} {cs : Array Value} {fz : Nat × Nat} (h : Bld e g w w') (hb : w.heap[i]? = some (.cells cs t fz)) (ht : t ≠ e ∨ fz ≠ (0,0)) (hg : i ≠ g) : w'.heap[i]? = some (.cells cs t fz) := by
  refine Keep.blk h hb ?_
  rintro (h1 | ⟨cs2,h1⟩)
  · exact hg h1
  · rw [hb] at h1
    injection h1 with h1
    injection h1 with _ h2 h3
    rcases ht with ht | ht
    · exact ht h2
    · exact ht h3
theorem Wr.blk {i t : Nat} {cs : Array Value} {fz : Nat × Nat} (h : Wr e T B g s w w') (hb : w.heap[i]? = some (.cells cs t fz)) (ht : t ≠ e ∨ fz ≠ (0,0)) (hg : i ≠ g) : w'.heap[i]? = some (.cells cs t fz) := Bld.blk h.bld hb ht hg
/-- What the builder's own writes turn: its block, its own row. -/
theorem Bld.own {A : Option Addr} {n c : Nat} {xs : List Value} (h : Keep (fun k => k = g ∨ some k = (Value.slice A n c).ownBlock) w w') (ho : w.ownsRow B e 1 (.slice A n c) n xs) : Bld e g w w' := by
  refine Keep.mono h fun i hi h => ?_
  rcases h with h | h
  · exact .inl h
  · rcases ho.2 with ⟨hv,_⟩ | ⟨g',cap,cur,hv,_,hh,_⟩
    · injection hv with hv; subst hv; simp [Value.ownBlock] at h
    · rw [hv] at h
      have : i = g' := by simpa [Value.ownBlock] using h
      subst this
      exact .inr ⟨cur,hh⟩
theorem below_own {A : Option Addr} {n c : Nat} {xs : List Value} (h : Keep (fun k => k = g ∨ some k = (Value.slice A n c).ownBlock) w w') (ho : w.ownsRow B e 1 (.slice A n c) n xs) (hg : B ≤ g) (hB : B ≤ w.heap.size) : Below B w w' := by
  refine ⟨h.os,h.tape,h.output,h.size,fun i hi => h.block i (by omega) ?_⟩
  rintro (h1 | h1)
  · omega
  · have := own_ge ho i h1; omega
end
theorem strCells_append (a b : ByteArray) : strCells (a ++ b) = strCells a ++ strCells b := by simp [strCells]
/-- Texts, one behind the other. -/
def catL : List ByteArray → ByteArray
  | [] => ⟨#[]⟩
  | a :: l => a ++ catL l
theorem app_nil (a : ByteArray) : a ++ (⟨#[]⟩ : ByteArray) = a := by apply Go.WideShapes.bytes_inj; simp
theorem nil_app (a : ByteArray) : (⟨#[]⟩ : ByteArray) ++ a = a := by apply Go.WideShapes.bytes_inj; simp
theorem app_assoc (a b c : ByteArray) : a ++ b ++ c = a ++ (b ++ c) := by apply Go.WideShapes.bytes_inj; simp
theorem catL_step (l : List ByteArray) (i : Nat) (hi : i < l.length) : catL (l.take (i + 1)) = catL (l.take i) ++ l[i] := by
  induction l generalizing i with
  | nil => simp at hi
  | cons a l ih =>
    cases i with
    | zero => simp [catL,app_nil,nil_app]
    | succ i =>
      simp only [List.take_succ_cons,catL,List.getElem_cons_succ]
      rw [ih i (by simpa using hi),app_assoc]
section
variable {P : Program} {ops : Array Oper} {Q : Exit → Act → World → Prop} {rest : List Oper} {n d t : Nat} {env : Nat → Value} {ds : List Deferred} {w w' : World} {v u : Value}
  {ty T : TypeId} {pos : String} {af : Array Edge} {gd : Option (Nat × Bool)} {x y z : Operand}
theorem s_eqNil {p : Option Addr} {T2 : TypeId} (h : P.underlying T = some (.pointer (P.pointee T))) (hx : (mkA n env ds).eval x = .pointer p) (hy : (mkA n env ds).eval y = .pointer none) (hw : Region.wanted ⟨some d,.binOp .eql T x y T2,ty,pos,af,gd⟩ (yielded ops (mkA n env ds).tmps) = true)
    (k : wpList P ops Q rest (mkA n (upd env d (.bool p.isNone)) ds) w) : wpList P ops Q (⟨some d,.binOp .eql T x y T2,ty,pos,af,gd⟩ :: rest) (mkA n env ds) w := by
  refine s_val hw (w' := w) (v := .bool p.isNone) ?_ k
  cases p <;> simp [execOp,hx,hy,eqGuard,run_eql_pointer_nil,h]
theorem s_neSame {a : Addr} {te : TypeId} {T2 : TypeId} (hp : P.underlying T = some (.pointer te)) (hte : (P.info? te).isSome = true) (hx : (mkA n env ds).eval x = .pointer (some a)) (hy : (mkA n env ds).eval y = .pointer (some a)) (hw : Region.wanted ⟨some d,.binOp .neq T x y T2,ty,pos,af,gd⟩ (yielded ops (mkA n env ds).tmps) = true)
    (k : wpList P ops Q rest (mkA n (upd env d (.bool false)) ds) w) : wpList P ops Q (⟨some d,.binOp .neq T x y T2,ty,pos,af,gd⟩ :: rest) (mkA n env ds) w := by
  refine s_val hw (w' := w) (v := .bool false) ?_ k
  obtain ⟨j,hte⟩ := Option.isSome_iff_exists.1 hte
  have := Go.Lib.run_neq_ptr_same (P := P) w (j := j) a hp hte
  simp [execOp,hx,hy,eqGuard,this]
theorem s_ptrConv {S2 : TypeId} {p : Value} (h : (convert T S2 p).run P w = .ok p w) (hx : (mkA n env ds).eval x = p) (hw : Region.wanted ⟨some d,.convert T S2 x,ty,pos,af,gd⟩ (yielded ops (mkA n env ds).tmps) = true)
    (k : wpList P ops Q rest (mkA n (upd env d p) ds) w) : wpList P ops Q (⟨some d,.convert T S2 x,ty,pos,af,gd⟩ :: rest) (mkA n env ds) w :=
  s_val hw (w' := w) (v := p) (by
    simp only [execOp,hx]
    rw [Sem.run_bind,h]
    rfl) k
theorem s_extern {F : FuncId} {fn : Func} {ex : Array Value → Sem Value} {p : Value} {ts : Array TypeId} (hf : P.funcs[F]? = some fn) (hname : (fn.name == "runtime.NumGoroutine") = false) (hb : fn.body.isNone = true) (hn : Extern.findNext fn = none) (he : Extern.find fn = some ex)
    (hx : (mkA n env ds).eval x = .func (.func F) #[] #[]) (hy : (mkA n env ds).eval y = p) (hr : (ex #[p]).run P w = .ok v w) (hw : Region.wanted ⟨some d,.call ⟨.value x,#[y],ts⟩,ty,pos,af,gd⟩ (yielded ops (mkA n env ds).tmps) = true)
    (k : wpList P ops Q rest (mkA n (upd env d v) ds) w) : wpList P ops Q (⟨some d,.call ⟨.value x,#[y],ts⟩,ty,pos,af,gd⟩ :: rest) (mkA n env ds) w := by
  refine s_val hw (w' := w) (v := v) ?_ k
  have h2 : (#[] : Array Value) ++ #[p] ++ #[] = #[p] := rfl
  simp only [execOp,resolve,hx,m1 hy,Deferred.ofValue,Sem.run_bind,Sem.run_pure,Result.andThen_ok,invoke]
  rw [h2,run_callFunc_extern hf hname hb hn he,hr]
  rfl
end
theorem conv_toU {P : Program} {src dst t T : TypeId} {m g : Nat} {w : World} {a b : Value} {fz : Nat × Nat} (hs : P.underlying src = some (.pointer t)) (hd : P.underlying dst = some .unsafePointer) (ht : (P.info? t).map (·.size) = some (m + 1)) (hb : w.heap[g]? = some (.cells #[a,b] T fz)) : (convert src dst (.pointer (some ⟨g,0,none⟩))).run P w = .ok (.pointer (some ⟨g,0,none⟩)) w := by
  obtain ⟨j,hj,hm⟩ := Option.map_eq_some_iff.1 ht
  exact Go.Lib.run_to_unsafe w ⟨g,0,none⟩ hs hd hj (by omega) (e := T) (cells := 2) (by simp [World.shape?,hb]) (Nat.zero_lt_succ 1)
theorem conv_ofU {P : Program} {src dst u T : TypeId} {g : Nat} {w : World} {a b : Value} {fz : Nat × Nat} (hs : P.underlying src = some .unsafePointer) (hd : P.underlying dst = some (.pointer u)) (hu : (P.info? u).isSome = true) (hb : w.heap[g]? = some (.cells #[a,b] T fz)) (hl : liesAt P P.depth T (2 / P.cellsOf T) 0 u 1 = true) : (convert src dst (.pointer (some ⟨g,0,none⟩))).run P w = .ok (.pointer (some ⟨g,0,none⟩)) w := by
  obtain ⟨j,hj⟩ := Option.isSome_iff_exists.1 hu
  exact Go.Lib.run_from_unsafe w ⟨g,0,none⟩ hs hd hj (e := T) (cells := 2) (by simp [World.shape?,hb]) hl
theorem own_wrote {e T B g n : Nat} {w w' : World} {v : Value} {xs : List Value} {cs : Array Value} {fz : Nat × Nat} {o : Obj} (ho : w.ownsRow B e 1 v n xs) (hb : w.heap[g]? = some (.cells cs T fz)) (hne : e ≠ T) (wr : Wrote w g o w') : w'.ownsRow B e 1 v n xs :=
  own_move ho fun k hk => wr.keep.block k (own_lt ho k hk) (by rintro rfl; exact own_ne ho hb hne hk)
/-- Behind a write: the builder, one more piece in it. -/
theorem BW.finish {e T B g n' c c' : Nat} {w w1 w1' w2 w3 : World} {s0 s : ByteArray} {A A' : Option Addr} {cs : Array Value} (hne : e ≠ T) (hBg : B ≤ g) (hB : B ≤ w.heap.size) (hb : w.heap[g]? = some (.cells cs T (0,0))) (ho : w.ownsRow B e 1 (.slice A s0.size c) s0.size (strCells s0))
    (wr1 : Wrote w g (.cells #[.pointer (some ⟨g,0,none⟩),.slice A s0.size c] T (0,0)) w1) (x1 : Ext w1 w1') (k : Keep (fun i => some i = (Value.slice A s0.size c).ownBlock) w1' w2) (ow : w2.ownsRow B e 1 (.slice A' n' c') n' (strCells s0 ++ strCells s)) (hn : n' = s0.size + s.size)
    (wr2 : Wrote w2 g (.cells #[.pointer (some ⟨g,0,none⟩),.slice A' n' c'] T (0,0)) w3) : Wr e T B g (s0 ++ s) w w3 := by
  subst hn
  have hg2 : w2.heap[g]? = some (.cells #[.pointer (some ⟨g,0,none⟩),.slice A s0.size c] T (0,0)) := k.blk (x1.blk wr1.blk) (own_ne (own_ext x1 (own_wrote ho hb hne wr1)) (x1.blk wr1.blk) hne)
  have ow3 := own_wrote ow hg2 hne wr2
  have h1 : Keep (fun i => i = g ∨ some i = (Value.slice A s0.size c).ownBlock) w w3 :=
    (((Keep.mono wr1.keep (fun _ _ h => Or.inl h)).ext x1).then_ k (fun _ _ h => .inr h)).then_ wr2.keep (fun _ _ h => .inl h)
  refine ⟨⟨hne,hBg,_,A',c',.inr rfl,?_,?_⟩,below_own h1 ho hBg hB,Bld.own h1 ho⟩
  · rw [ByteArray.size_append]; exact wr2.blk
  · rw [ByteArray.size_append,strCells_append]; exact ow3
section
variable {P : Program} {ops : Array Oper} {Q : Exit → Act → World → Prop} {rest : List Oper} {n d t : Nat} {env : Nat → Value} {ds : List Deferred} {w w' : World} {v u : Value}
  {ty T : TypeId} {pos : String} {af : Array Edge} {gd : Option (Nat × Bool)} {x y z : Operand}
theorem r_sliceData {a : Addr} {ln c : Nat} (hx : (mkA n env ds).eval x = .slice (some a) ln c) (hc : c ≠ 0) : (execOp (mkA n env ds).eval ⟨some d,.call ⟨.builtin .unsafeSliceData,#[x],#[T]⟩,ty,pos,af,gd⟩).run P w = .ok (.value (.pointer (some a))) w := by
  simp only [execOp,resolve,Sem.run_bind,Sem.run_pure,Result.andThen_ok,invoke,builtin,m1 hx]
  rw [run_unsafeSliceData_row w #[T] ty a ln c hc]
  rfl
theorem s_unsafeString {e B c : Nat} {b : Nat} {pt it : TypeId} {s : ByteArray} {A : Option Addr} (hp : P.underlying pt = some (.pointer e)) (hc : P.cellsOf e = 1) (ho : w.ownsRow B e 1 (.slice A s.size c) s.size (strCells s)) (h0 : s.size ≠ 0) (hA : A = some ⟨b,0,none⟩)
    (hx : (mkA n env ds).eval x = .pointer (some ⟨b,0,none⟩)) (hy : (mkA n env ds).eval y = .int .i64 s.size) (hw : Region.wanted ⟨some d,.call ⟨.builtin .unsafeString,#[x,y],#[pt,it]⟩,ty,pos,af,gd⟩ (yielded ops (mkA n env ds).tmps) = true)
    (k : ∀ w',Below B w w' → wpList P ops Q rest (mkA n (upd env d (.string s)) ds) w') : wpList P ops Q (⟨some d,.call ⟨.builtin .unsafeString,#[x,y],#[pt,it]⟩,ty,pos,af,gd⟩ :: rest) (mkA n env ds) w := by
  have hB : B ≤ b := own_ge ho b (by rw [hA]; rfl)
  obtain ⟨g,cap,cur,hv,hg,hh,h1,h2,h3,h4⟩ : ∃ g cap cur,Value.slice A s.size c = .slice (some ⟨g,0,none⟩) s.size cap ∧ B ≤ g ∧ w.heap[g]? = some (.cells cur e (0,0)) ∧ s.size ≤ cap ∧ cap ≤ maxLen ∧ cur.size = cap * 1 ∧ cur.toList.take (s.size * 1) = strCells s := by
    rcases ho.2 with ⟨_,hn⟩ | h
    · omega
    · exact h
  injection hv with hv _ hcap
  rw [hA] at hv
  have hbg : b = g := by injection hv with hv; injection hv
  subst hbg
  have hl : s.data.toList.length = s.size := Array.length_toList
  have hrun := run_unsafeString_row (P := P) w pt it ty e hp hc b cur.size (by simp [World.shape?,hh]) s.data.toList (fun h => h0 (by rw [← hl,h]; rfl)) (by omega) (by simp only [maxLen] at h2; omega) (fun j xx hj => by
    rw [add0,Nat.zero_add]
    refine cell_of_blk hh ?_
    have hj' : j < s.data.toList.length := (List.getElem?_eq_some_iff.1 hj).1
    have hs : (strCells s)[j]? = some (.int .u8 xx.toNat) := by simp only [strCells,List.getElem?_map,hj,Option.map_some]
    rw [← h4,List.getElem?_take,if_pos (by omega)] at hs
    simpa using hs)
  refine s_val hw (w' := w.freeze ⟨b,0,none⟩ s.size) (v := .string s) ?_ (k _ (below_freeze (Below.refl B w) (by exact hB) s.size))
  simp only [execOp,resolve,Sem.run_bind,Sem.run_pure,Result.andThen_ok,invoke,builtin,m2 hx hy]
  rw [hl] at hrun
  rw [hrun]
  rfl
end
theorem own_cap {w : World} {base e m n c : Nat} {A : Option Addr} {xs : List Value} (h : w.ownsRow base e m (.slice A n c) n xs) (h0 : n ≠ 0) : c ≠ 0 := by
  rcases h.2 with ⟨_,h1⟩ | ⟨g,cap,cur,hv,hg,hh,h1,h2,h3,h4⟩
  · exact absurd h1 h0
  · injection hv with _ _ hc
    omega
end Go.Wk

set_option linter.unusedVariables false
set_option linter.unusedSimpArgs false
set_option maxRecDepth 10000
namespace Go.Proofs.Dw
open Go Go.Wk Go.Proofs Go.Lib
attribute [local irreducible] Go.wpList Go.wpStill Go.wpQuiet Go.Code.wp Go.Calls
theorem F_co5 : Tryd.prog.cellsOf 5 = 1 := by kernel_rfl
theorem F_e95 : enterable Tryd.prog 95 = true := by kernel_rfl
theorem F_f83_0 : fieldAt Tryd.prog 83 0 0 = true := by kernel_rfl
theorem F_f83_1 : fieldAt Tryd.prog 83 1 1 = true := by kernel_rfl
theorem F_is83 : (Tryd.prog.info? 83).isSome = true := by kernel_rfl
theorem F_o80 : one Tryd.prog 80 = true := by kernel_rfl
theorem F_o81 : one Tryd.prog 81 = true := by kernel_rfl
theorem F_sz80 : (Tryd.prog.info? 80).map (·.size) = some 1 := by kernel_rfl
theorem F_sz81 : (Tryd.prog.info? 81).map (·.size) = some 1 := by kernel_rfl
theorem F_sz83 : (Tryd.prog.info? 83).map (·.size) = some 2 := by kernel_rfl
theorem F_ue130 : Tryd.prog.underlying 130 = some (.pointer 5) := by kernel_rfl
theorem F_ue80 : Tryd.prog.underlying 80 = some (.pointer 83) := by kernel_rfl
theorem F_up80 : Tryd.prog.underlying 80 = some (.pointer (Tryd.prog.pointee 80)) := by kernel_rfl
theorem F_uu159 : Tryd.prog.underlying 159 = some .unsafePointer := by kernel_rfl
theorem b_copyCheck_fresh (T g n c : Nat) (A : Option Addr) (w : World) (hg : w.heap[g]? = some (.cells #[.pointer none,.slice A n c] T (0,0))) (hlies : liesAt Tryd.prog Tryd.prog.depth T (2 / Tryd.prog.cellsOf T) 0 83 1 = true) :
    Rt Tryd.prog 95 #[.pointer (some ⟨g,0,none⟩)] w fun v w' => v = .tuple #[] ∧ Wrote w g (.cells #[.pointer (some ⟨g,0,none⟩),.slice A n c] T (0,0)) w' := by
  refine enter Tryd.func95 rfl (l := [.pointer (some ⟨g,0,none⟩)]) rfl Tryd.ntmps95 (Nat.le_of_ble_eq_true rfl) ?_
  refine c_seq (c_reg (s_move (v := .pointer (some ⟨g,0,none⟩)) (ej rfl rfl) (w0 rfl) (s_nilCheck (ej rfl rfl) (w0 rfl) (s_field (off := 0) (o' := 0) F_f83_0 (ej rfl rfl) rfl (w0 rfl) (s_load (v := .pointer none) F_o80 (ej rfl rfl) (cell_of_blk (i := 0) hg rfl) (w0 rfl) (s_eqNil F_up80 (ej rfl rfl) ev_c (w0 rfl) (c_done (n_then (c_cond1 (ej rfl rfl) (c_reg (s_move (v := .pointer (some ⟨g,0,none⟩)) (ej rfl rfl) (w0 rfl) ?_)))))))))))
  refine s_move (v := .pointer (some ⟨g,0,none⟩)) (ej rfl rfl) (w0 rfl) (s_ptrConv (conv_toU F_ue80 F_uu159 F_sz83 hg) (ej rfl rfl) (w0 rfl) (s_extern (ex := Extern.AbiNoEscape.same) Tryd.func112 (by kernel_rfl) (by kernel_rfl) (by kernel_rfl) (by kernel_rfl) ev_f (ej rfl rfl) (v := .pointer (some ⟨g,0,none⟩)) rfl (w0 rfl) (s_ptrConv (conv_ofU F_uu159 F_ue80 F_is83 hg hlies) (ej rfl rfl) (w0 rfl) (s_nilCheck (ej rfl rfl) (w0 rfl) (s_field (off := 0) (o' := 0) F_f83_0 (ej rfl rfl) rfl (w0 rfl) (s_store (cs' := #[.pointer (some ⟨g,0,none⟩),.slice A n c]) F_sz80 (ej rfl rfl) (ej rfl rfl) (l := [.pointer (some ⟨g,0,none⟩)]) rfl rfl rfl hg (Nat.le_of_ble_eq_true rfl) rfl (w0 rfl) ?_))))))
  intro w1 k2
  refine c_done (ret0 rfl ?_)
  exact ⟨_,rfl,rfl,k2⟩
theorem b_copyCheck_used (T g n c : Nat) (A : Option Addr) (w : World) (hg : w.heap[g]? = some (.cells #[.pointer (some ⟨g,0,none⟩),.slice A n c] T (0,0))) (hlies : liesAt Tryd.prog Tryd.prog.depth T (2 / Tryd.prog.cellsOf T) 0 83 1 = true) :
    Rt Tryd.prog 95 #[.pointer (some ⟨g,0,none⟩)] w fun v w' => v = .tuple #[] ∧ Wrote w g (.cells #[.pointer (some ⟨g,0,none⟩),.slice A n c] T (0,0)) w' := by
  refine enter Tryd.func95 rfl (l := [.pointer (some ⟨g,0,none⟩)]) rfl Tryd.ntmps95 (Nat.le_of_ble_eq_true rfl) ?_
  refine c_seq (c_reg (s_move (v := .pointer (some ⟨g,0,none⟩)) (ej rfl rfl) (w0 rfl) (s_nilCheck (ej rfl rfl) (w0 rfl) (s_field (off := 0) (o' := 0) F_f83_0 (ej rfl rfl) rfl (w0 rfl) (s_load (v := .pointer (some ⟨g,0,none⟩)) F_o80 (ej rfl rfl) (cell_of_blk (i := 0) hg rfl) (w0 rfl) (s_eqNil F_up80 (ej rfl rfl) ev_c (w0 rfl) (c_done (n_then (c_cond0 (ej rfl rfl) (c_seq (c_reg ?_)))))))))))
  refine s_move (v := .pointer (some ⟨g,0,none⟩)) (ej rfl rfl) (w0 rfl) (s_nilCheck (ej rfl rfl) (w0 rfl) (s_field (off := 0) (o' := 0) F_f83_0 (ej rfl rfl) rfl (w0 rfl) (s_load (v := .pointer (some ⟨g,0,none⟩)) F_o80 (ej rfl rfl) (cell_of_blk (i := 0) hg rfl) (w0 rfl) (s_move (v := .pointer (some ⟨g,0,none⟩)) (ej rfl rfl) (w0 rfl) (s_neSame F_ue80 F_is83 (ej rfl rfl) (ej rfl rfl) (w0 rfl) (c_done (n_then (c_cond0 (ej rfl rfl) (c_skip (ret0 rfl ?_))))))))))
  exact ⟨_,rfl,rfl,⟨rfl,hg,Keep.refl _ _⟩⟩
theorem b_copyCheck (T g n c : Nat) (A : Option Addr) (w : World) {a : Value} (ha : a = .pointer none ∨ a = .pointer (some ⟨g,0,none⟩)) (hg : w.heap[g]? = some (.cells #[a,.slice A n c] T (0,0))) (hlies : liesAt Tryd.prog Tryd.prog.depth T (2 / Tryd.prog.cellsOf T) 0 83 1 = true) :
    Rt Tryd.prog 95 #[.pointer (some ⟨g,0,none⟩)] w fun v w' => v = .tuple #[] ∧ Wrote w g (.cells #[.pointer (some ⟨g,0,none⟩),.slice A n c] T (0,0)) w' := by
  rcases ha with rfl | rfl
  · exact b_copyCheck_fresh T g n c A w hg hlies
  exact b_copyCheck_used T g n c A w hg hlies
theorem b_WriteString (T B g : Nat) (s0 s : ByteArray) (w : World) (hb : BW 5 T B w g s0) (hB : B ≤ w.heap.size) (hlies : liesAt Tryd.prog Tryd.prog.depth T (2 / Tryd.prog.cellsOf T) 0 83 1 = true) (hs : s0.size + s.size ≤ 140737488355328) :
    Rt Tryd.prog 69 #[.pointer (some ⟨g,0,none⟩),.string s] w fun v w' => v = .tuple #[.int .i64 s.size,.nilIface] ∧ Wr 5 T B g (s0 ++ s) w w' := by
  refine enter Tryd.func69 rfl (l := [.pointer (some ⟨g,0,none⟩),.string s]) rfl Tryd.ntmps69 (Nat.le_of_ble_eq_true rfl) ?_
  obtain ⟨hne,hBg,a,A,c,ha,hg,ho⟩ := hb
  refine c_seq (c_reg (s_assign (v := .int .i64 0) ev_c (w0 rfl) (s_assign (v := .nilIface) ev_c (w0 rfl) (c_done (n_then (c_seq (c_reg (s_move (v := .pointer (some ⟨g,0,none⟩)) (ej rfl rfl) (w0 rfl) (s_call F_e95 (w0 rfl) ev_f (m1 (ej rfl rfl)) (args := #[.pointer (some ⟨g,0,none⟩)]) rfl (b_copyCheck T g _ _ _ _ ha hg hlies) ?_)))))))))
  rintro _ w1 ⟨rfl,k2⟩
  have ow3 := own_wrote ho hg hne k2
  refine c_done (n_then (c_seq (c_reg (s_move (v := .pointer (some ⟨g,0,none⟩)) (ej rfl rfl) (w0 rfl) (s_move (v := .pointer (some ⟨g,0,none⟩)) (ej rfl rfl) (w0 rfl) (s_nilCheck (ej rfl rfl) (w0 rfl) (s_field (off := 1) (o' := 1) F_f83_1 (ej rfl rfl) rfl (w0 rfl) (s_load (v := .slice A s0.size c) F_o81 (ej rfl rfl) (cell_of_blk (i := 1) (Wrote.blk k2) rfl) (w0 rfl) (s_move (v := .string s) (ej rfl rfl) (w0 rfl) (s_appendS F_ul81 F_us9 F_if5 (ej rfl rfl) ow3 (ej rfl rfl) (by omega) (Nat.le_trans hB (Keep.size (Wrote.keep k2))) (w0 rfl) ?_))))))))))
  intro A6 c7 w4 ow8 k5
  refine s_nilCheck (ej rfl rfl) (w0 rfl) (s_field (off := 1) (o' := 1) F_f83_1 (ej rfl rfl) rfl (w0 rfl) (s_store (cs' := #[.pointer (some ⟨g,0,none⟩),.slice A6 (s0.size + s.size) c7]) F_sz81 (ej rfl rfl) (ej rfl rfl) (l := [.slice A6 (s0.size + s.size) c7]) rfl rfl rfl (Keep.blk k5 (Wrote.blk k2) (own_ne ow3 (Wrote.blk k2) (by first | decide | assumption))) (Nat.le_of_ble_eq_true rfl) rfl (w0 rfl) ?_))
  intro w9 k10
  refine c_done (n_then (c_seq (c_reg (s_move (v := .string s) (ej rfl rfl) (w0 rfl) (s_lenS F_us9 (ej rfl rfl) (w0 rfl) (s_assign (v := .int .i64 (s.size : Int)) (ej rfl rfl) (w0 rfl) (s_assign (v := .nilIface) ev_c (w0 rfl) (c_done (n_then (c_ret (ret2 (v := .int .i64 (s.size : Int)) (v2 := .nilIface) rfl rfl rfl rfl rfl ?_)))))))))))
  exact ⟨_,rfl,rfl,BW.finish hne hBg hB hg ho k2 (Ext.refl w1) k5 ow8 rfl k10⟩
theorem b_WriteByte (T B g : Nat) (s0 : ByteArray) (b : UInt8) (w : World) (hb : BW 5 T B w g s0) (hB : B ≤ w.heap.size) (hlies : liesAt Tryd.prog Tryd.prog.depth T (2 / Tryd.prog.cellsOf T) 0 83 1 = true) (hs : s0.size + 1 ≤ 140737488355328) :
    Rt Tryd.prog 115 #[.pointer (some ⟨g,0,none⟩),.int .u8 ((b.toNat : Nat) : Int)] w fun v w' => v = .nilIface ∧ Wr 5 T B g (s0 ++ ⟨#[b]⟩) w w' := by
  refine enter Tryd.func115 rfl (l := [.pointer (some ⟨g,0,none⟩),.int .u8 ((b.toNat : Nat) : Int)]) rfl Tryd.ntmps115 (Nat.le_of_ble_eq_true rfl) ?_
  obtain ⟨hne,hBg,a,A,c,ha,hg,ho⟩ := hb
  refine c_seq (c_reg (s_assign (v := .nilIface) ev_c (w0 rfl) (c_done (n_then (c_seq (c_reg (s_move (v := .pointer (some ⟨g,0,none⟩)) (ej rfl rfl) (w0 rfl) (s_call F_e95 (w0 rfl) ev_f (m1 (ej rfl rfl)) (args := #[.pointer (some ⟨g,0,none⟩)]) rfl (b_copyCheck T g _ _ _ _ ha hg hlies) ?_))))))))
  rintro _ w1 ⟨rfl,k2⟩
  have ow3 := own_wrote ho hg hne k2
  refine c_done (n_then (c_seq (c_reg (s_move (v := .pointer (some ⟨g,0,none⟩)) (ej rfl rfl) (w0 rfl) (s_move (v := .pointer (some ⟨g,0,none⟩)) (ej rfl rfl) (w0 rfl) (s_nilCheck (ej rfl rfl) (w0 rfl) (s_field (off := 1) (o' := 1) F_f83_1 (ej rfl rfl) rfl (w0 rfl) (s_load (v := .slice A s0.size c) F_o81 (ej rfl rfl) (cell_of_blk (i := 1) (Wrote.blk k2) rfl) (w0 rfl) (s_move (v := .int .u8 ((b.toNat : Nat) : Int)) (ej rfl rfl) (w0 rfl) (s_bslice (vs := [(0,.int .u8 ((b.toNat : Nat) : Int))]) (cs := #[.int .u8 ((b.toNat : Nat) : Int)]) (b1 (ej rfl rfl)) (bs81_1_0iu8 ((b.toNat : Nat) : Int)) (w0 rfl) ?_))))))))))
  intro w5 g4 n6
  refine s_append (m := 1) (k := 1) (news := [.int .u8 ((b.toNat : Nat) : Int)]) F_ul81 F_if5 rfl (by decide) (ej rfl rfl) (own_ext (NewB.ext n6) ow3) (ej rfl rfl) rfl (by have z_ := blk_cells (NewB.blk n6) 0 (cs := [.int .u8 ((b.toNat : Nat) : Int)]) rfl; exact z_) rfl (by omega) (by omega) (Nat.le_trans (Nat.le_trans hB (Keep.size (Wrote.keep k2))) (Keep.size (NewB.ext n6))) (w0 rfl) ?_
  intro A9 c10 w7 ow11 k8
  refine s_nilCheck (ej rfl rfl) (w0 rfl) (s_field (off := 1) (o' := 1) F_f83_1 (ej rfl rfl) rfl (w0 rfl) (s_store (cs' := #[.pointer (some ⟨g,0,none⟩),.slice A9 (s0.size + 1) c10]) F_sz81 (ej rfl rfl) (ej rfl rfl) (l := [.slice A9 (s0.size + 1) c10]) rfl rfl rfl (Keep.blk k8 (Ext.blk (NewB.ext n6) (Wrote.blk k2)) (own_ne (own_ext (NewB.ext n6) ow3) (Ext.blk (NewB.ext n6) (Wrote.blk k2)) (by first | decide | assumption))) (Nat.le_of_ble_eq_true rfl) rfl (w0 rfl) ?_))
  intro w12 k13
  refine c_done (n_then (c_seq (c_reg (s_assign (v := .nilIface) ev_c (w0 rfl) (c_done (n_then (c_ret (ret1 (v := .nilIface) rfl rfl rfl ?_))))))))
  exact ⟨_,rfl,rfl,BW.finish hne hBg hB hg ho k2 (NewB.ext n6) k8 (own_bytes ow11 (by simp [strCells])) rfl k13⟩
theorem b_String (T B g : Nat) (s0 : ByteArray) (w : World) (hb : BW 5 T B w g s0) (hB : B ≤ w.heap.size) (h0 : s0.size ≠ 0) :
    Rt Tryd.prog 36 #[.pointer (some ⟨g,0,none⟩)] w fun v w' => v = .string s0 ∧ Go.RowKit.Below B w w' := by
  refine enter Tryd.func36 rfl (l := [.pointer (some ⟨g,0,none⟩)]) rfl Tryd.ntmps36 (Nat.le_of_ble_eq_true rfl) ?_
  obtain ⟨hne,hBg,a,A,c,ha,hg,ho⟩ := hb
  obtain ⟨b_,rfl,_⟩ := own_cells ho (Nat.pos_of_ne_zero h0)
  have hcap_ := own_cap ho h0
  refine c_seq (c_reg (s_assign (v := .string (⟨#[]⟩ : ByteArray)) ev_c (w0 rfl) (c_done (n_then (c_seq (c_tail 10 mixed (by kernel_rfl) rfl rfl ?_))))))
  intro w1 x2
  refine t_val (v := .pointer (some ⟨g,0,none⟩)) (w0 rfl) (r_move (v := .pointer (some ⟨g,0,none⟩)) (ej rfl rfl)) (t_val (v := .pointer (some ⟨g,0,none⟩)) (w0 rfl) (r_nilCheck (ej rfl rfl)) (t_val (v := .pointer (some ⟨g,1,none⟩)) (w0 rfl) (r_field (off := 1) (o' := 1) F_f83_1 (ej rfl rfl) rfl) (t_val (v := .slice (some ⟨b_,0,none⟩) s0.size c) (w0 rfl) (r_load (v := .slice (some ⟨b_,0,none⟩) s0.size c) F_o81 (ej rfl rfl) (cell_of_blk (i := 1) (Ext.blk x2 hg) rfl)) (t_val (v := .pointer (some ⟨b_,0,none⟩)) (w0 rfl) (r_sliceData (a := ⟨b_,0,none⟩) (ej rfl rfl) hcap_) (t_val (v := .pointer (some ⟨g,0,none⟩)) (w0 rfl) (r_move (v := .pointer (some ⟨g,0,none⟩)) (ej rfl rfl)) (t_val (v := .pointer (some ⟨g,0,none⟩)) (w0 rfl) (r_nilCheck (ej rfl rfl)) (t_val (v := .pointer (some ⟨g,1,none⟩)) (w0 rfl) (r_field (off := 1) (o' := 1) F_f83_1 (ej rfl rfl) rfl) (t_val (v := .slice (some ⟨b_,0,none⟩) s0.size c) (w0 rfl) (r_load (v := .slice (some ⟨b_,0,none⟩) s0.size c) F_o81 (ej rfl rfl) (cell_of_blk (i := 1) (Ext.blk x2 hg) rfl)) (t_val (v := .int .i64 (s0.size : Int)) (w0 rfl) (r_lenL F_l81 (ej rfl rfl)) (t_done (s_unsafeString F_ue130 F_co5 (own_ext x2 ho) h0 rfl (ej rfl rfl) (ej rfl rfl) (w0 rfl) ?_)))))))))))
  intro w3 k4
  refine s_assign (v := .string s0) (ej rfl rfl) (w0 rfl) (c_done (n_then (c_ret (ret1 (v := .string s0) rfl rfl rfl ?_))))
  exact ⟨_,rfl,rfl,Go.RowKit.Below.trans (below_ext x2 hB) k4⟩
end Go.Proofs.Dw

set_option linter.unusedVariables false
set_option linter.unusedSimpArgs false
namespace Go.Wk
open Go Go.RowKit Go.Lib
/-! ### the tables -/
theorem var_ext {P : Program} {w w' : World} {nm : String} {cs : Array Value} (h : w.var? P nm = some cs) (k : Ext w w') : w'.var? P nm = some cs := by
  unfold World.var? at h ⊢
  obtain ⟨g,hg,h⟩ := Option.bind_eq_some_iff.1 h
  rw [hg]
  simp only [Option.bind_some]
  cases hb : w.heap[g]? with
  | none => rw [hb] at h; simp at h
  | some o => rw [hb] at h; rw [k.blk hb]; exact h
theorem var_cell {P : Program} {w : World} {nm : String} {cs : Array Value} {g i : Nat} {v : Value} (h : w.var? P nm = some cs) (hg : P.globalNamed nm = some g) (hv : cs[i]? = some v) : w.cell? ⟨g,0 + i * 1,none⟩ = some v := by
  unfold World.var? at h
  rw [hg] at h
  simp only [Option.bind_some] at h
  split at h
  · rename_i hb
    cases h
    rw [Nat.zero_add,Nat.mul_one]
    exact cell_of_blk hb hv
  · cases h
def fastO (op : Int) : Int := if op = 2 ∨ op = 3 ∨ op = 7 then 1 else if op = 4 ∨ op = 5 ∨ op = 6 then 2 else if op = 1 then 3 else 4
def relW (r : Int) : ByteArray := if r = 1 then ⟨#[61]⟩ else if r = 2 then ⟨#[33,61]⟩ else if r = 3 then ⟨#[60]⟩ else if r = 4 then ⟨#[60,61]⟩ else if r = 5 then ⟨#[62]⟩ else ⟨#[62,61]⟩
structure Tabs (P : Program) (w : World) : Prop where
  hold : w.var? P "pedigree/print.hold" = some #[.int .i64 4, .int .i64 3, .int .i64 1, .int .i64 1, .int .i64 2, .int .i64 2, .int .i64 2, .int .i64 1, .int .i64 4, .int .i64 4, .int .i64 4]
  words : w.var? P "pedigree/print.words" = some #[.string ⟨#[]⟩, .string ⟨#[]⟩, .string ⟨#[]⟩, .string ⟨#[]⟩, .string ⟨#[]⟩, .string ⟨#[]⟩, .string ⟨#[]⟩, .string ⟨#[]⟩, .string ⟨#[108, 101, 110]⟩, .string ⟨#[99, 104, 97, 114, 115]⟩, .string ⟨#[98, 97, 99, 107]⟩]
  signs : w.var? P "pedigree/print.signs" = some #[.string ⟨#[]⟩, .string ⟨#[]⟩, .string ⟨#[43]⟩, .string ⟨#[45]⟩, .string ⟨#[42]⟩, .string ⟨#[47]⟩, .string ⟨#[37]⟩, .string ⟨#[38]⟩]
  pow : TabIs P w "internal/strconv.uint64pow10" .u64 pow10Tab
theorem Tabs.ext {P : Program} {w w' : World} (h : Tabs P w) (k : Ext w w') : Tabs P w' := ⟨var_ext h.hold k,var_ext h.words k,var_ext h.signs k,var_ext h.pow k⟩
section
variable {P : Program} {w : World} {g : Nat} {op : Int}
theorem Tabs.hold_at (h : Tabs P w) (hg : P.globalNamed "pedigree/print.hold" = some g) (ho : 0 ≤ op ∧ op ≤ 10) : w.cell? ⟨g, 0 + op.toNat * 1, none⟩ = some (.int .i64 (fastO op)) := by
  refine var_cell h.hold hg ?_
  have : op = 0 ∨ op = 1 ∨ op = 2 ∨ op = 3 ∨ op = 4 ∨ op = 5 ∨ op = 6 ∨ op = 7 ∨ op = 8 ∨ op = 9 ∨ op = 10 := by omega
  rcases this with rfl | rfl | rfl | rfl | rfl | rfl | rfl | rfl | rfl | rfl | rfl <;> rfl
theorem Tabs.words_at (h : Tabs P w) (hg : P.globalNamed "pedigree/print.words" = some g) (ho : 8 ≤ op ∧ op ≤ 10) : w.cell? ⟨g, 0 + op.toNat * 1, none⟩ = some (.string (wordW op)) := by
  refine var_cell h.words hg ?_
  have : op = 8 ∨ op = 9 ∨ op = 10 := by omega
  rcases this with rfl | rfl | rfl <;> rfl
theorem Tabs.signs_at (h : Tabs P w) (hg : P.globalNamed "pedigree/print.signs" = some g) (ho : 2 ≤ op ∧ op ≤ 7) : w.cell? ⟨g, 0 + op.toNat * 1, none⟩ = some (.string (signW op)) := by
  refine var_cell h.signs hg ?_
  have : op = 2 ∨ op = 3 ∨ op = 4 ∨ op = 5 ∨ op = 6 ∨ op = 7 := by omega
  rcases this with rfl | rfl | rfl | rfl | rfl | rfl <;> rfl
end
/-- A text's bytes in a frozen block, over a builder's writes. -/
def SBf (e : Nat) (w : World) (g : Nat) (s : ByteArray) : Prop := ∃ cs m,w.heap[g]? = some (.cells cs e (m,m + 1)) ∧ ∀ j,j < s.size → cs[j]? = some (.int .u8 (byteAt s j))
theorem SBf.sb {e : Nat} {w : World} {g : Nat} {s : ByteArray} (h : SBf e w g s) : SB w g s := by
  obtain ⟨cs,m,hb,hc⟩ := h
  intro j hj
  rw [Nat.zero_add,Nat.mul_one]
  exact cell_of_blk hb (hc j hj)
theorem SBf.ext {e : Nat} {w w' : World} {g : Nat} {s : ByteArray} (h : SBf e w g s) (k : Ext w w') : SBf e w' g s := by
  obtain ⟨cs,m,hb,hc⟩ := h; exact ⟨cs,m,k.blk hb,hc⟩
theorem SBf.wr {e T B g' : Nat} {w w' : World} {g : Nat} {s s' : ByteArray} (h : SBf e w g s) (k : Wr e T B g' s' w w') (hg : g ≠ g') : SBf e w' g s := by
  obtain ⟨cs,m,h1,hc⟩ := h
  exact ⟨cs,m,k.blk h1 (.inr (by simp)) hg,hc⟩
theorem SBf.ne {e T B g' : Nat} {w : World} {g : Nat} {s s0 : ByteArray} (h : SBf e w g s) (hb : BW e T B w g' s0) : g ≠ g' := by
  obtain ⟨cs,m,h1,hc⟩ := h
  rintro rfl
  obtain ⟨hne,_,_,_,_,_,h4,_⟩ := hb
  rw [h1] at h4
  injection h4 with h4
  injection h4 with _ h4
  exact hne h4
section
variable {P : Program} {ops : Array Oper} {Q : Exit → Act → World → Prop} {rest : List Oper} {n d t : Nat} {env : Nat → Value} {ds : List Deferred} {w w' : World} {v u : Value}
  {ty T : TypeId} {pos : String} {af : Array Edge} {gd : Option (Nat × Bool)} {x y z : Operand}
/-- []byte(s), the block known to be frozen. -/
theorem s_sbytesF {S2 e : TypeId} {s : ByteArray} (hs : P.underlying T = some .string) (hd : P.underlying S2 = some (.slice e)) (he : P.underlying e = some (.int .u8)) (hx : (mkA n env ds).eval x = .string s)
    (hw : Region.wanted ⟨some d,.convert T S2 x,ty,pos,af,gd⟩ (yielded ops (mkA n env ds).tmps) = true)
    (k : ∀ w' g c,SBf e w' g s → Ext w w' → wpList P ops Q rest (mkA n (upd env d (.slice (some ⟨g,0,none⟩) s.size c)) ds) w') : wpList P ops Q (⟨some d,.convert T S2 x,ty,pos,af,gd⟩ :: rest) (mkA n env ds) w := by
  refine s_val hw (w' := bytesWorld w e s) (v := .slice (some ⟨w.heap.size,0,none⟩) s.size (grownCap w s.size 0 e)) ?_ (k _ _ _ ?_ ?_)
  · simp only [execOp,hx]
    rw [Sem.run_bind,Go.Lib.run_convert_string_bytes w T S2 e s hs hd he]
    rfl
  · refine ⟨_,_,bytesWorld_at_new w e s,fun j hj => ?_⟩
    have := bytesWorld_cell w e s j hj
    rw [World.cell?,bytesWorld_at_new] at this
    have h2 : (bytesCells w e s)[j]? = some (.int .u8 (s.data.toList.getD j 0).toNat) := by simpa using this
    rw [h2]
    congr 2
    simp [byteAt,Array.getD_eq_getD_getElem?,List.getD_eq_getElem?_getD]
  · refine ⟨rfl,rfl,rfl,?_,fun j hj _ => bytesWorld_at_old w e s j hj⟩
    rw [bytesWorld_size]; omega
end
theorem shr4 {P : Program} (m : Nat) (h : m < 256) (T : TypeId) (w : World) : (binOp .shr T (.int .u8 (m : Int)) (.int .u64 4)).run P w = .ok (.int .u8 ((m / 16 : Nat) : Int)) w := by
  have e : (min 4 IntKind.u8.bits) = 4 := rfl
  have e2 : ((m : Int)).fdiv 16 = ((m / 16 : Nat) : Int) := by rw [Int.fdiv_eq_ediv_of_nonneg _ (by omega)]; rfl
  simp [binOp,Op.shift]
  rw [e,show ((2 : Int) ^ 4) = 16 from rfl,e2]; simp
theorem and15 {P : Program} (m : Nat) (h : m < 256) (T : TypeId) (w : World) : (binOp .and T (.int .u8 (m : Int)) (.int .u8 15)).run P w = .ok (.int .u8 ((m % 16 : Nat) : Int)) w := by
  have e : IntKind.u8.bits = 8 := rfl
  have e2 : m % 256 &&& 15 = m % 16 := by
    rw [Nat.mod_eq_of_lt h]
    exact Nat.and_two_pow_sub_one_eq_mod m 4
  simp [binOp,Op.intBits,e]
  rw [e2]
  rw [conv_u8 (by omega)]; simp
section
variable {P : Program} {ops : Array Oper} {Q : Exit → Act → World → Prop} {rest : List Oper} {n d t : Nat} {env : Nat → Value} {ds : List Deferred} {w w' : World} {v u : Value}
  {ty T : TypeId} {pos : String} {af : Array Edge} {gd : Option (Nat × Bool)} {x y z : Operand}
theorem s_shr4 {m : Nat} {T2 : TypeId} (hx : (mkA n env ds).eval x = .int .u8 (m : Int)) (hy : (mkA n env ds).eval y = .int .u64 4) (hm : m < 256) (hw : Region.wanted ⟨some d,.binOp .shr T x y T2,ty,pos,af,gd⟩ (yielded ops (mkA n env ds).tmps) = true)
    (k : wpList P ops Q rest (mkA n (upd env d (.int .u8 ((m / 16 : Nat) : Int))) ds) w) : wpList P ops Q (⟨some d,.binOp .shr T x y T2,ty,pos,af,gd⟩ :: rest) (mkA n env ds) w :=
  s_val hw (w' := w) (by
    have := shr4 (P := P) m hm T w
    simp only [execOp,hx,hy,eqGuard,Sem.run_bind]
    simp [this]) k
theorem s_and15 {m : Nat} {T2 : TypeId} (hx : (mkA n env ds).eval x = .int .u8 (m : Int)) (hy : (mkA n env ds).eval y = .int .u8 15) (hm : m < 256) (hw : Region.wanted ⟨some d,.binOp .and T x y T2,ty,pos,af,gd⟩ (yielded ops (mkA n env ds).tmps) = true)
    (k : wpList P ops Q rest (mkA n (upd env d (.int .u8 ((m % 16 : Nat) : Int))) ds) w) : wpList P ops Q (⟨some d,.binOp .and T x y T2,ty,pos,af,gd⟩ :: rest) (mkA n env ds) w :=
  s_val hw (w' := w) (by
    have := and15 (P := P) m hm T w
    simp only [execOp,hx,hy,eqGuard,Sem.run_bind]
    simp [this]) k
end
theorem BW.blk {e T B g : Nat} {w : World} {s : ByteArray} (h : BW e T B w g s) : ∃ cs,w.heap[g]? = some (.cells cs T (0,0)) := by
  obtain ⟨_,_,_,_,_,_,h,_⟩ := h; exact ⟨_,h⟩
theorem catL_stepD (l : List ByteArray) (i : Nat) (hi : i < l.length) : catL (l.take (i + 1)) = catL (l.take i) ++ l.getD i ⟨#[]⟩ := by
  rw [catL_step l i hi]
  simp [List.getD_eq_getElem?_getD,hi]
theorem catL_le (l : List ByteArray) (i : Nat) (hi : i < l.length) : (catL (l.take i)).size + (l.getD i ⟨#[]⟩).size ≤ (catL l).size := by
  induction l generalizing i with
  | nil => simp at hi
  | cons a l ih =>
    cases i with
    | zero => simp only [List.take_zero,catL,ByteArray.size_append,List.getD_cons_zero,z0]; omega
    | succ i =>
      have := ih i (by simpa using hi)
      simp only [List.take_succ_cons,catL,ByteArray.size_append,List.getD_cons_succ] at this ⊢
      omega
theorem strs_cell {w : World} {b t i : Nat} {fz : Nat × Nat} {ss : List ByteArray} (h : w.heap[b]? = some (.cells (ss.map Value.string).toArray t fz)) (hi : i < ss.length) : w.cell? ⟨b,0 + i * 1,none⟩ = some (.string (ss.getD i ⟨#[]⟩)) := by
  rw [Nat.zero_add,Nat.mul_one]
  refine cell_of_blk h ?_
  simp [List.getD_eq_getElem?_getD,hi]
theorem app1 (l : List UInt8) (a : UInt8) : strL l ++ (⟨#[a]⟩ : ByteArray) = strL (l ++ [a]) := by apply Go.WideShapes.bytes_inj; simp [strL]
theorem app2 (l : List UInt8) (a b : UInt8) : strL l ++ (⟨#[a,b]⟩ : ByteArray) = strL (l ++ [a,b]) := by apply Go.WideShapes.bytes_inj; simp [strL]
theorem ext_bel {w0 w w' : World} (h : Ext w0 w) (k : Below w0.heap.size w w') : Ext w0 w' := Ext.of_below ((Ext.below h).trans k)
theorem quotB_eq (s : ByteArray) : strL (quotL s s.size) ++ (⟨#[34]⟩ : ByteArray) = quotB s := by rw [app1]; rfl
theorem strL_size (l : List UInt8) : (strL l).size = l.length := by simp [strL,ByteArray.size]
/-! no text is empty -/
theorem bytes_nil {s : ByteArray} (h : s.size = 0) : s = ⟨#[]⟩ := by
  obtain ⟨d⟩ := s
  congr 1
  exact Array.eq_empty_of_size_eq_zero h
theorem digB_ne (u : Nat) : (digB u).size ≠ 0 := by
  unfold digB
  show (decDigits u).toArray.size ≠ 0
  rw [decDigits]
  split <;> simp
theorem itoaB_ne (n : Int) : (itoaB n).size ≠ 0 := by
  unfold itoaB itoa
  have := digB_ne n.toNat
  split
  · show (_ :: _ : List UInt8).toArray.size ≠ 0; simp
  · exact this
theorem showB_ne {x : Vl} : okV x = true → (showB x).size ≠ 0 := by
  intro h
  unfold showB
  split
  · exact itoaB_ne _
  · split
    · rename_i h2
      simp only [nameB,Bool.and_eq_true,wordB,decide_eq_true_eq] at h2
      omega
    · have : (quotB x.s).size = (quotL x.s x.s.size).length + 1 := by
        show (quotL x.s x.s.size ++ [34]).toArray.size = _
        rw [List.size_toArray,List.length_append]; rfl
      omega
theorem termW_ne {t : Tm} (h : tmB t = true) : (termW t).size ≠ 0 := by
  unfold termW
  unfold tmB at h
  split
  · rename_i h0
    rw [if_pos h0] at h
    rw [if_pos h]
    exact showB_ne h
  · rename_i h0
    exact fun h1 => h0 (bytes_nil h1)
theorem exW_ne {d : Nat} {x : Ex} (h : exB d x = true) : (exW d x).size ≠ 0 := by
  obtain ⟨hd,h1,h2⟩ := exB_parts h
  rw [exW_pos hd]
  split
  · rename_i h0; exact termW_ne (h1 h0).2.2
  · split
    · simp only [ByteArray.size_append,z1]; omega
    · split
      · simp only [ByteArray.size_append,z1]; omega
      · simp only [ByteArray.size_append,z1]; omega
theorem fast_neg {x : Ex} (h : x.op = 1) : fast x = 3 := by unfold fast; simp [h]
end Go.Wk

set_option linter.unusedVariables false
set_option linter.unusedSimpArgs false
set_option maxRecDepth 10000
namespace Go.Proofs.Dw
open Go Go.Wk Go.Proofs Go.Lib
attribute [local irreducible] Go.wpList Go.wpStill Go.wpQuiet Go.Code.wp Go.Calls
theorem F_e69 : enterable Tryd.prog 69 = true := by kernel_rfl
theorem F_f85_0 : fieldAt Tryd.prog 85 0 0 = true := by kernel_rfl
theorem F_l122 : sliceT Tryd.prog 122 1 = true := by kernel_rfl
theorem p_put (T B g b : Nat) (s0 : ByteArray) (ss : List ByteArray) (w : World) (hb : BW 5 T B w g s0) (hB : B ≤ w.heap.size) (hT : 9 ≠ T) (hlies : liesAt Tryd.prog Tryd.prog.depth T (2 / Tryd.prog.cellsOf T) 0 83 1 = true) (hl : w.heap[b]? = some (.cells (ss.map Value.string).toArray 9 (0,0))) (hs : s0.size + (catL ss).size ≤ 140737488355328) (hn : ss.length ≤ 1000) :
    Rt Tryd.prog 35 #[.pointer (some ⟨g,0,none⟩),.slice (some ⟨b,0,none⟩) ss.length ss.length] w fun v w' => v = .tuple #[] ∧ Wr 5 T B g (s0 ++ catL ss) w w' := by
  refine enter Tryd.func35 rfl (l := [.pointer (some ⟨g,0,none⟩),.slice (some ⟨b,0,none⟩) ss.length ss.length]) rfl Tryd.ntmps35 (Nat.le_of_ble_eq_true rfl) ?_
  have hne_ : b ≠ g := ne_blk hl (BW.blk hb).choose_spec hT
  refine c_seq (c_reg (s_move (v := .slice (some ⟨b,0,none⟩) ss.length ss.length) (ej rfl rfl) (w0 rfl) (s_lenL F_l122 (ej rfl rfl) (w0 rfl) (s_move (v := .int .i64 0) ev_c (w0 rfl) (c_done (n_then (c_block (c_loop (α := Nat) (fun (i : Nat) env_ w_ => Wr 5 T B g (s0 ++ catL (ss.take i)) w w_ ∧ i ≤ ss.length ∧ env_ 0 = .pointer (some ⟨g,0,none⟩) ∧ env_ 6 = .slice (some ⟨b,0,none⟩) ss.length ss.length ∧ env_ 7 = .int .i64 (ss.length : Int) ∧ env_ 8 = .int .i64 ((i : Nat) : Int)) (fun i => ss.length - i) (0) ⟨(Wr.cast (Wr.refl hb) (by simp [catL,app_nil])),Nat.zero_le _,rfl,rfl,rfl,rfl⟩ ?_))))))))
  rintro i env3 w1 ⟨x2,i4,e5,e6,e7,e8⟩
  have hlt_ : i < ss.length → (catL (ss.take i)).size + (ss.getD i ⟨#[]⟩).size ≤ (catL ss).size := fun h_ => catL_le ss i h_
  refine c_seq (c_reg (s_cmp (r := decide (((i : Nat) : Int) < (ss.length : Int))) (ej rfl e8) (ej rfl e7) rfl (w0 rfl) (c_done (n_then (c_seq ?_)))))
  by_cases h9 : ((i : Nat) : Int) < (ss.length : Int)
  · refine c_cond1 (vb (ej rfl rfl) (decide_eq_true h9)) (c_skip (n_then (c_seq (c_block (c_seq (c_reg (s_indexR (j := i) F_l122 (ej rfl e6) rfl (ej rfl e8) rfl (by omega) (w0 rfl) (s_load (v := .string (ss.getD i ⟨#[]⟩)) F_o9 (ej rfl rfl) (strs_cell (Wr.blk x2 hl (Or.inl (by decide)) hne_) (by omega)) (w0 rfl) (s_assign (v := .string (ss.getD i ⟨#[]⟩)) (ej rfl rfl) (w0 rfl) (c_done (n_then ?_)))))))))))
    refine c_reg (s_move (v := .pointer (some ⟨g,0,none⟩)) (ej rfl e5) (w0 rfl) (s_nilCheck (ej rfl rfl) (w0 rfl) (s_field (off := 0) (o' := 0) F_f85_0 (ej rfl rfl) rfl (w0 rfl) (s_move (v := .string (ss.getD i ⟨#[]⟩)) (ej rfl rfl) (w0 rfl) (s_call F_e69 (w0 rfl) ev_f (m2 (ej rfl rfl) (ej rfl rfl)) (args := #[.pointer (some ⟨g,0,none⟩),.string (ss.getD i ⟨#[]⟩)]) rfl (b_WriteString T _ g (s0 ++ catL (ss.take i)) (ss.getD i ⟨#[]⟩) _ (Wr.bw x2) (Nat.le_trans hB (Wr.size x2)) hlies (by simp only [ByteArray.size_append] at *; have := hlt_ (by omega); omega)) ?_)))))
    rintro _ w10 ⟨rfl,wr11⟩
    refine c_done (n_block (n_then (c_reg (s_add (r := ((i + 1 : Nat) : Int)) (ej rfl e8) ev_c (by omega) (by omega) (w0 rfl) (s_move (v := .int .i64 ((i + 1 : Nat) : Int)) (ej rfl rfl) (w0 rfl) (c_done ?_))))))
    exact ⟨(i + 1),_,rfl,⟨(Wr.cast (Wr.then_ x2 wr11) (by rw [catL_stepD ss i (by omega),app_assoc])),by omega,e5,e6,e7,rfl⟩,(show ss.length - (i + 1) < ss.length - i by omega)⟩
  refine c_cond0 (vb (ej rfl rfl) (decide_eq_false h9)) (c_exit (e_then (e_then (e_hit (ret0 rfl ?_)))))
  exact ⟨_,rfl,rfl,Wr.cast x2 (by rw [List.take_of_length_le (by omega)])⟩
end Go.Proofs.Dw
