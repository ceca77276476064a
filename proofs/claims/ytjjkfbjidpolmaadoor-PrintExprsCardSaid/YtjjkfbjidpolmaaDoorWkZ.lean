/- YtjjkfbjidpolmaaDoorWkZ: part of the proof of this seat, by an AI agent: the builder of a text. No condition of its own but those that its theorems state. -/
import Derived.Test.YtjjkfbjidpolmaaDoorWkY
import Derived.Lib.Builder
import Derived.Laws.Externs
import Derived.Laws.Pointers
set_option linter.unusedVariables false
set_option linter.unusedSimpArgs false
namespace Go.Wk
open Go Go.RowKit Go.Lib
/-! ### a strings.Builder at the head of a block of type T (e: the bytes' type) -/
def BW (e T B : Nat) (w : World) (g : Nat) (s : ByteArray) : Prop :=
  e ≠ T ∧ B ≤ g ∧ ∃ a A c, (a = .pointer none ∨ a = .pointer (some ⟨g, 0, none⟩)) ∧ w.heap[g]? = some (.cells #[a, .slice A s.size c] T (0, 0)) ∧ w.ownsRow B e 1 (.slice A s.size c) s.size (strCells s)
/-- Only block g and the unfrozen rows of bytes may turn. -/
def Bld (e g : Nat) (w w' : World) : Prop := Keep (fun k => k = g ∨ ∃ cs, w.heap[k]? = some (.cells cs e (0, 0))) w w'
structure Wr (e T B g : Nat) (s : ByteArray) (w w' : World) : Prop where
  bw : BW e T B w' g s
  below : Below B w w'
  bld : Bld e g w w'
section
variable {e T B g : Nat} {w w' w2 w0 : World} {s : ByteArray}
theorem BW.lt (h : BW e T B w g s) : g < w.heap.size := by
  obtain ⟨_, _, _, _, _, _, h, _⟩ := h; exact lt_of_blk h
theorem BW.ext (h : BW e T B w g s) (k : Ext w w') : BW e T B w' g s := by
  obtain ⟨h1, h2, a, A, c, h3, h4, h5⟩ := h
  exact ⟨h1, h2, a, A, c, h3, k.blk h4, own_ext k h5⟩
theorem BW.cast {s2 : ByteArray} (h : BW e T B w g s) (he : s = s2) : BW e T B w g s2 := he ▸ h
theorem BW.new {cs : Array Value} (nb : NewB w g (.cells cs T (0, 0)) w') (hc : cs = #[.pointer none, .slice none 0 0]) (hT : e ≠ T) (hB : B ≤ w.heap.size) : BW e T B w' g ⟨#[]⟩ := by
  subst hc
  refine ⟨hT, by rw [nb.eq]; exact hB, _, none, 0, .inl rfl, nb.blk, own_nil B e 1⟩
theorem Wr.cast {s2 : ByteArray} (h : Wr e T B g s w w') (he : s = s2) : Wr e T B g s2 w w' := he ▸ h
theorem Bld.refl : Bld e g w w := Keep.refl _ _
theorem Bld.trans (h : Bld e g w w') (k : Bld e g w' w2) : Bld e g w w2 := by
  refine Keep.then_ h k fun i hi h2 => ?_
  by_cases hs : i = g ∨ ∃ cs, w.heap[i]? = some (.cells cs e (0, 0))
  · exact hs
  · rcases h2 with h2 | ⟨cs, h2⟩
    · exact .inl h2
    · rw [h.block i hi hs] at h2
      exact .inr ⟨cs, h2⟩
theorem Bld.of_ext (k : Ext w w') : Bld e g w w' := Keep.mono k (fun _ _ h => h.elim)
theorem Wr.refl (h : BW e T B w g s) : Wr e T B g s w w := ⟨h, Below.refl _ _, Bld.refl⟩
theorem Wr.then_ {s2 : ByteArray} (h : Wr e T B g s w w') (k : Wr e T B g s2 w' w2) : Wr e T B g s2 w w2 := ⟨k.bw, h.below.trans k.below, h.bld.trans k.bld⟩
theorem below_ext {B : Nat} (k : Ext w w') (hB : B ≤ w.heap.size) : Below B w w' := ⟨k.os, k.tape, k.output, k.size, fun i hi => k.block i (by omega) (fun h => h)⟩
theorem Wr.ext (h : Wr e T B g s w w') (k : Ext w' w2) (hB : B ≤ w.heap.size) : Wr e T B g s w w2 := ⟨h.bw.ext k, h.below.trans (below_ext k (Nat.le_trans hB h.below.size)), h.bld.trans (Bld.of_ext k)⟩
theorem Wr.of_ext (h : BW e T B w g s) (k : Ext w w') (hB : B ≤ w.heap.size) : Wr e T B g s w w' := (Wr.refl h).ext k hB
theorem Wr.size (h : Wr e T B g s w w') : w.heap.size ≤ w'.heap.size := h.bld.size
theorem Wr.after {B : Nat} {s : ByteArray} (h : Wr e T B g s w w') (k : Ext w0 w) (hB : B = w0.heap.size) : Ext w0 w' := by
  subst hB
  exact Ext.of_below ((Ext.below k).trans h.below)
theorem Bld.blk {i t : Nat} {cs : Array Value} {fz : Nat × Nat} (h : Bld e g w w') (hb : w.heap[i]? = some (.cells cs t fz)) (ht : t ≠ e ∨ fz ≠ (0, 0)) (hg : i ≠ g) : w'.heap[i]? = some (.cells cs t fz) := by
  refine Keep.blk h hb ?_
  rintro (h1 | ⟨cs2, h1⟩)
  · exact hg h1
  · rw [hb] at h1
    injection h1 with h1
    injection h1 with _ h2 h3
    rcases ht with ht | ht
    · exact ht h2
    · exact ht h3
theorem Wr.blk {i t : Nat} {cs : Array Value} {fz : Nat × Nat} (h : Wr e T B g s w w') (hb : w.heap[i]? = some (.cells cs t fz)) (ht : t ≠ e ∨ fz ≠ (0, 0)) (hg : i ≠ g) : w'.heap[i]? = some (.cells cs t fz) := Bld.blk h.bld hb ht hg
/-- What the builder's own writes turn: its block, its own row. -/
theorem Bld.own {A : Option Addr} {n c : Nat} {xs : List Value} (h : Keep (fun k => k = g ∨ some k = (Value.slice A n c).ownBlock) w w') (ho : w.ownsRow B e 1 (.slice A n c) n xs) : Bld e g w w' := by
  refine Keep.mono h fun i hi h => ?_
  rcases h with h | h
  · exact .inl h
  · rcases ho.2 with ⟨hv, _⟩ | ⟨g', cap, cur, hv, _, hh, _⟩
    · injection hv with hv; subst hv; simp [Value.ownBlock] at h
    · rw [hv] at h
      have : i = g' := by simpa [Value.ownBlock] using h
      subst this
      exact .inr ⟨cur, hh⟩
theorem below_own {A : Option Addr} {n c : Nat} {xs : List Value} (h : Keep (fun k => k = g ∨ some k = (Value.slice A n c).ownBlock) w w') (ho : w.ownsRow B e 1 (.slice A n c) n xs) (hg : B ≤ g) (hB : B ≤ w.heap.size) : Below B w w' := by
  refine ⟨h.os, h.tape, h.output, h.size, fun i hi => h.block i (by omega) ?_⟩
  rintro (h1 | h1)
  · omega
  · have := own_ge ho i h1; omega
end
theorem strCells_append (a b : ByteArray) : strCells (a ++ b) = strCells a ++ strCells b := by simp [strCells]
/-- Texts, one behind the other. -/
def catL : List ByteArray → ByteArray
  | [] => ⟨#[]⟩
  | a :: l => a ++ catL l
theorem app_nil (a : ByteArray) : a ++ (⟨#[]⟩ : ByteArray) = a := by apply Go.WideShapes.bytes_inj; simp
theorem nil_app (a : ByteArray) : (⟨#[]⟩ : ByteArray) ++ a = a := by apply Go.WideShapes.bytes_inj; simp
theorem app_assoc (a b c : ByteArray) : a ++ b ++ c = a ++ (b ++ c) := by apply Go.WideShapes.bytes_inj; simp
theorem catL_step (l : List ByteArray) (i : Nat) (hi : i < l.length) : catL (l.take (i + 1)) = catL (l.take i) ++ l[i] := by
  induction l generalizing i with
  | nil => simp at hi
  | cons a l ih =>
    cases i with
    | zero => simp [catL, app_nil, nil_app]
    | succ i =>
      simp only [List.take_succ_cons, catL, List.getElem_cons_succ]
      rw [ih i (by simpa using hi), app_assoc]
/-! ### the pointers of copyCheck -/
section
variable {P : Program} {ops : Array Oper} {Q : Exit → Act → World → Prop} {rest : List Oper} {n d t : Nat} {env : Nat → Value} {ds : List Deferred} {w w' : World} {v u : Value}
  {ty T : TypeId} {pos : String} {af : Array Edge} {gd : Option (Nat × Bool)} {x y z : Operand}
theorem s_eqNil {p : Option Addr} {T2 : TypeId} (h : P.underlying T = some (.pointer (P.pointee T))) (hx : (mkA n env ds).eval x = .pointer p) (hy : (mkA n env ds).eval y = .pointer none) (hw : Region.wanted ⟨some d, .binOp .eql T x y T2, ty, pos, af, gd⟩ (yielded ops (mkA n env ds).tmps) = true)
    (k : wpList P ops Q rest (mkA n (upd env d (.bool p.isNone)) ds) w) : wpList P ops Q (⟨some d, .binOp .eql T x y T2, ty, pos, af, gd⟩ :: rest) (mkA n env ds) w := by
  refine s_val hw (w' := w) (v := .bool p.isNone) ?_ k
  cases p <;> simp [execOp, hx, hy, eqGuard, run_eql_pointer_nil, h]
theorem s_neSame {a : Addr} {te : TypeId} {T2 : TypeId} (hp : P.underlying T = some (.pointer te)) (hte : (P.info? te).isSome = true) (hx : (mkA n env ds).eval x = .pointer (some a)) (hy : (mkA n env ds).eval y = .pointer (some a)) (hw : Region.wanted ⟨some d, .binOp .neq T x y T2, ty, pos, af, gd⟩ (yielded ops (mkA n env ds).tmps) = true)
    (k : wpList P ops Q rest (mkA n (upd env d (.bool false)) ds) w) : wpList P ops Q (⟨some d, .binOp .neq T x y T2, ty, pos, af, gd⟩ :: rest) (mkA n env ds) w := by
  refine s_val hw (w' := w) (v := .bool false) ?_ k
  obtain ⟨j, hte⟩ := Option.isSome_iff_exists.1 hte
  have := Go.Lib.run_neq_ptr_same (P := P) w (j := j) a hp hte
  simp [execOp, hx, hy, eqGuard, this]
theorem s_ptrConv {S2 : TypeId} {p : Value} (h : (convert T S2 p).run P w = .ok p w) (hx : (mkA n env ds).eval x = p) (hw : Region.wanted ⟨some d, .convert T S2 x, ty, pos, af, gd⟩ (yielded ops (mkA n env ds).tmps) = true)
    (k : wpList P ops Q rest (mkA n (upd env d p) ds) w) : wpList P ops Q (⟨some d, .convert T S2 x, ty, pos, af, gd⟩ :: rest) (mkA n env ds) w :=
  s_val hw (w' := w) (v := p) (by
    simp only [execOp, hx]
    rw [Sem.run_bind, h]
    rfl) k
theorem s_extern {F : FuncId} {fn : Func} {ex : Array Value → Sem Value} {p : Value} {ts : Array TypeId} (hf : P.funcs[F]? = some fn) (hname : (fn.name == "runtime.NumGoroutine") = false) (hb : fn.body.isNone = true) (hn : Extern.findNext fn = none) (he : Extern.find fn = some ex)
    (hx : (mkA n env ds).eval x = .func (.func F) #[] #[]) (hy : (mkA n env ds).eval y = p) (hr : (ex #[p]).run P w = .ok v w) (hw : Region.wanted ⟨some d, .call ⟨.value x, #[y], ts⟩, ty, pos, af, gd⟩ (yielded ops (mkA n env ds).tmps) = true)
    (k : wpList P ops Q rest (mkA n (upd env d v) ds) w) : wpList P ops Q (⟨some d, .call ⟨.value x, #[y], ts⟩, ty, pos, af, gd⟩ :: rest) (mkA n env ds) w := by
  refine s_val hw (w' := w) (v := v) ?_ k
  have h2 : (#[] : Array Value) ++ #[p] ++ #[] = #[p] := rfl
  simp only [execOp, resolve, hx, m1 hy, Deferred.ofValue, Sem.run_bind, Sem.run_pure, Result.andThen_ok, invoke]
  rw [h2, run_callFunc_extern hf hname hb hn he, hr]
  rfl
end
theorem conv_toU {P : Program} {src dst t T : TypeId} {m g : Nat} {w : World} {a b : Value} {fz : Nat × Nat} (hs : P.underlying src = some (.pointer t)) (hd : P.underlying dst = some .unsafePointer) (ht : (P.info? t).map (·.size) = some (m + 1)) (hb : w.heap[g]? = some (.cells #[a, b] T fz)) : (convert src dst (.pointer (some ⟨g, 0, none⟩))).run P w = .ok (.pointer (some ⟨g, 0, none⟩)) w := by
  obtain ⟨j, hj, hm⟩ := Option.map_eq_some_iff.1 ht
  exact Go.Lib.run_to_unsafe w ⟨g, 0, none⟩ hs hd hj (by omega) (e := T) (cells := 2) (by simp [World.shape?, hb]) (Nat.zero_lt_succ 1)
theorem conv_ofU {P : Program} {src dst u T : TypeId} {g : Nat} {w : World} {a b : Value} {fz : Nat × Nat} (hs : P.underlying src = some .unsafePointer) (hd : P.underlying dst = some (.pointer u)) (hu : (P.info? u).isSome = true) (hb : w.heap[g]? = some (.cells #[a, b] T fz)) (hl : liesAt P P.depth T (2 / P.cellsOf T) 0 u 1 = true) : (convert src dst (.pointer (some ⟨g, 0, none⟩))).run P w = .ok (.pointer (some ⟨g, 0, none⟩)) w := by
  obtain ⟨j, hj⟩ := Option.isSome_iff_exists.1 hu
  exact Go.Lib.run_from_unsafe w ⟨g, 0, none⟩ hs hd hj (e := T) (cells := 2) (by simp [World.shape?, hb]) hl
theorem own_wrote {e T B g n : Nat} {w w' : World} {v : Value} {xs : List Value} {cs : Array Value} {fz : Nat × Nat} {o : Obj} (ho : w.ownsRow B e 1 v n xs) (hb : w.heap[g]? = some (.cells cs T fz)) (hne : e ≠ T) (wr : Wrote w g o w') : w'.ownsRow B e 1 v n xs :=
  own_move ho fun k hk => wr.keep.block k (own_lt ho k hk) (by rintro rfl; exact own_ne ho hb hne hk)
/-- Behind a write: the builder, one more piece in it. -/
theorem BW.finish {e T B g n' c c' : Nat} {w w1 w1' w2 w3 : World} {s0 s : ByteArray} {A A' : Option Addr} {cs : Array Value} (hne : e ≠ T) (hBg : B ≤ g) (hB : B ≤ w.heap.size) (hb : w.heap[g]? = some (.cells cs T (0, 0))) (ho : w.ownsRow B e 1 (.slice A s0.size c) s0.size (strCells s0))
    (wr1 : Wrote w g (.cells #[.pointer (some ⟨g, 0, none⟩), .slice A s0.size c] T (0, 0)) w1) (x1 : Ext w1 w1') (k : Keep (fun i => some i = (Value.slice A s0.size c).ownBlock) w1' w2) (ow : w2.ownsRow B e 1 (.slice A' n' c') n' (strCells s0 ++ strCells s)) (hn : n' = s0.size + s.size)
    (wr2 : Wrote w2 g (.cells #[.pointer (some ⟨g, 0, none⟩), .slice A' n' c'] T (0, 0)) w3) : Wr e T B g (s0 ++ s) w w3 := by
  subst hn
  have hg2 : w2.heap[g]? = some (.cells #[.pointer (some ⟨g, 0, none⟩), .slice A s0.size c] T (0, 0)) := k.blk (x1.blk wr1.blk) (own_ne (own_ext x1 (own_wrote ho hb hne wr1)) (x1.blk wr1.blk) hne)
  have ow3 := own_wrote ow hg2 hne wr2
  have h1 : Keep (fun i => i = g ∨ some i = (Value.slice A s0.size c).ownBlock) w w3 :=
    (((Keep.mono wr1.keep (fun _ _ h => Or.inl h)).ext x1).then_ k (fun _ _ h => .inr h)).then_ wr2.keep (fun _ _ h => .inl h)
  refine ⟨⟨hne, hBg, _, A', c', .inr rfl, ?_, ?_⟩, below_own h1 ho hBg hB, Bld.own h1 ho⟩
  · rw [ByteArray.size_append]; exact wr2.blk
  · rw [ByteArray.size_append, strCells_append]; exact ow3
section
variable {P : Program} {ops : Array Oper} {Q : Exit → Act → World → Prop} {rest : List Oper} {n d t : Nat} {env : Nat → Value} {ds : List Deferred} {w w' : World} {v u : Value}
  {ty T : TypeId} {pos : String} {af : Array Edge} {gd : Option (Nat × Bool)} {x y z : Operand}
theorem r_sliceData {a : Addr} {ln c : Nat} (hx : (mkA n env ds).eval x = .slice (some a) ln c) (hc : c ≠ 0) : (execOp (mkA n env ds).eval ⟨some d, .call ⟨.builtin .unsafeSliceData, #[x], #[T]⟩, ty, pos, af, gd⟩).run P w = .ok (.value (.pointer (some a))) w := by
  simp only [execOp, resolve, Sem.run_bind, Sem.run_pure, Result.andThen_ok, invoke, builtin, m1 hx]
  rw [run_unsafeSliceData_row w #[T] ty a ln c hc]
  rfl
theorem s_unsafeString {e B c : Nat} {b : Nat} {pt it : TypeId} {s : ByteArray} {A : Option Addr} (hp : P.underlying pt = some (.pointer e)) (hc : P.cellsOf e = 1) (ho : w.ownsRow B e 1 (.slice A s.size c) s.size (strCells s)) (h0 : s.size ≠ 0) (hA : A = some ⟨b, 0, none⟩)
    (hx : (mkA n env ds).eval x = .pointer (some ⟨b, 0, none⟩)) (hy : (mkA n env ds).eval y = .int .i64 s.size) (hw : Region.wanted ⟨some d, .call ⟨.builtin .unsafeString, #[x, y], #[pt, it]⟩, ty, pos, af, gd⟩ (yielded ops (mkA n env ds).tmps) = true)
    (k : ∀ w', Below B w w' → wpList P ops Q rest (mkA n (upd env d (.string s)) ds) w') : wpList P ops Q (⟨some d, .call ⟨.builtin .unsafeString, #[x, y], #[pt, it]⟩, ty, pos, af, gd⟩ :: rest) (mkA n env ds) w := by
  have hB : B ≤ b := own_ge ho b (by rw [hA]; rfl)
  obtain ⟨g, cap, cur, hv, hg, hh, h1, h2, h3, h4⟩ : ∃ g cap cur, Value.slice A s.size c = .slice (some ⟨g, 0, none⟩) s.size cap ∧ B ≤ g ∧ w.heap[g]? = some (.cells cur e (0, 0)) ∧ s.size ≤ cap ∧ cap ≤ maxLen ∧ cur.size = cap * 1 ∧ cur.toList.take (s.size * 1) = strCells s := by
    rcases ho.2 with ⟨_, hn⟩ | h
    · omega
    · exact h
  injection hv with hv _ hcap
  rw [hA] at hv
  have hbg : b = g := by injection hv with hv; injection hv
  subst hbg
  have hl : s.data.toList.length = s.size := Array.length_toList
  have hrun := run_unsafeString_row (P := P) w pt it ty e hp hc b cur.size (by simp [World.shape?, hh]) s.data.toList (fun h => h0 (by rw [← hl, h]; rfl)) (by omega) (by simp only [maxLen] at h2; omega) (fun j xx hj => by
    rw [add0, Nat.zero_add]
    refine cell_of_blk hh ?_
    have hj' : j < s.data.toList.length := (List.getElem?_eq_some_iff.1 hj).1
    have hs : (strCells s)[j]? = some (.int .u8 xx.toNat) := by simp only [strCells, List.getElem?_map, hj, Option.map_some]
    rw [← h4, List.getElem?_take, if_pos (by omega)] at hs
    simpa using hs)
  refine s_val hw (w' := w.freeze ⟨b, 0, none⟩ s.size) (v := .string s) ?_ (k _ (below_freeze (Below.refl B w) (by exact hB) s.size))
  simp only [execOp, resolve, Sem.run_bind, Sem.run_pure, Result.andThen_ok, invoke, builtin, m2 hx hy]
  rw [hl] at hrun
  rw [hrun]
  rfl
end
theorem own_cap {w : World} {base e m n c : Nat} {A : Option Addr} {xs : List Value} (h : w.ownsRow base e m (.slice A n c) n xs) (h0 : n ≠ 0) : c ≠ 0 := by
  rcases h.2 with ⟨_, h1⟩ | ⟨g, cap, cur, hv, hg, hh, h1, h2, h3, h4⟩
  · exact absurd h1 h0
  · injection hv with _ _ hc
    omega
end Go.Wk
