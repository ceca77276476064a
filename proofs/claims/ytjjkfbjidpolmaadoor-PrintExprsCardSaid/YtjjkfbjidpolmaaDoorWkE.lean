/- YtjjkfbjidpolmaaDoorWkE: part of the proof of this seat, by an AI agent: rows of the own call. No condition of its own but those that its theorems state. -/
import Derived.Test.YtjjkfbjidpolmaaDoorWkP
import Derived.Lib.UnsafeStr
import Derived.Lib.AppendStr
import Derived.Lib.LazyBuf
import Derived.Laws.BytesArg
import Derived.Lib.ItoaNum
import Derived.Lib.LaidTab
import Derived.Sort.Grow
set_option linter.unusedVariables false
set_option linter.unusedSimpArgs false
namespace Go.Wk
open Go Go.RowKit Go.Lib Go.Sort
section
variable {P : Program} {ops : Array Oper} {Q : Exit → Act → World → Prop} {rest : List Oper} {n d t : Nat} {env : Nat → Value} {ds : List Deferred} {w w' : World} {v u : Value}
  {ty T : TypeId} {pos : String} {af : Array Edge} {gd : Option (Nat × Bool)} {x y z : Operand}
/-! ### rows of the call's own -/
theorem keep_own {v : Value} (hg : w.grownBy w' v.ownBlock) : Keep (fun k => some k = v.ownBlock) w w' := ⟨hg.os, hg.tape, hg.output, hg.size, fun k hk hn => hg.block k hk hn⟩
theorem own_ge {base e m n : Nat} {v : Value} {xs : List Value} (h : w.ownsRow base e m v n xs) (k : Nat) (hk : some k = v.ownBlock) : base ≤ k := by
  rcases h.2 with ⟨rfl, _⟩ | ⟨g, cap, cur, rfl, hb, _⟩
  · simp [Value.ownBlock] at hk
  · have : k = g := by simpa [Value.ownBlock] using hk
    omega
theorem own_ne {base e m n g : Nat} {v : Value} {xs : List Value} {cs : Array Value} {t : TypeId} {fz : Nat × Nat} (h : w.ownsRow base e m v n xs) (hb : w.heap[g]? = some (.cells cs t fz)) (ht : e ≠ t) : ¬ some g = v.ownBlock := by
  intro hk
  rcases h.2 with ⟨rfl, _⟩ | ⟨g', cap, cur, rfl, hb', hh, _⟩
  · simp [Value.ownBlock] at hk
  · have : g = g' := by simpa [Value.ownBlock] using hk
    subst this
    rw [hh] at hb
    injection hb with hb
    injection hb with _ hb
    exact ht hb
theorem own_new {base e m len g : Nat} {cs : Array Value} (nb : NewB w g (.cells cs e (0, 0)) w') (hb : base ≤ w.heap.size) (hm : cs.size = len * m) (hl : len ≤ 9223372036854775807) : w'.ownsRow base e m (.slice (some ⟨g, 0, none⟩) len len) len cs.toList :=
  ⟨by simpa using hm, .inr ⟨g, len, cs, rfl, by rw [nb.eq]; exact hb, nb.blk, Nat.le_refl _, by simp only [maxLen]; omega, hm, by rw [← hm, ← Array.length_toList, List.take_length]⟩⟩
theorem own_nil (base e m : Nat) : w.ownsRow base e m (.slice none 0 0) 0 [] := ⟨by simp, .inl ⟨rfl, rfl⟩⟩
theorem own_slice {base e m n : Nat} {v : Value} {xs : List Value} (h : w.ownsRow base e m v n xs) : ∃ A c, v = .slice A n c := by
  rcases h.2 with ⟨rfl, rfl⟩ | ⟨g, cap, cur, rfl, _⟩
  · exact ⟨none, 0, rfl⟩
  · exact ⟨_, cap, rfl⟩
theorem own_move {base e m n : Nat} {v : Value} {xs : List Value} (h : w.ownsRow base e m v n xs) (hm : ∀ k, some k = v.ownBlock → w'.heap[k]? = w.heap[k]?) : w'.ownsRow base e m v n xs := by
  obtain ⟨h1, h2⟩ := h
  refine ⟨h1, ?_⟩
  rcases h2 with h2 | ⟨g, cap, cur, rfl, hg, hh, r⟩
  · exact .inl h2
  · exact .inr ⟨g, cap, cur, rfl, hg, (hm g (by simp [Value.ownBlock])).trans hh, r⟩
theorem own_lt {base e m n : Nat} {v : Value} {xs : List Value} (h : w.ownsRow base e m v n xs) (k : Nat) (hk : some k = v.ownBlock) : k < w.heap.size := by
  rcases h.2 with ⟨rfl, _⟩ | ⟨g, cap, cur, rfl, hb, hh, _⟩
  · simp [Value.ownBlock] at hk
  · have : k = g := by simpa [Value.ownBlock] using hk
    subst this
    exact lt_of_blk hh
theorem own_ext {base e m n : Nat} {v : Value} {xs : List Value} (k : Ext w w') (h : w.ownsRow base e m v n xs) : w'.ownsRow base e m v n xs := own_move h fun i hi => k.block i (own_lt h i hi) (fun h => h)
theorem own_cells {base e m n c : Nat} {A : Option Addr} {xs : List Value} (h : w.ownsRow base e m (.slice A n c) n xs) (h0 : 0 < n) : ∃ b, A = some ⟨b, 0, none⟩ ∧ ∀ (i : Nat) (u : Value), xs[i]? = some u → w.cell? ⟨b, i, none⟩ = some u := by
  rcases h.2 with ⟨_, h1⟩ | ⟨g, cap, cur, hv, hg, hh, h1, h2, h3, h4⟩
  · omega
  · injection hv with hA _ _
    refine ⟨g, hA, fun i u hu => cell_of_blk hh ?_⟩
    have hi : i < xs.length := (List.getElem?_eq_some_iff.1 hu).1
    rw [← h4, List.getElem?_take, if_pos (by have := h.1; omega)] at hu
    simpa using hu
/-- append(s, x..) onto a row of the call's own; x: a slice whose cells are known. -/
theorem s_append {base e m bytes k kc n0 c b o : Nat} {zv : Value} {A : Option Addr} {xs news : List Value} (ht : P.underlying T = some (.slice e)) (hinfo : (P.info? e).map (fun i => (i.zero, i.size, i.bytes)) = some (some zv, m, bytes)) (hzs : zv.cells.size = m) (hm : 0 < m)
    (hs : (mkA n env ds).eval x = .slice A n0 c) (hown : w.ownsRow base e m (.slice A n0 c) n0 xs) (hx : (mkA n env ds).eval y = .slice (some ⟨b, o, none⟩) k kc) (hl : news.length = k * m) (hnews : ∀ (i : Nat) u, news[i]? = some u → w.cell? ⟨b, o + i, none⟩ = some u) (h1 : news.all (·.oneCell') = true)
    (h63 : n0 + k ≤ 9223372036854775807) (hbytes : (n0 + k) * bytes ≤ 140737488355328) (hbase : base ≤ w.heap.size) (hw : Region.wanted ⟨some d, .call ⟨.builtin .append, #[x, y], #[T, T]⟩, ty, pos, af, none⟩ (yielded ops (mkA n env ds).tmps) = true)
    (kont : ∀ A' c' w', w'.ownsRow base e m (.slice A' (n0 + k) c') (n0 + k) (xs ++ news) → Keep (fun i => some i = (Value.slice A n0 c).ownBlock) w w' → wpList P ops Q rest (mkA n (upd env d (.slice A' (n0 + k) c')) ds) w') :
    wpList P ops Q (⟨some d, .call ⟨.builtin .append, #[x, y], #[T, T]⟩, ty, pos, af, none⟩ :: rest) (mkA n env ds) w := by
  obtain ⟨i, hi, hh⟩ := Option.map_eq_some_iff.1 hinfo
  simp only [Prod.mk.injEq] at hh
  refine wpList_append_own w rfl x y T rfl base e i zv m bytes ht hi hh.1 hh.2.1 hh.2.2 hzs hm _ n0 xs hs hown ⟨b, o, none⟩ k kc news hx hl (fun j u hu => by rw [add0]; exact hnews j u hu) (fun u hu => List.all_eq_true.1 h1 u hu) (by simpa [maxLen] using h63) hbytes hbase ?_
  intro v' w' h2 h3 _
  obtain ⟨A', c', rfl⟩ := own_slice h2
  show wpList P ops Q rest ((mkA n env ds).put (some d) _) w'
  rw [put_some]
  exact kont A' c' w' h2 (keep_own h3)
theorem s_appendS {base e n0 c : Nat} {A : Option Addr} {xs : List Value} {T2 : TypeId} {s : ByteArray} (ht : P.underlying T = some (.slice e)) (hu : P.underlying T2 = some .string) (hinfo : (P.info? e).map (fun i => (i.zero, i.size, i.bytes)) = some (some (.int .u8 0), 1, 1))
    (hs : (mkA n env ds).eval x = .slice A n0 c) (hown : w.ownsRow base e 1 (.slice A n0 c) n0 xs) (hx : (mkA n env ds).eval y = .string s)
    (hbytes : n0 + s.size ≤ 140737488355328) (hbase : base ≤ w.heap.size) (hw : Region.wanted ⟨some d, .call ⟨.builtin .append, #[x, y], #[T, T2]⟩, ty, pos, af, none⟩ (yielded ops (mkA n env ds).tmps) = true)
    (kont : ∀ A' c' w', w'.ownsRow base e 1 (.slice A' (n0 + s.size) c') (n0 + s.size) (xs ++ Lib.strCells s) → Keep (fun i => some i = (Value.slice A n0 c).ownBlock) w w' → wpList P ops Q rest (mkA n (upd env d (.slice A' (n0 + s.size) c')) ds) w') :
    wpList P ops Q (⟨some d, .call ⟨.builtin .append, #[x, y], #[T, T2]⟩, ty, pos, af, none⟩ :: rest) (mkA n env ds) w := by
  obtain ⟨i, hi, hh⟩ := Option.map_eq_some_iff.1 hinfo
  simp only [Prod.mk.injEq] at hh
  obtain ⟨v', w', hr, h2, h3, _⟩ := run_append_own_string (P := P) w base T T2 ty e i ht hu hi hh.1 hh.2.1 hh.2.2 (.slice A n0 c) n0 xs hown s (by simp only [maxLen]; omega) hbytes hbase
  obtain ⟨A', c', rfl⟩ := own_slice h2
  refine s_val hw (w' := w') (v := .slice A' (n0 + s.size) c') ?_ (kont A' c' w' h2 (keep_own h3))
  simp only [execOp, resolve, Sem.run_bind, Sem.run_pure, Result.andThen_ok, invoke, builtin]
  have ha : (#[x, y] : Array Operand).map (mkA n env ds).eval = #[.slice A n0 c, .string s] := by simp [hs, hx]
  rw [ha, hr]
  rfl
/-- A slice's literal: a new block. -/
theorem s_bslice {ps : Array (Nat × Operand)} {vs : List (Nat × Value)} {len e : Nat} {cs : Array Value} (hv : (ps.map fun p => (p.1, (mkA n env ds).eval p.2)) = vs.toArray) (h1 : ∀ w : World, (Instr.buildSlice T len vs.toArray).run P w = .ok (.slice (some ⟨w.heap.size, 0, none⟩) len len) (w.alloc (.cells cs e)))
    (hw : Region.wanted ⟨some d, .buildSlice T len ps, ty, pos, af, gd⟩ (yielded ops (mkA n env ds).tmps) = true)
    (k : ∀ w' g, NewB w g (.cells cs e (0, 0)) w' → wpList P ops Q rest (mkA n (upd env d (.slice (some ⟨g, 0, none⟩) len len)) ds) w') : wpList P ops Q (⟨some d, .buildSlice T len ps, ty, pos, af, gd⟩ :: rest) (mkA n env ds) w :=
  s_val hw (w' := w.alloc (.cells cs e)) (by
    have := h1 w
    simp only [execOp, hv]
    rw [Sem.run_bind, this]
    rfl) (k _ _ (newB w _))
/-- string(b) of a row of bytes. -/
theorem r_bstr {S2 e ln cap : Nat} {A : Option Addr} {l : List UInt8} (hs : P.underlying T = some (.slice e)) (he : P.underlying e = some (.int .u8)) (hd : P.underlying S2 = some .string) (hx : (mkA n env ds).eval x = .slice A ln cap) (hl : l.length = ln) (hA : l = [] ∨ ∃ b o, A = some ⟨b, o, none⟩ ∧ ∀ (i : Nat) u, (Lib.byteCells l)[i]? = some u → w.cell? ⟨b, o + i, none⟩ = some u)
    (hnil : l = [] → A = none ∨ ∃ b o, A = some ⟨b, o, none⟩) : (execOp (mkA n env ds).eval ⟨some d, .convert T S2 x, ty, pos, af, gd⟩).run P w = .ok (.value (.string ⟨l.toArray⟩)) w := by
  have key : (convert T S2 (.slice A ln cap)).run P w = .ok (.string ⟨l.toArray⟩) w := by
    have arg : ∀ b o, A = some ⟨b, o, none⟩ → (∀ (i : Nat) u, (Lib.byteCells l)[i]? = some u → w.cell? ⟨b, o + i, none⟩ = some u) → (convert T S2 (.slice A ln cap)).run P w = .ok (.string ⟨l.toArray⟩) w := by
      rintro b o rfl hc
      have := run_convert_bytes_arg (P := P) w T e hs he b o ln cap (l.map fun b => (b.toNat : Int)) (by simpa using hl) (fun i hi => by
        refine hc i _ ?_
        have hi' : i < l.length := by omega
        simp [Lib.byteCells, List.getD_eq_getElem?_getD, hi']) S2 hd
      rw [this, Lib.Lz.strOfNums_map]
    rcases hA with h0 | ⟨b, o, hA, hc⟩
    · rcases hnil h0 with h | ⟨b, o, h⟩
      · subst h h0
        rw [run_convert_bytes_nil (P := P) w T e hs he ln cap S2 hd]
        rfl
      · exact arg b o h (fun i u hu => by subst h0; simp [Lib.byteCells] at hu)
    · exact arg b o hA hc
  simp only [execOp, hx]
  rw [Sem.run_bind, key]
  rfl
theorem s_bstr {S2 e ln cap : Nat} {A : Option Addr} {l : List UInt8} (hs : P.underlying T = some (.slice e)) (he : P.underlying e = some (.int .u8)) (hd : P.underlying S2 = some .string) (hx : (mkA n env ds).eval x = .slice A ln cap) (hl : l.length = ln) (hA : l = [] ∨ ∃ b o, A = some ⟨b, o, none⟩ ∧ ∀ (i : Nat) u, (Lib.byteCells l)[i]? = some u → w.cell? ⟨b, o + i, none⟩ = some u)
    (hnil : l = [] → A = none ∨ ∃ b o, A = some ⟨b, o, none⟩) (hw : Region.wanted ⟨some d, .convert T S2 x, ty, pos, af, gd⟩ (yielded ops (mkA n env ds).tmps) = true) (k : wpList P ops Q rest (mkA n (upd env d (.string ⟨l.toArray⟩)) ds) w) : wpList P ops Q (⟨some d, .convert T S2 x, ty, pos, af, gd⟩ :: rest) (mkA n env ds) w :=
  s_val hw (r_bstr hs he hd hx hl hA hnil) k
theorem bstr_own {base e c : Nat} {A : Option Addr} {l : List UInt8} (h : w.ownsRow base e 1 (.slice A l.length c) l.length (Lib.byteCells l)) : (l = [] ∨ ∃ b o, A = some ⟨b, o, none⟩ ∧ ∀ (i : Nat) u, (Lib.byteCells l)[i]? = some u → w.cell? ⟨b, o + i, none⟩ = some u) ∧ (l = [] → A = none ∨ ∃ b o, A = some ⟨b, o, none⟩) := by
  refine ⟨?_, ?_⟩
  · by_cases h0 : l = []
    · exact .inl h0
    · obtain ⟨b, hA, hc⟩ := own_cells h (List.length_pos_iff.2 h0)
      exact .inr ⟨b, 0, hA, fun i u hu => by rw [Nat.zero_add]; exact hc i u hu⟩
  · intro h0
    rcases h.2 with ⟨hv, _⟩ | ⟨g, cap, cur, hv, _⟩
    · injection hv with hA
      exact .inl hA
    · injection hv with hA
      exact .inr ⟨g, 0, hA⟩
theorem ext_grow {k : Nat} {os : Array Obj} (h : w' = grow (w.drewN k) os) : Ext w w' := by
  subst h
  have hh : (w.drewN k).heap = w.heap := by
    induction k with
    | zero => rfl
    | succ k ih => exact ih
  refine ⟨?_, ?_, ?_, ?_, ?_⟩
  · induction k with
    | zero => rfl
    | succ k ih => rfl
  · rfl
  · rfl
  · show w.heap.size ≤ ((w.drewN k).heap ++ os).size
    rw [hh]; simp
  · intro i hi _
    show ((w.drewN k).heap ++ os)[i]? = _
    rw [hh, Array.getElem?_append_left hi]
end
end Go.Wk
