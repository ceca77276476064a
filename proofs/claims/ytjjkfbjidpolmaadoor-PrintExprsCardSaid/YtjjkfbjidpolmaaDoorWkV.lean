/- YtjjkfbjidpolmaaDoorWkV: part of the proof of this seat, by an AI agent: copies with marks. No condition of its own but those that its theorems state. -/
import Derived.Test.YtjjkfbjidpolmaaDoorWkU
import Derived.Laws.MakeOwn
import Derived.Laws.Slices
set_option linter.unusedVariables false
set_option linter.unusedSimpArgs false
namespace Go.Wk
open Go Go.RowKit Go.Lib
section
variable {P : Program} {ops : Array Oper} {Q : Exit → Act → World → Prop} {rest : List Oper} {n d t : Nat} {env : Nat → Value} {ds : List Deferred} {w w' : World} {v u : Value}
  {ty T : TypeId} {pos : String} {af : Array Edge} {gd : Option (Nat × Bool)} {x y z : Operand}
/-- A result that lies in memory. -/
theorem retC {fn : Func} {R : Ending → World → Prop} {m b o : Nat} {cs : List Value} {ca : Array Value} (hr : fn.results = #[.cell t T]) (ht : Nat.blt t n = true) (hv : env t = .pointer (some ⟨b, o, none⟩)) (h1 : many P T m = true) (hs : cs.length = m) (hca : ca = cs.toArray)
    (hc : ∀ (i : Nat) u, cs[i]? = some u → w.cell? ⟨b, o + i, none⟩ = some u) (hR : R (.returned (.agg ca)) w) : bodyPost P fn R .ret (mkA n env []) w := by
  subst hca
  have h' : t < n := Nat.lt_of_succ_le (by simpa [Nat.blt] using ht)
  obtain ⟨D, i, hu, hD, hi, hz⟩ := many_spec h1
  have hl : (loadCells ⟨b, o, none⟩ m).run P w = .ok cs.toArray w := by
    have := run_loadCells_list (P := P) (w := w) ⟨b, o, none⟩ cs (fun j v hv => by rw [add0]; exact hc j v hv)
    simpa [hs] using this
  refine ⟨rfl, .agg cs.toArray, ?_, hR⟩
  have hg : (mkA n env []).tmps[t]? = some (.pointer (some ⟨b, o, none⟩)) := by rw [mkA_get h', hv]
  simp only [results, hr]
  simp [hg, asAddr, loadVar, run_isAgg hu, hD, sizeOf, typeInfo, hi, hz, hl]
/-- make([]T, k) -/
theorem s_make {e m bytes k : Nat} {zv : Value} (ht : P.underlying T = some (.slice e)) (hinfo : (P.info? e).map (fun i => (i.zero, i.size, i.bytes)) = some (some zv, m, bytes)) (hx : (mkA n env ds).eval x = .int .i64 (k : Int)) (hy : (mkA n env ds).eval y = .int .i64 (k : Int)) (hb : bytes * k ≤ 281474976710656) (h63 : k ≤ 9223372036854775807)
    (hw : Region.wanted ⟨some d, .makeSlice T x y, ty, pos, af, gd⟩ (yielded ops (mkA n env ds).tmps) = true)
    (kont : ∀ w' g cs, cs.size = k * m → NewB w g (.cells cs e (0, 0)) w' → wpList P ops Q rest (mkA n (upd env d (.slice (some ⟨g, 0, none⟩) k k)) ds) w') : wpList P ops Q (⟨some d, .makeSlice T x y, ty, pos, af, gd⟩ :: rest) (mkA n env ds) w := by
  obtain ⟨i, hi, hh⟩ := Option.map_eq_some_iff.1 hinfo
  simp only [Prod.mk.injEq] at hh
  have hb' : (i.bytes : Int) * (k : Int) ≤ 281474976710656 := by
    have h : ((i.bytes * k : Nat) : Int) ≤ 281474976710656 := by rw [hh.2.2]; omega
    rwa [Int.natCast_mul] at h
  have hr := run_make (P := P) w T e i zv ht hi hh.1 .i64 .i64 k k (by omega) (Int.le_refl _) hb' (by omega)
  simp only [Int.toNat_natCast] at hr
  refine s_val hw (w' := w.alloc (.cells (madeCells zv.cells (k * i.size)) e)) (v := .slice (some ⟨w.heap.size, 0, none⟩) k k) ?_ (kont _ _ _ (by rw [size_madeCells, hh.2.1]) (newB w _))
  simp only [execOp, hx, hy]
  rw [Sem.run_bind, hr]
  rfl
/-- x[:h] -/
theorem r_sliceH {h cap ln : Nat} {b o : Nat} (ht : P.underlying T = some (.slice (P.elem T))) (hsz : (P.info? (P.elem T)).isSome = true) (hx : (mkA n env ds).eval x = .slice (some ⟨b, o, none⟩) ln cap) (hy : (mkA n env ds).eval y = .int .i64 (h : Int)) (hh : h ≤ cap) :
    (execOp (mkA n env ds).eval ⟨some d, .slice T x none (some y) none, ty, pos, af, gd⟩).run P w = .ok (.value (.slice (some ⟨b, o, none⟩) h cap)) w := by
  obtain ⟨i, hi⟩ := Option.isSome_iff_exists.1 hsz
  have := run_slice_h (P := P) (w := w) (T) (some ⟨b, o, none⟩) ln cap ht .i64 (h : Int) (by omega) (by omega)
  simp only [sizeOf, typeInfo, Sem.run_bind, run_program, Result.andThen_ok, hi, Int.toNat_natCast] at this
  simp only [execOp, hx, Option.map_none, Option.map_some, hy]
  rw [Sem.run_bind, run_sliceAt_slice (h := ht), this]
  simp [sliced, add0]
theorem s_sliceH {h cap ln : Nat} {b o : Nat} (ht : P.underlying T = some (.slice (P.elem T))) (hsz : (P.info? (P.elem T)).isSome = true) (hx : (mkA n env ds).eval x = .slice (some ⟨b, o, none⟩) ln cap) (hy : (mkA n env ds).eval y = .int .i64 (h : Int)) (hh : h ≤ cap)
    (hw : Region.wanted ⟨some d, .slice T x none (some y) none, ty, pos, af, gd⟩ (yielded ops (mkA n env ds).tmps) = true) (k : wpList P ops Q rest (mkA n (upd env d (.slice (some ⟨b, o, none⟩) h cap)) ds) w) : wpList P ops Q (⟨some d, .slice T x none (some y) none, ty, pos, af, gd⟩ :: rest) (mkA n env ds) w :=
  s_val hw (r_sliceH ht hsz hx hy hh) k
end
/-! ### a block that is filled, element by element -/
def Fill (E : World → Nat → List Value → Prop) (m : Nat) (e : TypeId) (w : World) (b N i : Nat) : Prop :=
  ∃ cs, w.heap[b]? = some (.cells cs e (0, 0)) ∧ cs.size = N * m ∧ ∀ j, j < i → ∃ l : List Value, E w j l ∧ l.length = m ∧ ∀ k u, l[k]? = some u → cs[j * m + k]? = some u
section
variable {E : World → Nat → List Value → Prop} {m e b N i : Nat} {w w' : World}
theorem Fill.start {cs : Array Value} (nb : NewB w b (.cells cs e (0, 0)) w') (hs : cs.size = N * m) : Fill E m e w' b N 0 :=
  ⟨cs, nb.blk, hs, fun j hj => absurd hj (Nat.not_lt_zero j)⟩
theorem Fill.ext (h : Fill E m e w b N i) (k : Ext w w') (hR : ∀ j l, E w j l → E w' j l) : Fill E m e w' b N i := by
  obtain ⟨cs, h1, h2, h3⟩ := h
  refine ⟨cs, k.blk h1, h2, fun j hj => ?_⟩
  obtain ⟨l, a1, a2, a3⟩ := h3 j hj
  exact ⟨l, hR j l a1, a2, a3⟩
theorem Fill.cells (h : Fill E m e w b N i) (j : Nat) (hj : j < i) : ∃ l : List Value, E w j l ∧ l.length = m ∧ ∀ (k : Nat) (u : Value), l[k]? = some u → w.cell? ⟨b, 0 + j * m + k, none⟩ = some u := by
  obtain ⟨cs, h1, h2, h3⟩ := h
  obtain ⟨l, a1, a2, a3⟩ := h3 j hj
  refine ⟨l, a1, a2, fun k u hu => ?_⟩
  rw [Nat.zero_add]
  exact cell_of_blk h1 (a3 k u hu)
theorem Fill.lt (h : Fill E m e w b N i) : b < w.heap.size := by obtain ⟨cs, h1, _⟩ := h; exact lt_of_blk h1
end
section
variable {P : Program} {ops : Array Oper} {Q : Exit → Act → World → Prop} {rest : List Oper} {n d t : Nat} {env : Nat → Value} {ds : List Deferred} {w w' : World} {v u : Value}
  {ty T : TypeId} {pos : String} {af : Array Edge} {gd : Option (Nat × Bool)} {x y z : Operand}
theorem s_storeF {E : World → Nat → List Value → Prop} {m e b N i : Nat} {l : List Value} (hF : Fill E m e w b N i) (hi : i < N) (hsz : (P.info? T).map (·.size) = some m) (hx : (mkA n env ds).eval x = .pointer (some ⟨b, 0 + i * m, none⟩)) (hy : (mkA n env ds).eval y = v) (hv : v.cells = l.toArray) (hl : l.length = m) (h1 : (l.all (·.oneCell')) = true)
    (hE : ∀ w', Keep (fun k => k = b) w w' → (∀ j l, j < i → E w j l → E w' j l) ∧ E w' i l) (hw : Region.wanted ⟨none, .store T x y, ty, pos, af, gd⟩ (yielded ops (mkA n env ds).tmps) = true)
    (k : ∀ w', Fill E m e w' b N (i + 1) → Keep (fun k => k = b) w w' → wpList P ops Q rest (mkA n env ds) w') : wpList P ops Q (⟨none, .store T x y, ty, pos, af, gd⟩ :: rest) (mkA n env ds) w := by
  obtain ⟨cs, hb, hs, hc⟩ := hF
  have hN : i * m + m ≤ N * m := by
    have := Nat.mul_le_mul_right m (Nat.succ_le_of_lt hi)
    rw [Nat.succ_mul] at this; exact this
  refine s_store (g := b) (o := 0 + i * m) (m := m) (l := l) hsz hx hy hv hl h1 hb (by rw [hs]; omega) rfl hw fun w' hwr => k w' ?_ hwr.keep
  obtain ⟨e1, e2⟩ := hE w' hwr.keep
  refine ⟨_, hwr.blk, ?_, fun j hj => ?_⟩
  · simp only [List.size_toArray, List.length_append, List.length_take, List.length_drop, Array.length_toList, hs, hl]
    omega
  · rcases Nat.lt_succ_iff_lt_or_eq.1 hj with hj | rfl
    · obtain ⟨l2, a1, a2, a3⟩ := hc j hj
      refine ⟨l2, e1 j l2 hj a1, a2, fun k u hu => ?_⟩
      have hk : k < m := by rw [← a2]; exact (List.getElem?_eq_some_iff.1 hu).1
      have hj2 : j * m + m ≤ i * m := by
        have := Nat.mul_le_mul_right m (Nat.succ_le_of_lt hj)
        rw [Nat.succ_mul] at this; exact this
      rw [List.getElem?_toArray, List.getElem?_append_left (by simp only [List.length_append, List.length_take, Array.length_toList, hs]; omega), List.getElem?_append_left (by simp only [List.length_take, Array.length_toList, hs]; omega), List.getElem?_take, if_pos (by omega)]
      simpa using a3 k u hu
    · refine ⟨l, e2, hl, fun k u hu => ?_⟩
      have hk : k < m := by rw [← hl]; exact (List.getElem?_eq_some_iff.1 hu).1
      have hlen : (cs.toList.take (0 + j * m)).length = j * m := by simp only [List.length_take, Array.length_toList, hs]; omega
      rw [List.getElem?_toArray, List.getElem?_append_left (by simp only [List.length_append, hlen, hl]; omega), List.getElem?_append_right (by rw [hlen]; omega), hlen, show j * m + k - j * m = k by omega]
      exact hu
end
/-! ### copies with a mark behind each list -/
def spareW : ByteArray := (⟨#[35]⟩ : ByteArray) ++ itoaB 777777
def markE : List Value := [.int .i8 99, .string spareW, .int .i8 0, .int .i64 0, .string ⟨#[]⟩, .slice none 0 0]
inductive LE (lo : Nat) (w : World) : Ex → List Value → Prop
  | mk (op : Int) (t : Tm) (kids : List Ex) (b : Nat) (f : Nat → List Value) (hlo : lo ≤ b) (hop : -128 ≤ op ∧ op ≤ 127) (ht : t.wf) (hc : kids.length * 80 ≤ 140737488351232)
    (hr : ∀ (j : Nat) (x : Ex), kids[j]? = some x → LE lo w x (f j)) (hcell : ∀ (j : Nat) (x : Ex), kids[j]? = some x → ∀ (i : Nat) (u : Value), (f j)[i]? = some u → w.cell? ⟨b, 0 + j * 6 + i, none⟩ = some u)
    (hm : ∀ (i : Nat) (u : Value), markE[i]? = some u → w.cell? ⟨b, 0 + kids.length * 6 + i, none⟩ = some u) :
    LE lo w (.mk op t kids) [.int .i8 op, .string t.v, .int .i8 t.l.k, .int .i64 t.l.n, .string t.l.s, .slice (some ⟨b, 0, none⟩) kids.length (kids.length + 1)]
/-- A marked row of copies. -/
structure TwE (lo : Nat) (w : World) (b : Nat) (kids : List Ex) : Prop where
  above : lo ≤ b
  row : ∀ (j : Nat) (x : Ex), kids[j]? = some x → ∃ l, LE lo w x l ∧ ∀ (i : Nat) (u : Value), l[i]? = some u → w.cell? ⟨b, 0 + j * 6 + i, none⟩ = some u
  mark : ∀ (i : Nat) (u : Value), markE[i]? = some u → w.cell? ⟨b, 0 + kids.length * 6 + i, none⟩ = some u
theorem LE.mono {lo lo' : Nat} {w : World} {x : Ex} {cs : List Value} (h : LE lo w x cs) (hl : lo' ≤ lo) : LE lo' w x cs := by
  induction h with
  | mk op t kids b f hlo hop ht hc hr hcell hm ih => exact .mk op t kids b f (Nat.le_trans hl hlo) hop ht hc ih hcell hm
theorem LE.keep {lo : Nat} {w w' : World} {x : Ex} {cs : List Value} {S : Nat → Prop} (h : LE lo w x cs) (k : Keep S w w') (hS : ∀ i, S i → i < lo) : LE lo w' x cs := by
  induction h with
  | mk op t kids b f hlo hop ht hc hr hcell hm ih =>
    have hn : ¬ S b := fun h => by have := hS b h; omega
    exact .mk op t kids b f hlo hop ht hc ih (fun j x hx i u hu => k.cell (hcell j x hx i u hu) hn) (fun i u hu => k.cell (hm i u hu) hn)
theorem LE.ext {lo : Nat} {w w' : World} {x : Ex} {cs : List Value} (h : LE lo w x cs) (k : Ext w w') : LE lo w' x cs := h.keep k (fun _ h => h.elim)
theorem LE.open_ {lo : Nat} {w : World} {x : Ex} {cs : List Value} (h : LE lo w x cs) : ∃ b, cs = [.int .i8 x.op, .string x.t.v, .int .i8 x.t.l.k, .int .i64 x.t.l.n, .string x.t.l.s, .slice (some ⟨b, 0, none⟩) x.kids.length (x.kids.length + 1)] ∧ TwE lo w b x.kids := by
  cases h with
  | mk op t kids b f hlo hop ht hc hr hcell hm => exact ⟨b, rfl, hlo, fun j x hx => ⟨f j, hr j x hx, hcell j x hx⟩, hm⟩
theorem LE.mk_ {lo : Nat} {w : World} {x : Ex} {b : Nat} (ho : -128 ≤ x.op ∧ x.op ≤ 127) (ht : x.t.wf) (hc : x.kids.length * 80 ≤ 140737488351232) (h : TwE lo w b x.kids) : LE lo w x [.int .i8 x.op, .string x.t.v, .int .i8 x.t.l.k, .int .i64 x.t.l.n, .string x.t.l.s, .slice (some ⟨b, 0, none⟩) x.kids.length (x.kids.length + 1)] := by
  obtain ⟨op, t, kids⟩ := x
  obtain ⟨h1, h2, h3⟩ := h
  have hf : ∃ f : Nat → List Value, ∀ (j : Nat) (x : Ex), kids[j]? = some x → LE lo w x (f j) ∧ ∀ (i : Nat) (u : Value), (f j)[i]? = some u → w.cell? ⟨b, 0 + j * 6 + i, none⟩ = some u := by
    refine ⟨fun j => if hj : j < kids.length then Classical.choose (h2 j _ (List.getElem?_eq_getElem hj)) else [], fun j x hx => ?_⟩
    have hj : j < kids.length := (List.getElem?_eq_some_iff.1 hx).1
    have hx2 : kids[j] = x := (List.getElem?_eq_some_iff.1 hx).2
    simp only [dif_pos hj]
    have hs := Classical.choose_spec (h2 j _ (List.getElem?_eq_getElem hj))
    exact ⟨hx2 ▸ hs.1, hs.2⟩
  obtain ⟨f, hf⟩ := hf
  exact .mk op t kids b f h1 ho ht hc (fun j x hx => (hf j x hx).1) (fun j x hx => (hf j x hx).2) h3
theorem TwE.ext {lo : Nat} {w w' : World} {b : Nat} {kids : List Ex} (h : TwE lo w b kids) (k : Ext w w') : TwE lo w' b kids :=
  ⟨h.above, fun j x hx => by obtain ⟨l, h1, h2⟩ := h.row j x hx; exact ⟨l, h1.ext k, fun i u hu => k.cell (h2 i u hu)⟩, fun i u hu => k.cell (h.mark i u hu)⟩
/-- A copy is an expression. -/
theorem LE.re {lo : Nat} {w : World} {x : Ex} {cs : List Value} (h : LE lo w x cs) : RE w x cs := by
  induction h with
  | mk op t kids b f hlo hop ht hc hr hcell hm ih => exact .mk op t kids (some ⟨b, 0, none⟩) (kids.length + 1) b 0 f hop ht (Nat.le_succ _) hc (.inr rfl) ih hcell
theorem TwE.rows {lo : Nat} {w : World} {b : Nat} {x : Ex} (h : TwE lo w b x.kids) : Row RE 6 w (some ⟨b, 0, none⟩) x.kids := .inr ⟨b, 0, rfl, fun j y hy => by
  obtain ⟨l, h1, h2⟩ := h.row j y hy; exact ⟨l, h1.re, h2⟩⟩
/-- What a filled block holds, with its mark: a marked row. -/
def EE (lo : Nat) (kids : List Ex) (w : World) (j : Nat) (l : List Value) : Prop := if j < kids.length then ∀ x, kids[j]? = some x → LE lo w x l else l = markE
theorem EE.keep {lo : Nat} {kids : List Ex} {w w' : World} {j : Nat} {l : List Value} {S : Nat → Prop} (h : EE lo kids w j l) (k : Keep S w w') (hS : ∀ i, S i → i < lo) : EE lo kids w' j l := by
  unfold EE at *
  split
  · rename_i hj; rw [if_pos hj] at h; exact fun x hx => (h x hx).keep k hS
  · rename_i hj; rw [if_neg hj] at h; exact h
theorem TwE.of_fill {lo lo' e b N : Nat} {w : World} {kids : List Ex} (h : Fill (EE lo kids) 6 e w b N (kids.length + 1)) (hl : lo' ≤ lo) (hb : lo' ≤ b) : TwE lo' w b kids := by
  refine ⟨hb, fun j x hx => ?_, ?_⟩
  · have hj : j < kids.length := (List.getElem?_eq_some_iff.1 hx).1
    obtain ⟨l, a1, _, a3⟩ := h.cells j (by omega)
    unfold EE at a1
    rw [if_pos hj] at a1
    exact ⟨l, (a1 x hx).mono hl, a3⟩
  · obtain ⟨l, a1, _, a3⟩ := h.cells kids.length (by omega)
    unfold EE at a1
    rw [if_neg (Nat.lt_irrefl _)] at a1
    subst a1
    exact a3
theorem TwE.keep {lo : Nat} {w w' : World} {b : Nat} {kids : List Ex} {S : Nat → Prop} (h : TwE lo w b kids) (k : Keep S w w') (hS : ∀ i, S i → i < lo) : TwE lo w' b kids := by
  have hn : ¬ S b := fun hb => by have := hS b hb; have := h.above; omega
  exact ⟨h.above, fun j x hx => by obtain ⟨l, h1, h2⟩ := h.row j x hx; exact ⟨l, h1.keep k hS, fun i u hu => k.cell (h2 i u hu) hn⟩, fun i u hu => k.cell (h.mark i u hu) hn⟩
theorem TwE.mono {lo lo' : Nat} {w : World} {b : Nat} {kids : List Ex} (h : TwE lo w b kids) (hl : lo' ≤ lo) : TwE lo' w b kids :=
  ⟨Nat.le_trans hl h.above, fun j x hx => by obtain ⟨l, h1, h2⟩ := h.row j x hx; exact ⟨l, h1.mono hl, h2⟩, h.mark⟩
theorem EE.of_tw {lo lo2 b c i : Nat} {w : World} {kids : List Ex} {y : Ex} (hx : kids[i]? = some y) (ho : y.okc c) (h : TwE lo2 w b y.kids) (hl : lo ≤ lo2) : EE lo kids w i [.int .i8 y.op, .string y.t.v, .int .i8 y.t.l.k, .int .i64 y.t.l.n, .string y.t.l.s, .slice (some ⟨b, 0, none⟩) y.kids.length (y.kids.length + 1)] := by
  unfold EE
  rw [if_pos (List.getElem?_eq_some_iff.1 hx).1]
  intro x hx2
  rw [hx] at hx2
  cases hx2
  exact LE.mk_ ho.op ho.t ho.c (h.mono hl)
theorem EE.mark {lo : Nat} {w : World} {kids : List Ex} : EE lo kids w kids.length markE := by unfold EE; rw [if_neg (Nat.lt_irrefl _)]
theorem Fill.cast {E : World → Nat → List Value → Prop} {m e b N i i' : Nat} {w : World} (h : Fill E m e w b N i) (hi : i = i') : Fill E m e w b N i' := hi ▸ h
theorem cmpI_self (a : Int) : cmpI .eql a a = some true := by simp [cmpI]
theorem cmpI_selfn (a : Int) : cmpI .neq a a = some false := by simp [cmpI]
end Go.Wk
