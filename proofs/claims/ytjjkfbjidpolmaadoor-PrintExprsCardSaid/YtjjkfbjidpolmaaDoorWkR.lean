/- YtjjkfbjidpolmaaDoorWkR: part of the proof of this seat, by an AI agent: levels of expressions. No condition of its own but those that its theorems state. -/
import Derived.Test.YtjjkfbjidpolmaaDoorWkV
set_option linter.unusedVariables false
set_option linter.unusedSimpArgs false
namespace Go.Wk
open Go Go.RowKit Go.Lib Go.Sort
/-! ### levels: rows of expressions that the call itself makes; the expressions lie where they lay at the start (w0) -/
def OwnE (w0 : World) (B e : Nat) (w : World) (A : Option Addr) (c : Nat) (lv : List Ex) : Prop :=
  ∃ cs, w.ownsRow B e 6 (.slice A lv.length c) lv.length cs ∧ ∀ j y, lv[j]? = some y → ∃ l : List Value, RE w0 y l ∧ l.length = 6 ∧ ∀ k u, l[k]? = some u → cs[j * 6 + k]? = some u
structure Lv (w0 w : World) (A : Option Addr) (lv : List Ex) (N : Nat) : Prop where
  row : Row (fun _ x l => RE w0 x l) 6 w A lv
  lt : lv ≠ [] → ∀ b o, A = some ⟨b, o, none⟩ → b < N
theorem OwnE.nil {w0 w : World} {B e : Nat} : OwnE w0 B e w none 0 [] := ⟨[], own_nil B e 6, fun j y h => by simp at h⟩
theorem OwnE.ext {w0 w w' : World} {B e c : Nat} {A : Option Addr} {lv : List Ex} (h : OwnE w0 B e w A c lv) (k : Ext w w') : OwnE w0 B e w' A c lv := by
  obtain ⟨cs, h1, h2⟩ := h; exact ⟨cs, own_ext k h1, h2⟩
theorem OwnE.lv {w0 w : World} {B e c : Nat} {A : Option Addr} {lv : List Ex} (h : OwnE w0 B e w A c lv) : Lv w0 w A lv w.heap.size := by
  obtain ⟨cs, h1, h2⟩ := h
  by_cases h0 : lv = []
  · exact ⟨.inl h0, fun h => absurd h0 h⟩
  · obtain ⟨b, hA, hc⟩ := own_cells h1 (List.length_pos_iff.2 h0)
    refine ⟨.inr ⟨b, 0, hA, fun j y hy => ?_⟩, fun _ b' o' h' => ?_⟩
    · obtain ⟨l, a1, a2, a3⟩ := h2 j y hy
      exact ⟨l, a1, fun i u hu => by rw [Nat.zero_add]; exact hc _ u (a3 i u hu)⟩
    · exact own_lt h1 b' (by rw [h']; rfl)
theorem Lv.ext {w0 w w' : World} {A : Option Addr} {lv : List Ex} {N : Nat} (h : Lv w0 w A lv N) (k : Ext w w') : Lv w0 w' A lv N := ⟨h.row.map (fun _ _ hc => k.cell hc) (fun _ _ _ h => h), h.lt⟩
theorem Lv.up {w0 w : World} {A : Option Addr} {lv : List Ex} {N N' : Nat} (h : Lv w0 w A lv N) (hn : N ≤ N') : Lv w0 w A lv N' := ⟨h.row, fun h0 b o hA => Nat.lt_of_lt_of_le (h.lt h0 b o hA) hn⟩
theorem Lv.keep {w0 w w' : World} {A : Option Addr} {lv : List Ex} {B : Nat} (h : Lv w0 w A lv B) (k : Keep (fun i => B ≤ i) w w') : Lv w0 w' A lv B := by
  refine ⟨?_, h.lt⟩
  by_cases h0 : lv = []
  · exact .inl h0
  · rcases h.row with h1 | ⟨b, o, hA, h1⟩
    · exact .inl h1
    · have hb := h.lt h0 b o hA
      exact .inr ⟨b, o, hA, fun j x hx => by
        obtain ⟨l, a1, a2⟩ := h1 j x hx
        exact ⟨l, a1, fun i u hu => k.cell (a2 i u hu) (by simp only []; omega)⟩⟩
/-- One expression, as a row of its own. -/
theorem Lv.one {w0 w w' : World} {x : Ex} {A : Option Addr} {c g e : Nat} (nb : NewB w g (.cells #[.int .i8 x.op, .string x.t.v, .int .i8 x.t.l.k, .int .i64 x.t.l.n, .string x.t.l.s, .slice A x.kids.length c] e (0, 0)) w') (ho : x.okc c) (hr : Row RE 6 w0 A x.kids) : Lv w0 w' (some ⟨g, 0, none⟩) [x] w'.heap.size := by
  refine ⟨.inr ⟨g, 0, rfl, fun j y hy => ?_⟩, fun _ b o h => ?_⟩
  · have hj : j = 0 := by
      have := (List.getElem?_eq_some_iff.1 hy).1
      simp at this; exact this
    subst hj
    have : y = x := by simpa using hy.symm
    subst this
    refine ⟨_, RE.mk_ ho hr, fun i u hu => ?_⟩
    exact blk_cells nb.blk 0 (cs := [.int .i8 y.op, .string y.t.v, .int .i8 y.t.l.k, .int .i64 y.t.l.n, .string y.t.l.s, .slice A y.kids.length c]) rfl i u hu
  · injection h with h; injection h with h; subst h; exact lt_of_blk nb.blk
section
variable {P : Program} {ops : Array Oper} {Q : Exit → Act → World → Prop} {rest : List Oper} {n d t : Nat} {env : Nat → Value} {ds : List Deferred} {w w' : World} {v u : Value}
  {ty T : TypeId} {pos : String} {af : Array Edge} {gd : Option (Nat × Bool)} {x y z : Operand}
/-- append(next, e) -/
theorem s_appendE {w0 : World} {B e bytes c g c2 : Nat} {zv : Value} {A A2 : Option Addr} {nx : List Ex} {q : Ex} (ht : P.underlying T = some (.slice e)) (hinfo : (P.info? e).map (fun i => (i.zero, i.size, i.bytes)) = some (some zv, 6, bytes)) (hzs : zv.cells.size = 6)
    (hs : (mkA n env ds).eval x = .slice A nx.length c) (hown : OwnE w0 B e w A c nx) (hx : (mkA n env ds).eval y = .slice (some ⟨g, 0, none⟩) 1 1) (hq : q.okc c2) (hr : Row RE 6 w0 A2 q.kids)
    (hb : w.heap[g]? = some (.cells #[.int .i8 q.op, .string q.t.v, .int .i8 q.t.l.k, .int .i64 q.t.l.n, .string q.t.l.s, .slice A2 q.kids.length c2] e (0, 0)))
    (h63 : nx.length + 1 ≤ 9223372036854775807) (hbytes : (nx.length + 1) * bytes ≤ 140737488355328) (hbase : B ≤ w.heap.size) (hw : Region.wanted ⟨some d, .call ⟨.builtin .append, #[x, y], #[T, T]⟩, ty, pos, af, none⟩ (yielded ops (mkA n env ds).tmps) = true)
    (kont : ∀ A' c' w', OwnE w0 B e w' A' c' (nx ++ [q]) → Keep (fun i => B ≤ i) w w' → wpList P ops Q rest (mkA n (upd env d (.slice A' (nx.length + 1) c')) ds) w') :
    wpList P ops Q (⟨some d, .call ⟨.builtin .append, #[x, y], #[T, T]⟩, ty, pos, af, none⟩ :: rest) (mkA n env ds) w := by
  obtain ⟨cs, h1, h2⟩ := hown
  refine s_append (m := 6) (k := 1) (o := 0) (news := [.int .i8 q.op, .string q.t.v, .int .i8 q.t.l.k, .int .i64 q.t.l.n, .string q.t.l.s, .slice A2 q.kids.length c2]) ht hinfo hzs (by decide) hs h1 hx rfl (blk_cells hb 0 rfl) rfl h63 hbytes hbase hw ?_
  intro A' c' w' ow k
  refine kont A' c' w' ⟨cs ++ _, by rw [List.length_append]; exact ow, fun j y hy => ?_⟩ (Keep.mono k fun i _ hi => own_ge h1 i hi)
  have hl : cs.length = nx.length * 6 := h1.1
  rcases Nat.lt_or_ge j nx.length with hj | hj
  · rw [List.getElem?_append_left hj] at hy
    obtain ⟨l, a1, a2, a3⟩ := h2 j y hy
    refine ⟨l, a1, a2, fun k u hu => ?_⟩
    have hk : k < 6 := by rw [← a2]; exact (List.getElem?_eq_some_iff.1 hu).1
    rw [List.getElem?_append_left (by omega)]
    exact a3 k u hu
  · rw [List.getElem?_append_right hj] at hy
    have hj2 : j - nx.length = 0 := by
      have := (List.getElem?_eq_some_iff.1 hy).1
      simp at this; exact this
    rw [hj2] at hy
    have : y = q := by simpa using hy.symm
    subst this
    refine ⟨_, RE.mk_ hq hr, rfl, fun k u hu => ?_⟩
    rw [List.getElem?_append_right (by omega), show j * 6 + k - cs.length = k by omega]
    exact hu
end
def exAt (l : List Ex) (j : Nat) : Ex := l.getD j Ex.none
theorem exAt_of {l : List Ex} {y : Ex} {j : Nat} (h : l[j]? = some y) : exAt l j = y := by simp [exAt, List.getD_eq_getElem?_getD, h]
end Go.Wk
