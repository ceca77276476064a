/- YtjjkfbjidpolmaaDoorWkT: part of the proof of this seat, by an AI agent: the tables; no text is empty. No condition of its own but those that its theorems state. -/
import Derived.Test.YtjjkfbjidpolmaaDoorWkZ
set_option linter.unusedVariables false
set_option linter.unusedSimpArgs false
namespace Go.Wk
open Go Go.RowKit Go.Lib
/-! ### the tables -/
theorem var_ext {P : Program} {w w' : World} {nm : String} {cs : Array Value} (h : w.var? P nm = some cs) (k : Ext w w') : w'.var? P nm = some cs := by
  unfold World.var? at h ⊢
  obtain ⟨g, hg, h⟩ := Option.bind_eq_some_iff.1 h
  rw [hg]
  simp only [Option.bind_some]
  cases hb : w.heap[g]? with
  | none => rw [hb] at h; simp at h
  | some o => rw [hb] at h; rw [k.blk hb]; exact h
theorem var_cell {P : Program} {w : World} {nm : String} {cs : Array Value} {g i : Nat} {v : Value} (h : w.var? P nm = some cs) (hg : P.globalNamed nm = some g) (hv : cs[i]? = some v) : w.cell? ⟨g, 0 + i * 1, none⟩ = some v := by
  unfold World.var? at h
  rw [hg] at h
  simp only [Option.bind_some] at h
  split at h
  · rename_i hb
    cases h
    rw [Nat.zero_add, Nat.mul_one]
    exact cell_of_blk hb hv
  · cases h
def fastO (op : Int) : Int := if op = 2 ∨ op = 3 ∨ op = 7 then 1 else if op = 4 ∨ op = 5 ∨ op = 6 then 2 else if op = 1 then 3 else 4
theorem fast_op (x : Ex) : fast x = fastO x.op := rfl
def relW (r : Int) : ByteArray := if r = 1 then ⟨#[61]⟩ else if r = 2 then ⟨#[33, 61]⟩ else if r = 3 then ⟨#[60]⟩ else if r = 4 then ⟨#[60, 61]⟩ else if r = 5 then ⟨#[62]⟩ else ⟨#[62, 61]⟩
structure Tabs (P : Program) (w : World) : Prop where
  hold : w.var? P "pedigree/print.hold" = some #[.int .i64 4, .int .i64 3, .int .i64 1, .int .i64 1, .int .i64 2, .int .i64 2, .int .i64 2, .int .i64 1, .int .i64 4, .int .i64 4, .int .i64 4]
  words : w.var? P "pedigree/print.words" = some #[.string ⟨#[]⟩, .string ⟨#[]⟩, .string ⟨#[]⟩, .string ⟨#[]⟩, .string ⟨#[]⟩, .string ⟨#[]⟩, .string ⟨#[]⟩, .string ⟨#[]⟩, .string ⟨#[108, 101, 110]⟩, .string ⟨#[99, 104, 97, 114, 115]⟩, .string ⟨#[98, 97, 99, 107]⟩]
  signs : w.var? P "pedigree/print.signs" = some #[.string ⟨#[]⟩, .string ⟨#[]⟩, .string ⟨#[43]⟩, .string ⟨#[45]⟩, .string ⟨#[42]⟩, .string ⟨#[47]⟩, .string ⟨#[37]⟩, .string ⟨#[38]⟩]
  pow : TabIs P w "internal/strconv.uint64pow10" .u64 pow10Tab
theorem Tabs.ext {P : Program} {w w' : World} (h : Tabs P w) (k : Ext w w') : Tabs P w' := ⟨var_ext h.hold k, var_ext h.words k, var_ext h.signs k, var_ext h.pow k⟩
section
variable {P : Program} {w : World} {g : Nat} {op : Int}
theorem Tabs.hold_at (h : Tabs P w) (hg : P.globalNamed "pedigree/print.hold" = some g) (ho : 0 ≤ op ∧ op ≤ 10) : w.cell? ⟨g, 0 + op.toNat * 1, none⟩ = some (.int .i64 (fastO op)) := by
  refine var_cell h.hold hg ?_
  have : op = 0 ∨ op = 1 ∨ op = 2 ∨ op = 3 ∨ op = 4 ∨ op = 5 ∨ op = 6 ∨ op = 7 ∨ op = 8 ∨ op = 9 ∨ op = 10 := by omega
  rcases this with rfl | rfl | rfl | rfl | rfl | rfl | rfl | rfl | rfl | rfl | rfl <;> rfl
theorem Tabs.words_at (h : Tabs P w) (hg : P.globalNamed "pedigree/print.words" = some g) (ho : 8 ≤ op ∧ op ≤ 10) : w.cell? ⟨g, 0 + op.toNat * 1, none⟩ = some (.string (wordW op)) := by
  refine var_cell h.words hg ?_
  have : op = 8 ∨ op = 9 ∨ op = 10 := by omega
  rcases this with rfl | rfl | rfl <;> rfl
theorem Tabs.signs_at (h : Tabs P w) (hg : P.globalNamed "pedigree/print.signs" = some g) (ho : 2 ≤ op ∧ op ≤ 7) : w.cell? ⟨g, 0 + op.toNat * 1, none⟩ = some (.string (signW op)) := by
  refine var_cell h.signs hg ?_
  have : op = 2 ∨ op = 3 ∨ op = 4 ∨ op = 5 ∨ op = 6 ∨ op = 7 := by omega
  rcases this with rfl | rfl | rfl | rfl | rfl | rfl <;> rfl
end
theorem itoaB_eq (n : Int) : itoaB n = ⟨(itoa n).toArray⟩ := rfl
/-- A text's bytes in a frozen block, over a builder's writes. -/
def SBf (e : Nat) (w : World) (g : Nat) (s : ByteArray) : Prop := ∃ cs m, w.heap[g]? = some (.cells cs e (m, m + 1)) ∧ ∀ j, j < s.size → cs[j]? = some (.int .u8 (byteAt s j))
theorem SBf.sb {e : Nat} {w : World} {g : Nat} {s : ByteArray} (h : SBf e w g s) : SB w g s := by
  obtain ⟨cs, m, hb, hc⟩ := h
  intro j hj
  rw [Nat.zero_add, Nat.mul_one]
  exact cell_of_blk hb (hc j hj)
theorem SBf.ext {e : Nat} {w w' : World} {g : Nat} {s : ByteArray} (h : SBf e w g s) (k : Ext w w') : SBf e w' g s := by
  obtain ⟨cs, m, hb, hc⟩ := h; exact ⟨cs, m, k.blk hb, hc⟩
theorem SBf.wr {e T B g' : Nat} {w w' : World} {g : Nat} {s s' : ByteArray} (h : SBf e w g s) (k : Wr e T B g' s' w w') (hg : g ≠ g') : SBf e w' g s := by
  obtain ⟨cs, m, h1, hc⟩ := h
  exact ⟨cs, m, k.blk h1 (.inr (by simp)) hg, hc⟩
theorem SBf.ne {e T B g' : Nat} {w : World} {g : Nat} {s s0 : ByteArray} (h : SBf e w g s) (hb : BW e T B w g' s0) : g ≠ g' := by
  obtain ⟨cs, m, h1, hc⟩ := h
  rintro rfl
  obtain ⟨hne, _, _, _, _, _, h4, _⟩ := hb
  rw [h1] at h4
  injection h4 with h4
  injection h4 with _ h4
  exact hne h4
section
variable {P : Program} {ops : Array Oper} {Q : Exit → Act → World → Prop} {rest : List Oper} {n d t : Nat} {env : Nat → Value} {ds : List Deferred} {w w' : World} {v u : Value}
  {ty T : TypeId} {pos : String} {af : Array Edge} {gd : Option (Nat × Bool)} {x y z : Operand}
/-- []byte(s), the block known to be frozen. -/
theorem s_sbytesF {S2 e : TypeId} {s : ByteArray} (hs : P.underlying T = some .string) (hd : P.underlying S2 = some (.slice e)) (he : P.underlying e = some (.int .u8)) (hx : (mkA n env ds).eval x = .string s)
    (hw : Region.wanted ⟨some d, .convert T S2 x, ty, pos, af, gd⟩ (yielded ops (mkA n env ds).tmps) = true)
    (k : ∀ w' g c, SBf e w' g s → Ext w w' → wpList P ops Q rest (mkA n (upd env d (.slice (some ⟨g, 0, none⟩) s.size c)) ds) w') : wpList P ops Q (⟨some d, .convert T S2 x, ty, pos, af, gd⟩ :: rest) (mkA n env ds) w := by
  refine s_val hw (w' := bytesWorld w e s) (v := .slice (some ⟨w.heap.size, 0, none⟩) s.size (grownCap w s.size 0 e)) ?_ (k _ _ _ ?_ ?_)
  · simp only [execOp, hx]
    rw [Sem.run_bind, Go.Lib.run_convert_string_bytes w T S2 e s hs hd he]
    rfl
  · refine ⟨_, _, bytesWorld_at_new w e s, fun j hj => ?_⟩
    have := bytesWorld_cell w e s j hj
    rw [World.cell?, bytesWorld_at_new] at this
    have h2 : (bytesCells w e s)[j]? = some (.int .u8 (s.data.toList.getD j 0).toNat) := by simpa using this
    rw [h2]
    congr 2
    simp [byteAt, Array.getD_eq_getD_getElem?, List.getD_eq_getElem?_getD]
  · refine ⟨rfl, rfl, rfl, ?_, fun j hj _ => bytesWorld_at_old w e s j hj⟩
    rw [bytesWorld_size]; omega
end
theorem shr4 {P : Program} (m : Nat) (h : m < 256) (T : TypeId) (w : World) : (binOp .shr T (.int .u8 (m : Int)) (.int .u64 4)).run P w = .ok (.int .u8 ((m / 16 : Nat) : Int)) w := by
  have e : (min 4 IntKind.u8.bits) = 4 := rfl
  have e2 : ((m : Int)).fdiv 16 = ((m / 16 : Nat) : Int) := by rw [Int.fdiv_eq_ediv_of_nonneg _ (by omega)]; rfl
  simp [binOp, Op.shift]
  rw [e, show ((2 : Int) ^ 4) = 16 from rfl, e2]; simp
theorem and15 {P : Program} (m : Nat) (h : m < 256) (T : TypeId) (w : World) : (binOp .and T (.int .u8 (m : Int)) (.int .u8 15)).run P w = .ok (.int .u8 ((m % 16 : Nat) : Int)) w := by
  have e : IntKind.u8.bits = 8 := rfl
  have e2 : m % 256 &&& 15 = m % 16 := by
    rw [Nat.mod_eq_of_lt h]
    exact Nat.and_two_pow_sub_one_eq_mod m 4
  simp [binOp, Op.intBits, e]
  rw [e2]
  rw [conv_u8 (by omega)]; simp
section
variable {P : Program} {ops : Array Oper} {Q : Exit → Act → World → Prop} {rest : List Oper} {n d t : Nat} {env : Nat → Value} {ds : List Deferred} {w w' : World} {v u : Value}
  {ty T : TypeId} {pos : String} {af : Array Edge} {gd : Option (Nat × Bool)} {x y z : Operand}
theorem s_shr4 {m : Nat} {T2 : TypeId} (hx : (mkA n env ds).eval x = .int .u8 (m : Int)) (hy : (mkA n env ds).eval y = .int .u64 4) (hm : m < 256) (hw : Region.wanted ⟨some d, .binOp .shr T x y T2, ty, pos, af, gd⟩ (yielded ops (mkA n env ds).tmps) = true)
    (k : wpList P ops Q rest (mkA n (upd env d (.int .u8 ((m / 16 : Nat) : Int))) ds) w) : wpList P ops Q (⟨some d, .binOp .shr T x y T2, ty, pos, af, gd⟩ :: rest) (mkA n env ds) w :=
  s_val hw (w' := w) (by
    have := shr4 (P := P) m hm T w
    simp only [execOp, hx, hy, eqGuard, Sem.run_bind]
    simp [this]) k
theorem s_and15 {m : Nat} {T2 : TypeId} (hx : (mkA n env ds).eval x = .int .u8 (m : Int)) (hy : (mkA n env ds).eval y = .int .u8 15) (hm : m < 256) (hw : Region.wanted ⟨some d, .binOp .and T x y T2, ty, pos, af, gd⟩ (yielded ops (mkA n env ds).tmps) = true)
    (k : wpList P ops Q rest (mkA n (upd env d (.int .u8 ((m % 16 : Nat) : Int))) ds) w) : wpList P ops Q (⟨some d, .binOp .and T x y T2, ty, pos, af, gd⟩ :: rest) (mkA n env ds) w :=
  s_val hw (w' := w) (by
    have := and15 (P := P) m hm T w
    simp only [execOp, hx, hy, eqGuard, Sem.run_bind]
    simp [this]) k
end
theorem BW.blk {e T B g : Nat} {w : World} {s : ByteArray} (h : BW e T B w g s) : ∃ cs, w.heap[g]? = some (.cells cs T (0, 0)) := by
  obtain ⟨_, _, _, _, _, _, h, _⟩ := h; exact ⟨_, h⟩
theorem catL_stepD (l : List ByteArray) (i : Nat) (hi : i < l.length) : catL (l.take (i + 1)) = catL (l.take i) ++ l.getD i ⟨#[]⟩ := by
  rw [catL_step l i hi]
  simp [List.getD_eq_getElem?_getD, hi]
theorem catL_le (l : List ByteArray) (i : Nat) (hi : i < l.length) : (catL (l.take i)).size + (l.getD i ⟨#[]⟩).size ≤ (catL l).size := by
  induction l generalizing i with
  | nil => simp at hi
  | cons a l ih =>
    cases i with
    | zero => simp only [List.take_zero, catL, ByteArray.size_append, List.getD_cons_zero, z0]; omega
    | succ i =>
      have := ih i (by simpa using hi)
      simp only [List.take_succ_cons, catL, ByteArray.size_append, List.getD_cons_succ] at this ⊢
      omega
theorem strs_cell {w : World} {b t i : Nat} {fz : Nat × Nat} {ss : List ByteArray} (h : w.heap[b]? = some (.cells (ss.map Value.string).toArray t fz)) (hi : i < ss.length) : w.cell? ⟨b, 0 + i * 1, none⟩ = some (.string (ss.getD i ⟨#[]⟩)) := by
  rw [Nat.zero_add, Nat.mul_one]
  refine cell_of_blk h ?_
  simp [List.getD_eq_getElem?_getD, hi]
theorem app1 (l : List UInt8) (a : UInt8) : strL l ++ (⟨#[a]⟩ : ByteArray) = strL (l ++ [a]) := by apply Go.WideShapes.bytes_inj; simp [strL]
theorem app2 (l : List UInt8) (a b : UInt8) : strL l ++ (⟨#[a, b]⟩ : ByteArray) = strL (l ++ [a, b]) := by apply Go.WideShapes.bytes_inj; simp [strL]
theorem ext_bel {w0 w w' : World} (h : Ext w0 w) (k : Below w0.heap.size w w') : Ext w0 w' := Ext.of_below ((Ext.below h).trans k)
theorem quotB_eq (s : ByteArray) : strL (quotL s s.size) ++ (⟨#[34]⟩ : ByteArray) = quotB s := by rw [app1]; rfl
theorem strL_size (l : List UInt8) : (strL l).size = l.length := by simp [strL, ByteArray.size]
/-! no text is empty -/
theorem bytes_nil {s : ByteArray} (h : s.size = 0) : s = ⟨#[]⟩ := by
  obtain ⟨d⟩ := s
  congr 1
  exact Array.eq_empty_of_size_eq_zero h
theorem digB_ne (u : Nat) : (digB u).size ≠ 0 := by
  unfold digB
  show (decDigits u).toArray.size ≠ 0
  rw [decDigits]
  split <;> simp
theorem itoaB_ne (n : Int) : (itoaB n).size ≠ 0 := by
  unfold itoaB itoa
  have := digB_ne n.toNat
  split
  · show (_ :: _ : List UInt8).toArray.size ≠ 0; simp
  · exact this
theorem showB_ne {x : Vl} : okV x = true → (showB x).size ≠ 0 := by
  intro h
  unfold showB
  split
  · exact itoaB_ne _
  · split
    · rename_i h2
      simp only [nameB, Bool.and_eq_true, wordB, decide_eq_true_eq] at h2
      omega
    · have : (quotB x.s).size = (quotL x.s x.s.size).length + 1 := by
        show (quotL x.s x.s.size ++ [34]).toArray.size = _
        rw [List.size_toArray, List.length_append]; rfl
      omega
theorem termW_ne {t : Tm} (h : tmB t = true) : (termW t).size ≠ 0 := by
  unfold termW
  unfold tmB at h
  split
  · rename_i h0
    rw [if_pos h0] at h
    rw [if_pos h]
    exact showB_ne h
  · rename_i h0
    exact fun h1 => h0 (bytes_nil h1)
theorem exW_ne {d : Nat} {x : Ex} (h : exB d x = true) : (exW d x).size ≠ 0 := by
  obtain ⟨hd, h1, h2⟩ := exB_parts h
  rw [exW_pos hd]
  split
  · rename_i h0; exact termW_ne (h1 h0).2.2
  · split
    · simp only [ByteArray.size_append, z1]; omega
    · split
      · simp only [ByteArray.size_append, z1]; omega
      · simp only [ByteArray.size_append, z1]; omega
theorem fast_neg {x : Ex} (h : x.op = 1) : fast x = 3 := by unfold fast; simp [h]
end Go.Wk
