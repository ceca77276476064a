/- YtjjkfbjidpolmaaDoorDJ: part of the proof of this seat, by an AI agent: walks of the functions that the law reaches. No condition of its own but those that its theorems state. -/
import Derived.Test.YtjjkfbjidpolmaaDoorDI
set_option linter.unusedVariables false
set_option linter.unusedSimpArgs false
set_option maxRecDepth 10000
namespace Go.Proofs.Dw
open Go Go.Wk Go.Proofs Go.Lib
attribute [local irreducible] Go.wpList Go.wpStill Go.wpQuiet Go.Code.wp Go.Calls
theorem F_ar104 : arrayT Tryd.prog 104 11 1 = true := by kernel_rfl
theorem F_ar105 : arrayT Tryd.prog 105 11 1 = true := by kernel_rfl
theorem F_ar106 : arrayT Tryd.prog 106 8 1 = true := by kernel_rfl
theorem F_e24 : enterable Tryd.prog 24 = true := by kernel_rfl
theorem F_e35 : enterable Tryd.prog 35 = true := by kernel_rfl
theorem F_e41 : enterable Tryd.prog 41 = true := by kernel_rfl
theorem F_e52 : enterable Tryd.prog 52 = true := by kernel_rfl
theorem F_e72 : enterable Tryd.prog 72 = true := by kernel_rfl
theorem F_gn0 : Tryd.prog.globalNamed "pedigree/print.hold" = some 0 := by kernel_rfl
theorem F_gn1 : Tryd.prog.globalNamed "pedigree/print.words" = some 1 := by kernel_rfl
theorem F_gn2 : Tryd.prog.globalNamed "pedigree/print.signs" = some 2 := by kernel_rfl
theorem F_lies85 : liesAt Tryd.prog Tryd.prog.depth 85 (2 / Tryd.prog.cellsOf 85) 0 83 1 = true := by kernel_rfl
theorem bs122_1_0s : ∀ (a0 : ByteArray), ∀ w : World, (Instr.buildSlice 122 1 [(0, .string a0)].toArray).run Tryd.prog w = .ok (.slice (some ⟨w.heap.size, 0, none⟩) 1 1) (w.alloc (.cells #[.string a0] 9)) := by
  intros
  kernel_rfl
theorem bs122_3_0s_1s_2s : ∀ (a0 : ByteArray) (a1 : ByteArray) (a2 : ByteArray), ∀ w : World, (Instr.buildSlice 122 3 [(0, .string a0), (1, .string a1), (2, .string a2)].toArray).run Tryd.prog w = .ok (.slice (some ⟨w.heap.size, 0, none⟩) 3 3) (w.alloc (.cells #[.string a0, .string a1, .string a2] 9)) := by
  intros
  kernel_rfl
set_option maxHeartbeats 4000000 in
theorem p_term (x : Tm) (g : Nat) (s0 : ByteArray) (wz : World) (w : World) (x0 : Ext wz w) (tb : Tabs Tryd.prog wz) (hb : BW 5 85 wz.heap.size w g s0) (hx : x.wf) (hs : s0.size + (termW x).size ≤ 140737488355328) :
    Rt Tryd.prog 41 #[.pointer (some ⟨g, 0, none⟩), .agg #[.string x.v, .int .i8 x.l.k, .int .i64 x.l.n, .string x.l.s]] w fun v w' => v = .tuple #[] ∧ Wr 5 85 wz.heap.size g (s0 ++ termW x) w w' := by
  refine enter Tryd.func41 rfl (l := [.pointer (some ⟨g, 0, none⟩), .agg #[.string x.v, .int .i8 x.l.k, .int .i64 x.l.n, .string x.l.s]]) rfl Tryd.ntmps41 (Nat.le_of_ble_eq_true rfl) ?_
  have hB_ := Keep.size x0
  refine c_seq ?_
  refine c_reg ?_
  refine s_box (v := .agg #[.string x.v, .int .i8 x.l.k, .int .i64 x.l.n, .string x.l.s]) (cs := #[.string x.v, .int .i8 x.l.k, .int .i64 x.l.n, .string x.l.s]) (w0 rfl) (ev_t rfl rfl) rfl ?_
  intro w2 g1 n3
  have ne_g1 : g1 ≠ g := by have a_ := NewB.eq n3; have b_ := BW.lt hb; omega
  refine c_done ?_
  refine n_then ?_
  refine c_seq ?_
  refine c_seq ?_
  refine c_reg ?_
  refine s_field (off := 0) (o' := 0) F_f28_0 (ev_t rfl rfl) rfl (w0 rfl) ?_
  refine s_load (v := .string x.v) F_o9 (ev_t rfl rfl) (cell_of_blk (i := 0) (NewB.blk n3) rfl) (w0 rfl) ?_
  refine s_cmpS (r := !decide (x.v = (⟨#[]⟩ : ByteArray))) (ev_t rfl rfl) ev_c rfl (w0 rfl) ?_
  refine c_done ?_
  refine n_then ?_
  by_cases h4 : x.v = (⟨#[]⟩ : ByteArray)
  · refine c_cond0 (vb (ev_t rfl rfl) (nb0 h4)) ?_
    refine c_skip ?_
    refine n_then ?_
    refine c_seq ?_
    refine c_reg ?_
    refine s_field (off := 1) (o' := 1) F_f28_1 (ev_t rfl rfl) rfl (w0 rfl) ?_
    refine s_loadL (cs := [.int .i8 x.l.k, .int .i64 x.l.n, .string x.l.s]) (ca := #[.int .i8 x.l.k, .int .i64 x.l.n, .string x.l.s]) F_m26 (ev_t rfl rfl) rfl rfl (blk_cells (NewB.blk n3) 1 (cs := [.int .i8 x.l.k, .int .i64 x.l.n, .string x.l.s]) rfl) (w0 rfl) ?_
    refine s_call F_e72 (w0 rfl) ev_f (m1 (ev_t rfl rfl)) (args := #[.agg #[.int .i8 x.l.k, .int .i64 x.l.n, .string x.l.s]]) rfl (v_Show x.l _ (Tm.wf.l hx) (Tabs.ext tb (Ext.trans x0 (NewB.ext n3)))) ?_
    rintro _ w6 ⟨rfl, x5⟩
    refine s_move (v := .tuple #[.string (if okV x.l then showB x.l else ⟨#[]⟩), .int .i64 (if okV x.l then 0 else 10 : Int)]) (ev_t rfl rfl) (w0 rfl) ?_
    refine s_extract (v := .string (if okV x.l then showB x.l else ⟨#[]⟩)) (ev_t rfl rfl) rfl (w0 rfl) ?_
    refine s_extract (v := .int .i64 (if okV x.l then 0 else 10 : Int)) (ev_t rfl rfl) rfl (w0 rfl) ?_
    refine s_assign (v := .string (if okV x.l then showB x.l else ⟨#[]⟩)) (ev_t rfl rfl) (w0 rfl) ?_
    refine s_assign (v := .int .i64 (if okV x.l then 0 else 10 : Int)) (ev_t rfl rfl) (w0 rfl) ?_
    refine c_done ?_
    refine n_then ?_
    refine c_reg ?_
    refine s_move (v := .pointer (some ⟨g, 0, none⟩)) (ev_t rfl rfl) (w0 rfl) ?_
    refine s_move (v := .string (if okV x.l then showB x.l else ⟨#[]⟩)) (ev_t rfl rfl) (w0 rfl) ?_
    refine s_bslice (vs := [(0, .string (if okV x.l then showB x.l else ⟨#[]⟩))]) (cs := #[.string (if okV x.l then showB x.l else ⟨#[]⟩)]) (b1 (ev_t rfl rfl)) (bs122_1_0s (if okV x.l then showB x.l else ⟨#[]⟩)) (w0 rfl) ?_
    intro w8 g7 n9
    have ne_g7 : g7 ≠ g := by have a_ := NewB.eq n9; have b_ := BW.lt (BW.ext (BW.ext hb (NewB.ext n3)) x5); omega
    refine s_call F_e35 (w0 rfl) ev_f (m2 (ev_t rfl rfl) (ev_t rfl rfl)) (args := #[.pointer (some ⟨g, 0, none⟩), .slice (some ⟨g7, 0, none⟩) 1 1]) rfl (p_put 85 _ g g7 (s0) [(if okV x.l then showB x.l else ⟨#[]⟩)] _ (BW.ext (BW.ext (BW.ext hb (NewB.ext n3)) x5) (NewB.ext n9)) (Nat.le_trans (Nat.le_trans (Nat.le_trans hB_ (Keep.size (NewB.ext n3))) (Keep.size x5)) (Keep.size (NewB.ext n9))) (by decide) F_lies85 (NewB.blk n9) (by simp only [catL, app_nil]; revert hs; simp only [termW, *, if_true, if_false]; intro hs; omega) (by simp)) ?_
    rintro _ w10 ⟨rfl, wr11⟩
    refine c_done ?_
    refine ret0 rfl ?_
    exact ⟨_, rfl, rfl, Wr.cast (Wr.then_ (Wr.of_ext hb (Ext.trans (Ext.trans (NewB.ext n3) x5) (NewB.ext n9)) hB_) wr11) (by simp [termW, catL, app_nil, *])⟩
  · refine c_cond1 (vb (ev_t rfl rfl) (nb1 h4)) ?_
    refine c_seq ?_
    refine c_reg ?_
    refine s_move (v := .pointer (some ⟨g, 0, none⟩)) (ev_t rfl rfl) (w0 rfl) ?_
    refine s_field (off := 0) (o' := 0) F_f28_0 (ev_t rfl rfl) rfl (w0 rfl) ?_
    refine s_load (v := .string x.v) F_o9 (ev_t rfl rfl) (cell_of_blk (i := 0) (NewB.blk n3) rfl) (w0 rfl) ?_
    refine s_bslice (vs := [(0, .string x.v)]) (cs := #[.string x.v]) (b1 (ev_t rfl rfl)) (bs122_1_0s x.v) (w0 rfl) ?_
    intro w13 g12 n14
    have ne_g12 : g12 ≠ g := by have a_ := NewB.eq n14; have b_ := BW.lt (BW.ext hb (NewB.ext n3)); omega
    refine s_call F_e35 (w0 rfl) ev_f (m2 (ev_t rfl rfl) (ev_t rfl rfl)) (args := #[.pointer (some ⟨g, 0, none⟩), .slice (some ⟨g12, 0, none⟩) 1 1]) rfl (p_put 85 _ g g12 (s0) [x.v] _ (BW.ext (BW.ext hb (NewB.ext n3)) (NewB.ext n14)) (Nat.le_trans (Nat.le_trans hB_ (Keep.size (NewB.ext n3))) (Keep.size (NewB.ext n14))) (by decide) F_lies85 (NewB.blk n14) (by simp only [catL, app_nil]; revert hs; simp only [termW, *, if_true, if_false]; intro hs; omega) (by simp)) ?_
    rintro _ w15 ⟨rfl, wr16⟩
    refine c_done ?_
    refine n_then ?_
    refine c_ret ?_
    refine r_then ?_
    refine ret0r rfl ?_
    exact ⟨_, rfl, rfl, Wr.cast (Wr.then_ (Wr.of_ext hb (Ext.trans (NewB.ext n3) (NewB.ext n14)) hB_) wr16) (by simp [termW, catL, app_nil, *])⟩
set_option maxHeartbeats 4000000 in
theorem p_side (d : Nat) (x : Ex) (A : Option Addr) (c : Nat) (b : Bool) (g : Nat) (s0 : ByteArray) (wz : World) (w : World) (x0 : Ext wz w) (tb : Tabs Tryd.prog wz) (hb : BW 5 85 wz.heap.size w g s0) (ho : x.okc c) (hr : Row RE 6 wz A x.kids) (hd : exB d x = true) (hz : (exW d x).size ≤ 2 ^ d * 900 - 8) (hs : s0.size + 2 ^ d * 900 + 2 ≤ 1000000000000) (he : ∀ (A : Option Addr) (c : Nat) (w : World) (s0 : ByteArray), x.okc c → Row RE 6 wz A x.kids → Ext wz w → BW 5 85 wz.heap.size w g s0 → s0.size + 2 ^ d * 900 ≤ 1000000000000 → Rt Tryd.prog 24 #[.pointer (some ⟨g, 0, none⟩), .agg #[.int .i8 x.op, .string x.t.v, .int .i8 x.t.l.k, .int .i64 x.t.l.n, .string x.t.l.s, .slice A x.kids.length c]] w fun v w' => v = .tuple #[] ∧ Wr 5 85 wz.heap.size g (s0 ++ exW d x) w w') :
    Rt Tryd.prog 52 #[.pointer (some ⟨g, 0, none⟩), .agg #[.int .i8 x.op, .string x.t.v, .int .i8 x.t.l.k, .int .i64 x.t.l.n, .string x.t.l.s, .slice A x.kids.length c], .bool b] w fun v w' => v = .tuple #[] ∧ Wr 5 85 wz.heap.size g (s0 ++ inB b (exW d x)) w w' := by
  refine enter Tryd.func52 rfl (l := [.pointer (some ⟨g, 0, none⟩), .agg #[.int .i8 x.op, .string x.t.v, .int .i8 x.t.l.k, .int .i64 x.t.l.n, .string x.t.l.s, .slice A x.kids.length c], .bool b]) rfl Tryd.ntmps52 (Nat.le_of_ble_eq_true rfl) ?_
  have hB_ := Keep.size x0
  have hl_ := Ex.okc.l ho
  have hc_ := Ex.okc.c ho
  have hp_ : 1 ≤ 2 ^ d := Nat.one_le_two_pow
  refine c_seq ?_
  refine c_reg ?_
  refine s_box (v := .agg #[.int .i8 x.op, .string x.t.v, .int .i8 x.t.l.k, .int .i64 x.t.l.n, .string x.t.l.s, .slice A x.kids.length c]) (cs := #[.int .i8 x.op, .string x.t.v, .int .i8 x.t.l.k, .int .i64 x.t.l.n, .string x.t.l.s, .slice A x.kids.length c]) (w0 rfl) (ev_t rfl rfl) rfl ?_
  intro w2 g1 n3
  have ne_g1 : g1 ≠ g := by have a_ := NewB.eq n3; have b_ := BW.lt hb; omega
  refine c_done ?_
  refine n_then ?_
  refine c_seq ?_
  refine c_seq ?_
  refine c_reg ?_
  refine s_move (v := .bool b) (ev_t rfl rfl) (w0 rfl) ?_
  refine s_not (b := b) (ev_t rfl rfl) (w0 rfl) ?_
  refine c_done ?_
  refine n_then ?_
  rcases Bool.eq_false_or_eq_true b with h4 | h4
  · refine c_cond0 (vb (ev_t rfl rfl) (nbt h4)) ?_
    refine c_skip ?_
    refine n_then ?_
    refine c_seq ?_
    refine c_reg ?_
    refine s_move (v := .pointer (some ⟨g, 0, none⟩)) (ev_t rfl rfl) (w0 rfl) ?_
    refine s_bslice (vs := [(0, .string (⟨#[40]⟩ : ByteArray))]) (cs := #[.string (⟨#[40]⟩ : ByteArray)]) (b1 ev_c) (bs122_1_0s (⟨#[40]⟩ : ByteArray)) (w0 rfl) ?_
    intro w6 g5 n7
    have ne_g5 : g5 ≠ g := by have a_ := NewB.eq n7; have b_ := BW.lt (BW.ext hb (NewB.ext n3)); omega
    refine s_call F_e35 (w0 rfl) ev_f (m2 (ev_t rfl rfl) (ev_t rfl rfl)) (args := #[.pointer (some ⟨g, 0, none⟩), .slice (some ⟨g5, 0, none⟩) 1 1]) rfl (p_put 85 _ g g5 (s0) [(⟨#[40]⟩ : ByteArray)] _ (BW.ext (BW.ext hb (NewB.ext n3)) (NewB.ext n7)) (Nat.le_trans (Nat.le_trans hB_ (Keep.size (NewB.ext n3))) (Keep.size (NewB.ext n7))) (by decide) F_lies85 (NewB.blk n7) (by simp only [catL, ByteArray.size_append, z0, z1, z2, z3, z4, z5, z6]; omega) (by simp)) ?_
    rintro _ w8 ⟨rfl, wr9⟩
    refine c_done ?_
    refine n_then ?_
    refine c_seq ?_
    refine c_reg ?_
    refine s_move (v := .pointer (some ⟨g, 0, none⟩)) (ev_t rfl rfl) (w0 rfl) ?_
    refine s_loadL (cs := [.int .i8 x.op, .string x.t.v, .int .i8 x.t.l.k, .int .i64 x.t.l.n, .string x.t.l.s, .slice A x.kids.length c]) (ca := #[.int .i8 x.op, .string x.t.v, .int .i8 x.t.l.k, .int .i64 x.t.l.n, .string x.t.l.s, .slice A x.kids.length c]) F_m31 (ev_t rfl rfl) rfl rfl (blk_cells (Wr.blk wr9 (Ext.blk (NewB.ext n7) (NewB.blk n3)) (Or.inl (by decide)) ne_g1) 0 (cs := [.int .i8 x.op, .string x.t.v, .int .i8 x.t.l.k, .int .i64 x.t.l.n, .string x.t.l.s, .slice A x.kids.length c]) rfl) (w0 rfl) ?_
    refine s_call F_e24 (w0 rfl) ev_f (m2 (ev_t rfl rfl) (ev_t rfl rfl)) (args := #[.pointer (some ⟨g, 0, none⟩), .agg #[.int .i8 x.op, .string x.t.v, .int .i8 x.t.l.k, .int .i64 x.t.l.n, .string x.t.l.s, .slice A x.kids.length c]]) rfl (he A c _ (s0 ++ (catL [(⟨#[40]⟩ : ByteArray)])) ho hr (Wr.after wr9 (Ext.trans (Ext.trans x0 (NewB.ext n3)) (NewB.ext n7)) rfl) (Wr.bw wr9) (by (try simp only [catL, ByteArray.size_append, z0, z1]); omega)) ?_
    rintro _ w10 ⟨rfl, wr11⟩
    refine c_done ?_
    refine n_then ?_
    refine c_reg ?_
    refine s_move (v := .pointer (some ⟨g, 0, none⟩)) (ev_t rfl rfl) (w0 rfl) ?_
    refine s_bslice (vs := [(0, .string (⟨#[41]⟩ : ByteArray))]) (cs := #[.string (⟨#[41]⟩ : ByteArray)]) (b1 ev_c) (bs122_1_0s (⟨#[41]⟩ : ByteArray)) (w0 rfl) ?_
    intro w13 g12 n14
    have ne_g12 : g12 ≠ g := by have a_ := NewB.eq n14; have b_ := BW.lt (Wr.bw wr11); omega
    refine s_call F_e35 (w0 rfl) ev_f (m2 (ev_t rfl rfl) (ev_t rfl rfl)) (args := #[.pointer (some ⟨g, 0, none⟩), .slice (some ⟨g12, 0, none⟩) 1 1]) rfl (p_put 85 _ g g12 (s0 ++ (catL [(⟨#[40]⟩ : ByteArray)]) ++ (exW d x)) [(⟨#[41]⟩ : ByteArray)] _ (BW.ext (Wr.bw wr11) (NewB.ext n14)) (Nat.le_trans (Nat.le_trans (Nat.le_trans (Nat.le_trans (Nat.le_trans hB_ (Keep.size (NewB.ext n3))) (Keep.size (NewB.ext n7))) (Wr.size wr9)) (Wr.size wr11)) (Keep.size (NewB.ext n14))) (by decide) F_lies85 (NewB.blk n14) (by simp only [catL, ByteArray.size_append, z0, z1, z2, z3, z4, z5, z6]; omega) (by simp)) ?_
    rintro _ w15 ⟨rfl, wr16⟩
    refine c_done ?_
    refine ret0 rfl ?_
    exact ⟨_, rfl, rfl, Wr.cast (Wr.then_ (Wr.ext (Wr.then_ (Wr.then_ (Wr.of_ext hb (Ext.trans (NewB.ext n3) (NewB.ext n7)) hB_) wr9) wr11) (NewB.ext n14) hB_) wr16) (by simp only [inB, *, if_true, if_false, Bool.false_eq_true]; try simp only [app_assoc, catL, app_nil])⟩
  · refine c_cond1 (vb (ev_t rfl rfl) (nbf h4)) ?_
    refine c_seq ?_
    refine c_reg ?_
    refine s_move (v := .pointer (some ⟨g, 0, none⟩)) (ev_t rfl rfl) (w0 rfl) ?_
    refine s_loadL (cs := [.int .i8 x.op, .string x.t.v, .int .i8 x.t.l.k, .int .i64 x.t.l.n, .string x.t.l.s, .slice A x.kids.length c]) (ca := #[.int .i8 x.op, .string x.t.v, .int .i8 x.t.l.k, .int .i64 x.t.l.n, .string x.t.l.s, .slice A x.kids.length c]) F_m31 (ev_t rfl rfl) rfl rfl (blk_cells (NewB.blk n3) 0 (cs := [.int .i8 x.op, .string x.t.v, .int .i8 x.t.l.k, .int .i64 x.t.l.n, .string x.t.l.s, .slice A x.kids.length c]) rfl) (w0 rfl) ?_
    refine s_call F_e24 (w0 rfl) ev_f (m2 (ev_t rfl rfl) (ev_t rfl rfl)) (args := #[.pointer (some ⟨g, 0, none⟩), .agg #[.int .i8 x.op, .string x.t.v, .int .i8 x.t.l.k, .int .i64 x.t.l.n, .string x.t.l.s, .slice A x.kids.length c]]) rfl (he A c _ (s0) ho hr (Ext.trans x0 (NewB.ext n3)) (BW.ext hb (NewB.ext n3)) (by (try simp only [catL, ByteArray.size_append, z0, z1]); omega)) ?_
    rintro _ w17 ⟨rfl, wr18⟩
    refine c_done ?_
    refine n_then ?_
    refine c_ret ?_
    refine r_then ?_
    refine ret0r rfl ?_
    exact ⟨_, rfl, rfl, Wr.cast (Wr.then_ (Wr.of_ext hb (NewB.ext n3) hB_) wr18) (by simp only [inB, *, if_true, if_false, Bool.false_eq_true]; try simp only [app_assoc, catL, app_nil])⟩
set_option maxHeartbeats 4000000 in
theorem p_expr_step (d : Nat) (x : Ex) (A : Option Addr) (c : Nat) (g : Nat) (s0 : ByteArray) (wz : World) (w : World) (x0 : Ext wz w) (tb : Tabs Tryd.prog wz) (hb : BW 5 85 wz.heap.size w g s0) (ho : x.okc c) (hr : Row RE 6 wz A x.kids) (hd : d ≤ 8) (hb_ : exB d x = true) (hs : s0.size + 2 ^ d * 900 ≤ 1000000000000) (ih : d ≠ 0 → ∀ (j : Nat) (y : Ex), x.kids[j]? = some y → exB (d - 1) y = true → ∀ (A : Option Addr) (c : Nat) (w : World) (s0 : ByteArray), y.okc c → Row RE 6 wz A y.kids → Ext wz w → BW 5 85 wz.heap.size w g s0 → s0.size + 2 ^ (d - 1) * 900 ≤ 1000000000000 → Rt Tryd.prog 24 #[.pointer (some ⟨g, 0, none⟩), .agg #[.int .i8 y.op, .string y.t.v, .int .i8 y.t.l.k, .int .i64 y.t.l.n, .string y.t.l.s, .slice A y.kids.length c]] w fun v w' => v = .tuple #[] ∧ Wr 5 85 wz.heap.size g (s0 ++ exW (d - 1) y) w w') :
    Rt Tryd.prog 24 #[.pointer (some ⟨g, 0, none⟩), .agg #[.int .i8 x.op, .string x.t.v, .int .i8 x.t.l.k, .int .i64 x.t.l.n, .string x.t.l.s, .slice A x.kids.length c]] w fun v w' => v = .tuple #[] ∧ Wr 5 85 wz.heap.size g (s0 ++ exW d x) w w' := by
  refine enter Tryd.func24 rfl (l := [.pointer (some ⟨g, 0, none⟩), .agg #[.int .i8 x.op, .string x.t.v, .int .i8 x.t.l.k, .int .i64 x.t.l.n, .string x.t.l.s, .slice A x.kids.length c]]) rfl Tryd.ntmps24 (Nat.le_of_ble_eq_true rfl) ?_
  have hB_ := Keep.size x0
  have hl_ := Ex.okc.l ho
  have hc_ := Ex.okc.c ho
  have hk_ := Go.Wk.Row.ok hr ho.t
  have ⟨hd0_, _, _⟩ := exB_parts hb_
  obtain ⟨ho1_, ho2_, ho3_⟩ := exOp hb_
  have hw1_ := wordW_size x.op
  have hw2_ := signW_size x.op
  have hp_ : 2 ^ d = 2 * 2 ^ (d - 1) := by obtain ⟨d', rfl⟩ := Nat.exists_eq_succ_of_ne_zero hd0_; rw [Nat.pow_succ]; simp; omega
  have hp1_ : 1 ≤ 2 ^ (d - 1) := Nat.one_le_two_pow
  refine c_seq ?_
  refine c_reg ?_
  refine s_box (v := .agg #[.int .i8 x.op, .string x.t.v, .int .i8 x.t.l.k, .int .i64 x.t.l.n, .string x.t.l.s, .slice A x.kids.length c]) (cs := #[.int .i8 x.op, .string x.t.v, .int .i8 x.t.l.k, .int .i64 x.t.l.n, .string x.t.l.s, .slice A x.kids.length c]) (w0 rfl) (ev_t rfl rfl) rfl ?_
  intro w2 g1 n3
  have ne_g1 : g1 ≠ g := by have a_ := NewB.eq n3; have b_ := BW.lt hb; omega
  refine c_done ?_
  refine n_then ?_
  refine c_block ?_
  refine c_seq ?_
  refine c_reg ?_
  refine s_field (off := 0) (o' := 0) F_f31_0 (ev_t rfl rfl) rfl (w0 rfl) ?_
  refine s_load (v := .int .i8 x.op) F_o23 (ev_t rfl rfl) (cell_of_blk (i := 0) (NewB.blk n3) rfl) (w0 rfl) ?_
  refine s_cmp (r := decide (x.op = 0)) (ev_t rfl rfl) ev_c rfl (w0 rfl) ?_
  refine s_assign (v := .bool (decide (x.op = 0))) (ev_t rfl rfl) (w0 rfl) ?_
  refine c_done ?_
  refine n_then ?_
  by_cases h4 : x.op = 0
  · refine c_cond1 (vb (ev_t rfl rfl) (decide_eq_true h4)) ?_
    refine c_reg ?_
    refine s_move (v := .pointer (some ⟨g, 0, none⟩)) (ev_t rfl rfl) (w0 rfl) ?_
    refine s_field (off := 1) (o' := 1) F_f31_1 (ev_t rfl rfl) rfl (w0 rfl) ?_
    refine s_loadL (cs := [.string x.t.v, .int .i8 x.t.l.k, .int .i64 x.t.l.n, .string x.t.l.s]) (ca := #[.string x.t.v, .int .i8 x.t.l.k, .int .i64 x.t.l.n, .string x.t.l.s]) F_m28 (ev_t rfl rfl) rfl rfl (blk_cells (NewB.blk n3) 1 (cs := [.string x.t.v, .int .i8 x.t.l.k, .int .i64 x.t.l.n, .string x.t.l.s]) rfl) (w0 rfl) ?_
    refine s_call F_e41 (w0 rfl) ev_f (m2 (ev_t rfl rfl) (ev_t rfl rfl)) (args := #[.pointer (some ⟨g, 0, none⟩), .agg #[.string x.t.v, .int .i8 x.t.l.k, .int .i64 x.t.l.n, .string x.t.l.s]]) rfl (p_term x.t g (s0) wz _ (Ext.trans x0 (NewB.ext n3)) tb (BW.ext hb (NewB.ext n3)) (Ex.okc.t ho) (by have := termW_size ((exB_parts hb_).2.1 (by omega)).2.2 ho.t; have : 1 ≤ 2 ^ d := Nat.one_le_two_pow; omega)) ?_
    rintro _ w5 ⟨rfl, wr6⟩
    refine c_done ?_
    refine n_block ?_
    refine ret0 rfl ?_
    exact ⟨_, rfl, rfl, Wr.cast (Wr.then_ (Wr.of_ext hb (NewB.ext n3) hB_) wr6) (by rw [exW_pos hd0_]; first | (rw [if_pos (by omega)]; done) | (rw [if_neg (by omega), if_pos (by omega)]; simp only [inB, if_true, catL, app_nil, app_assoc]; done) | (have hf_ := fast_neg (x := x) (by omega); rw [if_neg (by omega), if_neg (by omega), if_pos (by omega), show (decide (fast (x.kid 0) < 3) || numB (x.kid 0)) = true by simp only [hf_] at *; simp [numB, *]]; simp only [catL, app_nil, app_assoc]; done) | (rw [if_neg (by omega), if_neg (by omega), if_neg (by omega)]; simp only [catL, app_nil, app_assoc]; done))⟩
  · refine c_cond0 (vb (ev_t rfl rfl) (decide_eq_false h4)) ?_
    refine c_seq ?_
    refine c_reg ?_
    refine s_field (off := 0) (o' := 0) F_f31_0 (ev_t rfl rfl) rfl (w0 rfl) ?_
    refine s_load (v := .int .i8 x.op) F_o23 (ev_t rfl rfl) (cell_of_blk (i := 0) (NewB.blk n3) rfl) (w0 rfl) ?_
    refine s_cmp (r := decide (x.op = 1)) (ev_t rfl rfl) ev_c rfl (w0 rfl) ?_
    refine s_assign (v := .bool (decide (x.op = 1))) (ev_t rfl rfl) (w0 rfl) ?_
    refine c_done ?_
    refine n_then ?_
    by_cases h7 : x.op = 1
    · refine c_cond1 (vb (ev_t rfl rfl) (decide_eq_true h7)) ?_
      refine c_seq ?_
      refine c_reg ?_
      refine s_field (off := 5) (o' := 5) F_f31_2 (ev_t rfl rfl) rfl (w0 rfl) ?_
      refine s_load (v := .slice A x.kids.length c) F_o29 (ev_t rfl rfl) (cell_of_blk (i := 5) (NewB.blk n3) rfl) (w0 rfl) ?_
      obtain ⟨b8, o9, x10, csx10, hA11, hx12, hR13, hc14⟩ := Row.at_ hr 0 (by omega)
      obtain rfl := Ex.kid_of hx12
      obtain ⟨A15, c16, rfl, ho17, hr18⟩ := RE.open_ hR13
      refine s_indexR (j := 0) F_l29 (ev_t rfl rfl) hA11 ev_c rfl (by omega) (w0 rfl) ?_
      have hk19 := ex_ops (exKid0 hb_ (by omega))
      refine s_loadL (cs := [.int .i8 ((x.kid 0).op), .string ((x.kid 0).t.v), .int .i8 ((x.kid 0).t.l.k), .int .i64 ((x.kid 0).t.l.n), .string ((x.kid 0).t.l.s), .slice A15 ((x.kid 0).kids.length) c16]) (ca := #[.int .i8 ((x.kid 0).op), .string ((x.kid 0).t.v), .int .i8 ((x.kid 0).t.l.k), .int .i64 ((x.kid 0).t.l.n), .string ((x.kid 0).t.l.s), .slice A15 ((x.kid 0).kids.length) c16]) F_m31 (ev_t rfl rfl) rfl rfl (sub_cells (cells_ext (NewB.ext n3) (cells_ext x0 hc14)) 0 (cs2 := [.int .i8 ((x.kid 0).op), .string ((x.kid 0).t.v), .int .i8 ((x.kid 0).t.l.k), .int .i64 ((x.kid 0).t.l.n), .string ((x.kid 0).t.l.s), .slice A15 ((x.kid 0).kids.length) c16]) rfl) (w0 rfl) ?_
      refine s_alloc (cs := #[.int .i8 0, .string (⟨#[]⟩ : ByteArray), .int .i8 0, .int .i64 0, .string (⟨#[]⟩ : ByteArray), .slice none 0 0]) (w0 rfl) F_z31 rfl ?_
      intro w21 g20 n22
      have ne_g20 : g20 ≠ g := by have a_ := NewB.eq n22; have b_ := BW.lt (BW.ext hb (NewB.ext n3)); omega
      refine s_store (cs' := #[.int .i8 ((x.kid 0).op), .string ((x.kid 0).t.v), .int .i8 ((x.kid 0).t.l.k), .int .i64 ((x.kid 0).t.l.n), .string ((x.kid 0).t.l.s), .slice A15 ((x.kid 0).kids.length) c16]) F_sz31 (ev_t rfl rfl) (ev_t rfl rfl) (l := [.int .i8 ((x.kid 0).op), .string ((x.kid 0).t.v), .int .i8 ((x.kid 0).t.l.k), .int .i64 ((x.kid 0).t.l.n), .string ((x.kid 0).t.l.s), .slice A15 ((x.kid 0).kids.length) c16]) rfl rfl rfl (NewB.blk n22) (Nat.le_of_ble_eq_true rfl) rfl (w0 rfl) ?_
      intro w23 k24
      refine c_done ?_
      refine n_then ?_
      refine c_seq ?_
      refine c_reg ?_
      refine s_move (v := .pointer (some ⟨g, 0, none⟩)) (ev_t rfl rfl) (w0 rfl) ?_
      refine s_bslice (vs := [(0, .string (⟨#[45]⟩ : ByteArray))]) (cs := #[.string (⟨#[45]⟩ : ByteArray)]) (b1 ev_c) (bs122_1_0s (⟨#[45]⟩ : ByteArray)) (w0 rfl) ?_
      intro w26 g25 n27
      have ne_g25 : g25 ≠ g := by have a_ := NewB.eq n27; have b_ := BW.lt (BW.ext hb (Keep.then_ (Ext.trans (NewB.ext n3) (NewB.ext n22)) (Wrote.keep k24) (fun i_ hi_ h_ => by have a_ := NewB.eq n22; have b_ := Keep.size (NewB.ext n3); omega))); omega
      refine s_call F_e35 (w0 rfl) ev_f (m2 (ev_t rfl rfl) (ev_t rfl rfl)) (args := #[.pointer (some ⟨g, 0, none⟩), .slice (some ⟨g25, 0, none⟩) 1 1]) rfl (p_put 85 _ g g25 (s0) [(⟨#[45]⟩ : ByteArray)] _ (BW.ext hb (Ext.trans (Keep.then_ (Ext.trans (NewB.ext n3) (NewB.ext n22)) (Wrote.keep k24) (fun i_ hi_ h_ => by have a_ := NewB.eq n22; have b_ := Keep.size (NewB.ext n3); omega)) (NewB.ext n27))) (Nat.le_trans (Nat.le_trans (Nat.le_trans (Nat.le_trans hB_ (Keep.size (NewB.ext n3))) (Keep.size (NewB.ext n22))) (Keep.size (Wrote.keep k24))) (Keep.size (NewB.ext n27))) (by decide) F_lies85 (NewB.blk n27) (by simp only [catL, ByteArray.size_append, z0, z1, z2, z3, z4, z5, z6]; omega) (by simp)) ?_
      rintro _ w28 ⟨rfl, wr29⟩
      refine c_done ?_
      refine n_then ?_
      refine c_tail 36 mixed (by kernel_rfl) rfl rfl ?_
      intro w30 x31
      refine t_val (v := .pointer (some ⟨g, 0, none⟩)) (w0 rfl) (r_move (v := .pointer (some ⟨g, 0, none⟩)) (ev_t rfl rfl)) ?_
      refine t_val (v := .agg #[.int .i8 ((x.kid 0).op), .string ((x.kid 0).t.v), .int .i8 ((x.kid 0).t.l.k), .int .i64 ((x.kid 0).t.l.n), .string ((x.kid 0).t.l.s), .slice A15 ((x.kid 0).kids.length) c16]) (w0 rfl) (r_loadL (cs := [.int .i8 ((x.kid 0).op), .string ((x.kid 0).t.v), .int .i8 ((x.kid 0).t.l.k), .int .i64 ((x.kid 0).t.l.n), .string ((x.kid 0).t.l.s), .slice A15 ((x.kid 0).kids.length) c16]) (ca := #[.int .i8 ((x.kid 0).op), .string ((x.kid 0).t.v), .int .i8 ((x.kid 0).t.l.k), .int .i64 ((x.kid 0).t.l.n), .string ((x.kid 0).t.l.s), .slice A15 ((x.kid 0).kids.length) c16]) F_m31 (ev_t rfl rfl) rfl rfl (blk_cells (Ext.blk x31 (Wr.blk wr29 (Ext.blk (NewB.ext n27) (Wrote.blk k24)) (Or.inl (by decide)) ne_g20)) 0 (cs := [.int .i8 ((x.kid 0).op), .string ((x.kid 0).t.v), .int .i8 ((x.kid 0).t.l.k), .int .i64 ((x.kid 0).t.l.n), .string ((x.kid 0).t.l.s), .slice A15 ((x.kid 0).kids.length) c16]) rfl)) ?_
      refine t_val (v := .pointer (some ⟨g20, 0, none⟩)) (w0 rfl) (r_field (off := 0) (o' := 0) F_f31_0 (ev_t rfl rfl) rfl) ?_
      refine t_val (v := .int .i8 ((x.kid 0).op)) (w0 rfl) (r_load (v := .int .i8 ((x.kid 0).op)) F_o23 (ev_t rfl rfl) (cell_of_blk (i := 0) (Ext.blk x31 (Wr.blk wr29 (Ext.blk (NewB.ext n27) (Wrote.blk k24)) (Or.inl (by decide)) ne_g20)) rfl)) ?_
      refine t_val (v := .pointer (some ⟨0, 0 + ((x.kid 0).op).toNat * 1, none⟩)) (w0 rfl) (r_indexA (j := ((x.kid 0).op).toNat) F_ar104 ev_g (ev_t rfl rfl) (by omega) (by omega)) ?_
      refine t_val (v := .int .i64 (fast (x.kid 0))) (w0 rfl) (r_load (v := .int .i64 (fast (x.kid 0))) F_o3 (ev_t rfl rfl) (Tabs.hold_at (Tabs.ext tb (Ext.trans (Wr.after wr29 (Ext.trans (Keep.then_ (Ext.trans (Ext.trans x0 (NewB.ext n3)) (NewB.ext n22)) (Wrote.keep k24) (fun i_ hi_ h_ => by have a_ := NewB.eq n22; have b_ := Keep.size (Ext.trans x0 (NewB.ext n3)); omega)) (NewB.ext n27)) rfl) x31)) F_gn0 (by omega))) ?_
      refine t_val (v := .pointer (some ⟨g1, 0, none⟩)) (w0 rfl) (r_field (off := 0) (o' := 0) F_f31_0 (ev_t rfl rfl) rfl) ?_
      refine t_val (v := .int .i8 x.op) (w0 rfl) (r_load (v := .int .i8 x.op) F_o23 (ev_t rfl rfl) (cell_of_blk (i := 0) (Ext.blk x31 (Wr.blk wr29 (Ext.blk (NewB.ext n27) (Keep.blk (Wrote.keep k24) (Ext.blk (NewB.ext n22) (NewB.blk n3)) (by have a_ := NewB.eq n22; have b_ := lt_of_blk (NewB.blk n3); omega))) (Or.inl (by decide)) ne_g1)) rfl)) ?_
      refine t_val (v := .pointer (some ⟨0, 0 + x.op.toNat * 1, none⟩)) (w0 rfl) (r_indexA (j := x.op.toNat) F_ar104 ev_g (ev_t rfl rfl) (by omega) (by omega)) ?_
      refine t_val (v := .int .i64 (fast x)) (w0 rfl) (r_load (v := .int .i64 (fast x)) F_o3 (ev_t rfl rfl) (Tabs.hold_at (Tabs.ext tb (Ext.trans (Wr.after wr29 (Ext.trans (Keep.then_ (Ext.trans (Ext.trans x0 (NewB.ext n3)) (NewB.ext n22)) (Wrote.keep k24) (fun i_ hi_ h_ => by have a_ := NewB.eq n22; have b_ := Keep.size (Ext.trans x0 (NewB.ext n3)); omega)) (NewB.ext n27)) rfl) x31)) F_gn0 (by omega))) ?_
      refine t_val (v := .bool (decide (fast (x.kid 0) < fast x))) (w0 rfl) (r_cmp (r := decide (fast (x.kid 0) < fast x)) (ev_t rfl rfl) (ev_t rfl rfl) rfl) ?_
      by_cases h32 : fast (x.kid 0) < fast x
      · refine t_val (v := .bool true) (w0 rfl) (r_move (v := .bool true) (vb (ev_t rfl rfl) (decide_eq_true h32))) ?_
        refine t_skip (wn rfl rfl rfl rfl rfl) ?_
        refine t_skip (wn rfl rfl rfl rfl rfl) ?_
        refine t_skip (wn rfl rfl rfl rfl rfl) ?_
        refine t_skip (wn rfl rfl rfl rfl rfl) ?_
        refine t_skip (wu rfl rfl rfl rfl) ?_
        refine t_skip (wu rfl rfl rfl rfl) ?_
        refine t_skip (wu rfl rfl rfl rfl) ?_
        refine t_skip (wu rfl rfl rfl rfl) ?_
        refine t_skip (wn rfl rfl rfl rfl rfl) ?_
        refine t_skip (wn rfl rfl rfl rfl rfl) ?_
        refine t_skip (wu rfl rfl rfl rfl) ?_
        refine t_skip (wu rfl rfl rfl rfl) ?_
        refine t_skip (wu rfl rfl rfl rfl) ?_
        refine t_skip (wu rfl rfl rfl rfl) ?_
        refine t_skip (wu rfl rfl rfl rfl) ?_
        refine t_skip (wn rfl rfl rfl rfl rfl) ?_
        refine t_skip (wn rfl rfl rfl rfl rfl) ?_
        refine t_skip (wu rfl rfl rfl rfl) ?_
        refine t_skip (wu rfl rfl rfl rfl) ?_
        refine t_skip (wu rfl rfl rfl rfl) ?_
        refine t_skip (wu rfl rfl rfl rfl) ?_
        refine t_skip (wu rfl rfl rfl rfl) ?_
        refine t_skip (wn rfl rfl rfl rfl rfl) ?_
        refine t_val (v := .bool true) (w0 rfl) (r_pick1 (v := .bool true) (ev_t rfl rfl) ev_c) ?_
        refine t_done ?_
        have hz33 := exW_size (d - 1) (x.kid 0) (exKid0 hb_ (by omega)) (Ex.Ok.kid hk_ (kid_there (x := x) (j := 0) (by omega)))
        have hz34 := inB_size true (exW (d - 1) (x.kid 0))
        refine s_call F_e52 (w0 rfl) ev_f (m3 (ev_t rfl rfl) (ev_t rfl rfl) (ev_t rfl rfl)) (args := #[.pointer (some ⟨g, 0, none⟩), .agg #[.int .i8 ((x.kid 0).op), .string ((x.kid 0).t.v), .int .i8 ((x.kid 0).t.l.k), .int .i64 ((x.kid 0).t.l.n), .string ((x.kid 0).t.l.s), .slice A15 ((x.kid 0).kids.length) c16], .bool true]) rfl (p_side (d - 1) (x.kid 0) A15 c16 true g (s0 ++ (catL [(⟨#[45]⟩ : ByteArray)])) wz _ (Ext.trans (Wr.after wr29 (Ext.trans (Keep.then_ (Ext.trans (Ext.trans x0 (NewB.ext n3)) (NewB.ext n22)) (Wrote.keep k24) (fun i_ hi_ h_ => by have a_ := NewB.eq n22; have b_ := Keep.size (Ext.trans x0 (NewB.ext n3)); omega)) (NewB.ext n27)) rfl) x31) tb (BW.ext (Wr.bw wr29) x31) ho17 hr18 (exKid0 hb_ (by omega)) hz33 (by (try simp only [catL, ByteArray.size_append, z0, z1]); omega) (fun A_ c_ w_ s_ ho_ hr_ x_ hbw_ hs_ => ih (by omega) 0 _ (kid_there (x := x) (j := 0) (by omega)) (exKid0 hb_ (by omega)) A_ c_ w_ s_ ho_ hr_ x_ hbw_ hs_)) ?_
        rintro _ w35 ⟨rfl, wr36⟩
        refine c_done ?_
        refine n_block ?_
        refine ret0 rfl ?_
        exact ⟨_, rfl, rfl, Wr.cast (Wr.then_ (Wr.ext (Wr.then_ (Wr.of_ext hb (Ext.trans (Keep.then_ (Ext.trans (NewB.ext n3) (NewB.ext n22)) (Wrote.keep k24) (fun i_ hi_ h_ => by have a_ := NewB.eq n22; have b_ := Keep.size (NewB.ext n3); omega)) (NewB.ext n27)) hB_) wr29) x31 hB_) wr36) (by rw [exW_pos hd0_]; first | (rw [if_pos (by omega)]; done) | (rw [if_neg (by omega), if_pos (by omega)]; simp only [inB, if_true, catL, app_nil, app_assoc]; done) | (have hf_ := fast_neg (x := x) (by omega); rw [if_neg (by omega), if_neg (by omega), if_pos (by omega), show (decide (fast (x.kid 0) < 3) || numB (x.kid 0)) = true by simp only [hf_] at *; simp [numB, *]]; simp only [catL, app_nil, app_assoc]; done) | (rw [if_neg (by omega), if_neg (by omega), if_neg (by omega)]; simp only [catL, app_nil, app_assoc]; done))⟩
      · refine t_val (v := .bool false) (w0 rfl) (r_move (v := .bool false) (vb (ev_t rfl rfl) (decide_eq_false h32))) ?_
        refine t_val (v := .pointer (some ⟨g20, 0, none⟩)) (wy rfl rfl rfl rfl) (r_field (off := 0) (o' := 0) F_f31_0 (ev_t rfl rfl) rfl) ?_
        refine t_val (v := .int .i8 ((x.kid 0).op)) (wy rfl rfl rfl rfl) (r_load (v := .int .i8 ((x.kid 0).op)) F_o23 (ev_t rfl rfl) (cell_of_blk (i := 0) (Ext.blk x31 (Wr.blk wr29 (Ext.blk (NewB.ext n27) (Wrote.blk k24)) (Or.inl (by decide)) ne_g20)) rfl)) ?_
        refine t_val (v := .bool (decide ((x.kid 0).op = 0))) (wy rfl rfl rfl rfl) (r_cmp (r := decide ((x.kid 0).op = 0)) (ev_t rfl rfl) ev_c rfl) ?_
        by_cases h37 : (x.kid 0).op = 0
        · refine t_val (v := .bool true) (wy rfl rfl rfl rfl) (r_move (v := .bool true) (vb (ev_t rfl rfl) (decide_eq_true h37))) ?_
          refine t_val (v := .pointer (some ⟨g20, 1, none⟩)) (wy rfl rfl rfl rfl) (r_field (off := 1) (o' := 1) F_f31_1 (ev_t rfl rfl) rfl) ?_
          refine t_val (v := .pointer (some ⟨g20, 1, none⟩)) (wy rfl rfl rfl rfl) (r_field (off := 0) (o' := 1) F_f28_0 (ev_t rfl rfl) rfl) ?_
          refine t_val (v := .string ((x.kid 0).t.v)) (wy rfl rfl rfl rfl) (r_load (v := .string ((x.kid 0).t.v)) F_o9 (ev_t rfl rfl) (cell_of_blk (i := 1) (Ext.blk x31 (Wr.blk wr29 (Ext.blk (NewB.ext n27) (Wrote.blk k24)) (Or.inl (by decide)) ne_g20)) rfl)) ?_
          refine t_val (v := .bool (decide ((x.kid 0).t.v = (⟨#[]⟩ : ByteArray)))) (wy rfl rfl rfl rfl) (r_cmpS (r := decide ((x.kid 0).t.v = (⟨#[]⟩ : ByteArray))) (ev_t rfl rfl) ev_c rfl) ?_
          refine t_val (v := .bool (decide ((x.kid 0).t.v = (⟨#[]⟩ : ByteArray)))) (wy rfl rfl rfl rfl) (r_pick1 (v := .bool (decide ((x.kid 0).t.v = (⟨#[]⟩ : ByteArray)))) (ev_t rfl rfl) (ev_t rfl rfl)) ?_
          by_cases h38 : (x.kid 0).t.v = (⟨#[]⟩ : ByteArray)
          · refine t_val (v := .bool true) (wy rfl rfl rfl rfl) (r_move (v := .bool true) (vb (ev_t rfl rfl) (decide_eq_true h38))) ?_
            refine t_val (v := .pointer (some ⟨g20, 1, none⟩)) (wy rfl rfl rfl rfl) (r_field (off := 1) (o' := 1) F_f31_1 (ev_t rfl rfl) rfl) ?_
            refine t_val (v := .pointer (some ⟨g20, 2, none⟩)) (wy rfl rfl rfl rfl) (r_field (off := 1) (o' := 2) F_f28_1 (ev_t rfl rfl) rfl) ?_
            refine t_val (v := .pointer (some ⟨g20, 2, none⟩)) (wy rfl rfl rfl rfl) (r_field (off := 0) (o' := 2) F_f26_0 (ev_t rfl rfl) rfl) ?_
            refine t_val (v := .int .i8 ((x.kid 0).t.l.k)) (wy rfl rfl rfl rfl) (r_load (v := .int .i8 ((x.kid 0).t.l.k)) F_o24 (ev_t rfl rfl) (cell_of_blk (i := 2) (Ext.blk x31 (Wr.blk wr29 (Ext.blk (NewB.ext n27) (Wrote.blk k24)) (Or.inl (by decide)) ne_g20)) rfl)) ?_
            refine t_val (v := .bool (decide ((x.kid 0).t.l.k = 1))) (wy rfl rfl rfl rfl) (r_cmp (r := decide ((x.kid 0).t.l.k = 1)) (ev_t rfl rfl) ev_c rfl) ?_
            refine t_val (v := .bool (decide ((x.kid 0).t.l.k = 1))) (wy rfl rfl rfl rfl) (r_pick1 (v := .bool (decide ((x.kid 0).t.l.k = 1))) (ev_t rfl rfl) (ev_t rfl rfl)) ?_
            by_cases h39 : (x.kid 0).t.l.k = 1
            · refine t_val (v := .bool true) (wy rfl rfl rfl rfl) (r_move (v := .bool true) (vb (ev_t rfl rfl) (decide_eq_true h39))) ?_
              refine t_val (v := .pointer (some ⟨g20, 1, none⟩)) (wy rfl rfl rfl rfl) (r_field (off := 1) (o' := 1) F_f31_1 (ev_t rfl rfl) rfl) ?_
              refine t_val (v := .pointer (some ⟨g20, 2, none⟩)) (wy rfl rfl rfl rfl) (r_field (off := 1) (o' := 2) F_f28_1 (ev_t rfl rfl) rfl) ?_
              refine t_val (v := .pointer (some ⟨g20, 3, none⟩)) (wy rfl rfl rfl rfl) (r_field (off := 1) (o' := 3) F_f26_1 (ev_t rfl rfl) rfl) ?_
              refine t_val (v := .int .i64 ((x.kid 0).t.l.n)) (wy rfl rfl rfl rfl) (r_load (v := .int .i64 ((x.kid 0).t.l.n)) F_o2 (ev_t rfl rfl) (cell_of_blk (i := 3) (Ext.blk x31 (Wr.blk wr29 (Ext.blk (NewB.ext n27) (Wrote.blk k24)) (Or.inl (by decide)) ne_g20)) rfl)) ?_
              refine t_val (v := .bool (decide (0 ≤ (x.kid 0).t.l.n))) (wy rfl rfl rfl rfl) (r_cmp (r := decide (0 ≤ (x.kid 0).t.l.n)) (ev_t rfl rfl) ev_c rfl) ?_
              refine t_val (v := .bool (decide (0 ≤ (x.kid 0).t.l.n))) (wy rfl rfl rfl rfl) (r_pick1 (v := .bool (decide (0 ≤ (x.kid 0).t.l.n))) (ev_t rfl rfl) (ev_t rfl rfl)) ?_
              refine t_val (v := .bool (decide (0 ≤ (x.kid 0).t.l.n))) (w0 rfl) (r_pick0 (v := .bool (decide (0 ≤ (x.kid 0).t.l.n))) (ev_t rfl rfl) (ev_t rfl rfl)) ?_
              refine t_done ?_
              have hz40 := exW_size (d - 1) (x.kid 0) (exKid0 hb_ (by omega)) (Ex.Ok.kid hk_ (kid_there (x := x) (j := 0) (by omega)))
              have hz41 := inB_size (decide (0 ≤ (x.kid 0).t.l.n)) (exW (d - 1) (x.kid 0))
              refine s_call F_e52 (w0 rfl) ev_f (m3 (ev_t rfl rfl) (ev_t rfl rfl) (ev_t rfl rfl)) (args := #[.pointer (some ⟨g, 0, none⟩), .agg #[.int .i8 ((x.kid 0).op), .string ((x.kid 0).t.v), .int .i8 ((x.kid 0).t.l.k), .int .i64 ((x.kid 0).t.l.n), .string ((x.kid 0).t.l.s), .slice A15 ((x.kid 0).kids.length) c16], .bool (decide (0 ≤ (x.kid 0).t.l.n))]) rfl (p_side (d - 1) (x.kid 0) A15 c16 (decide (0 ≤ (x.kid 0).t.l.n)) g (s0 ++ (catL [(⟨#[45]⟩ : ByteArray)])) wz _ (Ext.trans (Wr.after wr29 (Ext.trans (Keep.then_ (Ext.trans (Ext.trans x0 (NewB.ext n3)) (NewB.ext n22)) (Wrote.keep k24) (fun i_ hi_ h_ => by have a_ := NewB.eq n22; have b_ := Keep.size (Ext.trans x0 (NewB.ext n3)); omega)) (NewB.ext n27)) rfl) x31) tb (BW.ext (Wr.bw wr29) x31) ho17 hr18 (exKid0 hb_ (by omega)) hz40 (by (try simp only [catL, ByteArray.size_append, z0, z1]); omega) (fun A_ c_ w_ s_ ho_ hr_ x_ hbw_ hs_ => ih (by omega) 0 _ (kid_there (x := x) (j := 0) (by omega)) (exKid0 hb_ (by omega)) A_ c_ w_ s_ ho_ hr_ x_ hbw_ hs_)) ?_
              rintro _ w42 ⟨rfl, wr43⟩
              refine c_done ?_
              refine n_block ?_
              refine ret0 rfl ?_
              exact ⟨_, rfl, rfl, Wr.cast (Wr.then_ (Wr.ext (Wr.then_ (Wr.of_ext hb (Ext.trans (Keep.then_ (Ext.trans (NewB.ext n3) (NewB.ext n22)) (Wrote.keep k24) (fun i_ hi_ h_ => by have a_ := NewB.eq n22; have b_ := Keep.size (NewB.ext n3); omega)) (NewB.ext n27)) hB_) wr29) x31 hB_) wr43) (by rw [exW_pos hd0_]; first | (rw [if_pos (by omega)]; done) | (rw [if_neg (by omega), if_pos (by omega)]; simp only [inB, if_true, catL, app_nil, app_assoc]; done) | (have hf_ := fast_neg (x := x) (by omega); rw [if_neg (by omega), if_neg (by omega), if_pos (by omega), show (decide (fast (x.kid 0) < 3) || numB (x.kid 0)) = (decide (0 ≤ (x.kid 0).t.l.n)) by simp only [hf_] at *; simp [numB, *]]; simp only [catL, app_nil, app_assoc]; done) | (rw [if_neg (by omega), if_neg (by omega), if_neg (by omega)]; simp only [catL, app_nil, app_assoc]; done))⟩
            · refine t_val (v := .bool false) (wy rfl rfl rfl rfl) (r_move (v := .bool false) (vb (ev_t rfl rfl) (decide_eq_false h39))) ?_
              refine t_skip (wn rfl rfl rfl rfl rfl) ?_
              refine t_skip (wn rfl rfl rfl rfl rfl) ?_
              refine t_skip (wn rfl rfl rfl rfl rfl) ?_
              refine t_skip (wn rfl rfl rfl rfl rfl) ?_
              refine t_skip (wn rfl rfl rfl rfl rfl) ?_
              refine t_val (v := .bool false) (wy rfl rfl rfl rfl) (r_pick0 (v := .bool false) (ev_t rfl rfl) ev_c) ?_
              refine t_val (v := .bool false) (w0 rfl) (r_pick0 (v := .bool false) (ev_t rfl rfl) (ev_t rfl rfl)) ?_
              refine t_done ?_
              have hz44 := exW_size (d - 1) (x.kid 0) (exKid0 hb_ (by omega)) (Ex.Ok.kid hk_ (kid_there (x := x) (j := 0) (by omega)))
              have hz45 := inB_size false (exW (d - 1) (x.kid 0))
              refine s_call F_e52 (w0 rfl) ev_f (m3 (ev_t rfl rfl) (ev_t rfl rfl) (ev_t rfl rfl)) (args := #[.pointer (some ⟨g, 0, none⟩), .agg #[.int .i8 ((x.kid 0).op), .string ((x.kid 0).t.v), .int .i8 ((x.kid 0).t.l.k), .int .i64 ((x.kid 0).t.l.n), .string ((x.kid 0).t.l.s), .slice A15 ((x.kid 0).kids.length) c16], .bool false]) rfl (p_side (d - 1) (x.kid 0) A15 c16 false g (s0 ++ (catL [(⟨#[45]⟩ : ByteArray)])) wz _ (Ext.trans (Wr.after wr29 (Ext.trans (Keep.then_ (Ext.trans (Ext.trans x0 (NewB.ext n3)) (NewB.ext n22)) (Wrote.keep k24) (fun i_ hi_ h_ => by have a_ := NewB.eq n22; have b_ := Keep.size (Ext.trans x0 (NewB.ext n3)); omega)) (NewB.ext n27)) rfl) x31) tb (BW.ext (Wr.bw wr29) x31) ho17 hr18 (exKid0 hb_ (by omega)) hz44 (by (try simp only [catL, ByteArray.size_append, z0, z1]); omega) (fun A_ c_ w_ s_ ho_ hr_ x_ hbw_ hs_ => ih (by omega) 0 _ (kid_there (x := x) (j := 0) (by omega)) (exKid0 hb_ (by omega)) A_ c_ w_ s_ ho_ hr_ x_ hbw_ hs_)) ?_
              rintro _ w46 ⟨rfl, wr47⟩
              refine c_done ?_
              refine n_block ?_
              refine ret0 rfl ?_
              exact ⟨_, rfl, rfl, Wr.cast (Wr.then_ (Wr.ext (Wr.then_ (Wr.of_ext hb (Ext.trans (Keep.then_ (Ext.trans (NewB.ext n3) (NewB.ext n22)) (Wrote.keep k24) (fun i_ hi_ h_ => by have a_ := NewB.eq n22; have b_ := Keep.size (NewB.ext n3); omega)) (NewB.ext n27)) hB_) wr29) x31 hB_) wr47) (by rw [exW_pos hd0_]; first | (rw [if_pos (by omega)]; done) | (rw [if_neg (by omega), if_pos (by omega)]; simp only [inB, if_true, catL, app_nil, app_assoc]; done) | (have hf_ := fast_neg (x := x) (by omega); rw [if_neg (by omega), if_neg (by omega), if_pos (by omega), show (decide (fast (x.kid 0) < 3) || numB (x.kid 0)) = false by simp only [hf_] at *; simp [numB, *]]; simp only [catL, app_nil, app_assoc]; done) | (rw [if_neg (by omega), if_neg (by omega), if_neg (by omega)]; simp only [catL, app_nil, app_assoc]; done))⟩
          · refine t_val (v := .bool false) (wy rfl rfl rfl rfl) (r_move (v := .bool false) (vb (ev_t rfl rfl) (decide_eq_false h38))) ?_
            refine t_skip (wn rfl rfl rfl rfl rfl) ?_
            refine t_skip (wn rfl rfl rfl rfl rfl) ?_
            refine t_skip (wn rfl rfl rfl rfl rfl) ?_
            refine t_skip (wn rfl rfl rfl rfl rfl) ?_
            refine t_skip (wn rfl rfl rfl rfl rfl) ?_
            refine t_val (v := .bool false) (wy rfl rfl rfl rfl) (r_pick0 (v := .bool false) (ev_t rfl rfl) ev_c) ?_
            refine t_val (v := .bool false) (wy rfl rfl rfl rfl) (r_move (v := .bool false) (ev_t rfl rfl)) ?_
            refine t_skip (wn rfl rfl rfl rfl rfl) ?_
            refine t_skip (wn rfl rfl rfl rfl rfl) ?_
            refine t_skip (wn rfl rfl rfl rfl rfl) ?_
            refine t_skip (wn rfl rfl rfl rfl rfl) ?_
            refine t_skip (wn rfl rfl rfl rfl rfl) ?_
            refine t_val (v := .bool false) (wy rfl rfl rfl rfl) (r_pick0 (v := .bool false) (ev_t rfl rfl) ev_c) ?_
            refine t_val (v := .bool false) (w0 rfl) (r_pick0 (v := .bool false) (ev_t rfl rfl) (ev_t rfl rfl)) ?_
            refine t_done ?_
            have hz48 := exW_size (d - 1) (x.kid 0) (exKid0 hb_ (by omega)) (Ex.Ok.kid hk_ (kid_there (x := x) (j := 0) (by omega)))
            have hz49 := inB_size false (exW (d - 1) (x.kid 0))
            refine s_call F_e52 (w0 rfl) ev_f (m3 (ev_t rfl rfl) (ev_t rfl rfl) (ev_t rfl rfl)) (args := #[.pointer (some ⟨g, 0, none⟩), .agg #[.int .i8 ((x.kid 0).op), .string ((x.kid 0).t.v), .int .i8 ((x.kid 0).t.l.k), .int .i64 ((x.kid 0).t.l.n), .string ((x.kid 0).t.l.s), .slice A15 ((x.kid 0).kids.length) c16], .bool false]) rfl (p_side (d - 1) (x.kid 0) A15 c16 false g (s0 ++ (catL [(⟨#[45]⟩ : ByteArray)])) wz _ (Ext.trans (Wr.after wr29 (Ext.trans (Keep.then_ (Ext.trans (Ext.trans x0 (NewB.ext n3)) (NewB.ext n22)) (Wrote.keep k24) (fun i_ hi_ h_ => by have a_ := NewB.eq n22; have b_ := Keep.size (Ext.trans x0 (NewB.ext n3)); omega)) (NewB.ext n27)) rfl) x31) tb (BW.ext (Wr.bw wr29) x31) ho17 hr18 (exKid0 hb_ (by omega)) hz48 (by (try simp only [catL, ByteArray.size_append, z0, z1]); omega) (fun A_ c_ w_ s_ ho_ hr_ x_ hbw_ hs_ => ih (by omega) 0 _ (kid_there (x := x) (j := 0) (by omega)) (exKid0 hb_ (by omega)) A_ c_ w_ s_ ho_ hr_ x_ hbw_ hs_)) ?_
            rintro _ w50 ⟨rfl, wr51⟩
            refine c_done ?_
            refine n_block ?_
            refine ret0 rfl ?_
            exact ⟨_, rfl, rfl, Wr.cast (Wr.then_ (Wr.ext (Wr.then_ (Wr.of_ext hb (Ext.trans (Keep.then_ (Ext.trans (NewB.ext n3) (NewB.ext n22)) (Wrote.keep k24) (fun i_ hi_ h_ => by have a_ := NewB.eq n22; have b_ := Keep.size (NewB.ext n3); omega)) (NewB.ext n27)) hB_) wr29) x31 hB_) wr51) (by rw [exW_pos hd0_]; first | (rw [if_pos (by omega)]; done) | (rw [if_neg (by omega), if_pos (by omega)]; simp only [inB, if_true, catL, app_nil, app_assoc]; done) | (have hf_ := fast_neg (x := x) (by omega); rw [if_neg (by omega), if_neg (by omega), if_pos (by omega), show (decide (fast (x.kid 0) < 3) || numB (x.kid 0)) = false by simp only [hf_] at *; simp [numB, *]]; simp only [catL, app_nil, app_assoc]; done) | (rw [if_neg (by omega), if_neg (by omega), if_neg (by omega)]; simp only [catL, app_nil, app_assoc]; done))⟩
        · refine t_val (v := .bool false) (wy rfl rfl rfl rfl) (r_move (v := .bool false) (vb (ev_t rfl rfl) (decide_eq_false h37))) ?_
          refine t_skip (wn rfl rfl rfl rfl rfl) ?_
          refine t_skip (wn rfl rfl rfl rfl rfl) ?_
          refine t_skip (wn rfl rfl rfl rfl rfl) ?_
          refine t_skip (wn rfl rfl rfl rfl rfl) ?_
          refine t_val (v := .bool false) (wy rfl rfl rfl rfl) (r_pick0 (v := .bool false) (ev_t rfl rfl) ev_c) ?_
          refine t_val (v := .bool false) (wy rfl rfl rfl rfl) (r_move (v := .bool false) (ev_t rfl rfl)) ?_
          refine t_skip (wn rfl rfl rfl rfl rfl) ?_
          refine t_skip (wn rfl rfl rfl rfl rfl) ?_
          refine t_skip (wn rfl rfl rfl rfl rfl) ?_
          refine t_skip (wn rfl rfl rfl rfl rfl) ?_
          refine t_skip (wn rfl rfl rfl rfl rfl) ?_
          refine t_val (v := .bool false) (wy rfl rfl rfl rfl) (r_pick0 (v := .bool false) (ev_t rfl rfl) ev_c) ?_
          refine t_val (v := .bool false) (wy rfl rfl rfl rfl) (r_move (v := .bool false) (ev_t rfl rfl)) ?_
          refine t_skip (wn rfl rfl rfl rfl rfl) ?_
          refine t_skip (wn rfl rfl rfl rfl rfl) ?_
          refine t_skip (wn rfl rfl rfl rfl rfl) ?_
          refine t_skip (wn rfl rfl rfl rfl rfl) ?_
          refine t_skip (wn rfl rfl rfl rfl rfl) ?_
          refine t_val (v := .bool false) (wy rfl rfl rfl rfl) (r_pick0 (v := .bool false) (ev_t rfl rfl) ev_c) ?_
          refine t_val (v := .bool false) (w0 rfl) (r_pick0 (v := .bool false) (ev_t rfl rfl) (ev_t rfl rfl)) ?_
          refine t_done ?_
          have hz52 := exW_size (d - 1) (x.kid 0) (exKid0 hb_ (by omega)) (Ex.Ok.kid hk_ (kid_there (x := x) (j := 0) (by omega)))
          have hz53 := inB_size false (exW (d - 1) (x.kid 0))
          refine s_call F_e52 (w0 rfl) ev_f (m3 (ev_t rfl rfl) (ev_t rfl rfl) (ev_t rfl rfl)) (args := #[.pointer (some ⟨g, 0, none⟩), .agg #[.int .i8 ((x.kid 0).op), .string ((x.kid 0).t.v), .int .i8 ((x.kid 0).t.l.k), .int .i64 ((x.kid 0).t.l.n), .string ((x.kid 0).t.l.s), .slice A15 ((x.kid 0).kids.length) c16], .bool false]) rfl (p_side (d - 1) (x.kid 0) A15 c16 false g (s0 ++ (catL [(⟨#[45]⟩ : ByteArray)])) wz _ (Ext.trans (Wr.after wr29 (Ext.trans (Keep.then_ (Ext.trans (Ext.trans x0 (NewB.ext n3)) (NewB.ext n22)) (Wrote.keep k24) (fun i_ hi_ h_ => by have a_ := NewB.eq n22; have b_ := Keep.size (Ext.trans x0 (NewB.ext n3)); omega)) (NewB.ext n27)) rfl) x31) tb (BW.ext (Wr.bw wr29) x31) ho17 hr18 (exKid0 hb_ (by omega)) hz52 (by (try simp only [catL, ByteArray.size_append, z0, z1]); omega) (fun A_ c_ w_ s_ ho_ hr_ x_ hbw_ hs_ => ih (by omega) 0 _ (kid_there (x := x) (j := 0) (by omega)) (exKid0 hb_ (by omega)) A_ c_ w_ s_ ho_ hr_ x_ hbw_ hs_)) ?_
          rintro _ w54 ⟨rfl, wr55⟩
          refine c_done ?_
          refine n_block ?_
          refine ret0 rfl ?_
          exact ⟨_, rfl, rfl, Wr.cast (Wr.then_ (Wr.ext (Wr.then_ (Wr.of_ext hb (Ext.trans (Keep.then_ (Ext.trans (NewB.ext n3) (NewB.ext n22)) (Wrote.keep k24) (fun i_ hi_ h_ => by have a_ := NewB.eq n22; have b_ := Keep.size (NewB.ext n3); omega)) (NewB.ext n27)) hB_) wr29) x31 hB_) wr55) (by rw [exW_pos hd0_]; first | (rw [if_pos (by omega)]; done) | (rw [if_neg (by omega), if_pos (by omega)]; simp only [inB, if_true, catL, app_nil, app_assoc]; done) | (have hf_ := fast_neg (x := x) (by omega); rw [if_neg (by omega), if_neg (by omega), if_pos (by omega), show (decide (fast (x.kid 0) < 3) || numB (x.kid 0)) = false by simp only [hf_] at *; simp [numB, *]]; simp only [catL, app_nil, app_assoc]; done) | (rw [if_neg (by omega), if_neg (by omega), if_neg (by omega)]; simp only [catL, app_nil, app_assoc]; done))⟩
    · refine c_cond0 (vb (ev_t rfl rfl) (decide_eq_false h7)) ?_
      refine c_seq ?_
      refine c_reg ?_
      refine s_field (off := 0) (o' := 0) F_f31_0 (ev_t rfl rfl) rfl (w0 rfl) ?_
      refine s_load (v := .int .i8 x.op) F_o23 (ev_t rfl rfl) (cell_of_blk (i := 0) (NewB.blk n3) rfl) (w0 rfl) ?_
      refine s_cmp (r := decide (8 ≤ x.op)) (ev_t rfl rfl) ev_c rfl (w0 rfl) ?_
      refine s_assign (v := .bool (decide (8 ≤ x.op))) (ev_t rfl rfl) (w0 rfl) ?_
      refine c_done ?_
      refine n_then ?_
      by_cases h56 : 8 ≤ x.op
      · refine c_cond1 (vb (ev_t rfl rfl) (decide_eq_true h56)) ?_
        refine c_seq ?_
        refine c_reg ?_
        refine s_move (v := .pointer (some ⟨g, 0, none⟩)) (ev_t rfl rfl) (w0 rfl) ?_
        refine s_field (off := 0) (o' := 0) F_f31_0 (ev_t rfl rfl) rfl (w0 rfl) ?_
        refine s_load (v := .int .i8 x.op) F_o23 (ev_t rfl rfl) (cell_of_blk (i := 0) (NewB.blk n3) rfl) (w0 rfl) ?_
        refine s_indexA (j := x.op.toNat) F_ar105 ev_g (ev_t rfl rfl) (by omega) (by omega) (w0 rfl) ?_
        refine s_load (v := .string (wordW x.op)) F_o9 (ev_t rfl rfl) (Tabs.words_at (Tabs.ext tb (Ext.trans x0 (NewB.ext n3))) F_gn1 (by omega)) (w0 rfl) ?_
        refine s_bslice (vs := [(0, .string (wordW x.op))]) (cs := #[.string (wordW x.op)]) (b1 (ev_t rfl rfl)) (bs122_1_0s (wordW x.op)) (w0 rfl) ?_
        intro w58 g57 n59
        have ne_g57 : g57 ≠ g := by have a_ := NewB.eq n59; have b_ := BW.lt (BW.ext hb (NewB.ext n3)); omega
        refine s_call F_e35 (w0 rfl) ev_f (m2 (ev_t rfl rfl) (ev_t rfl rfl)) (args := #[.pointer (some ⟨g, 0, none⟩), .slice (some ⟨g57, 0, none⟩) 1 1]) rfl (p_put 85 _ g g57 (s0) [wordW x.op] _ (BW.ext (BW.ext hb (NewB.ext n3)) (NewB.ext n59)) (Nat.le_trans (Nat.le_trans hB_ (Keep.size (NewB.ext n3))) (Keep.size (NewB.ext n59))) (by decide) F_lies85 (NewB.blk n59) (by simp only [catL, ByteArray.size_append, z0, z1, z2, z3, z4, z5, z6]; omega) (by simp)) ?_
        rintro _ w60 ⟨rfl, wr61⟩
        refine c_done ?_
        refine n_then ?_
        refine c_reg ?_
        refine s_move (v := .pointer (some ⟨g, 0, none⟩)) (ev_t rfl rfl) (w0 rfl) ?_
        refine s_field (off := 5) (o' := 5) F_f31_2 (ev_t rfl rfl) rfl (w0 rfl) ?_
        refine s_load (v := .slice A x.kids.length c) F_o29 (ev_t rfl rfl) (cell_of_blk (i := 5) (Wr.blk wr61 (Ext.blk (NewB.ext n59) (NewB.blk n3)) (Or.inl (by decide)) ne_g1) rfl) (w0 rfl) ?_
        obtain ⟨b62, o63, x64, csx64, hA65, hx66, hR67, hc68⟩ := Row.at_ hr 0 (by omega)
        obtain rfl := Ex.kid_of hx66
        obtain ⟨A69, c70, rfl, ho71, hr72⟩ := RE.open_ hR67
        refine s_indexR (j := 0) F_l29 (ev_t rfl rfl) hA65 ev_c rfl (by omega) (w0 rfl) ?_
        have hk73 := ex_ops (exKid0 hb_ (by omega))
        refine s_loadL (cs := [.int .i8 ((x.kid 0).op), .string ((x.kid 0).t.v), .int .i8 ((x.kid 0).t.l.k), .int .i64 ((x.kid 0).t.l.n), .string ((x.kid 0).t.l.s), .slice A69 ((x.kid 0).kids.length) c70]) (ca := #[.int .i8 ((x.kid 0).op), .string ((x.kid 0).t.v), .int .i8 ((x.kid 0).t.l.k), .int .i64 ((x.kid 0).t.l.n), .string ((x.kid 0).t.l.s), .slice A69 ((x.kid 0).kids.length) c70]) F_m31 (ev_t rfl rfl) rfl rfl (sub_cells (cells_ext (Wr.after wr61 (Ext.trans (Ext.trans x0 (NewB.ext n3)) (NewB.ext n59)) rfl) hc68) 0 (cs2 := [.int .i8 ((x.kid 0).op), .string ((x.kid 0).t.v), .int .i8 ((x.kid 0).t.l.k), .int .i64 ((x.kid 0).t.l.n), .string ((x.kid 0).t.l.s), .slice A69 ((x.kid 0).kids.length) c70]) rfl) (w0 rfl) ?_
        have hz74 := exW_size (d - 1) (x.kid 0) (exKid0 hb_ (by omega)) (Ex.Ok.kid hk_ (kid_there (x := x) (j := 0) (by omega)))
        have hz75 := inB_size true (exW (d - 1) (x.kid 0))
        refine s_call F_e52 (w0 rfl) ev_f (m3 (ev_t rfl rfl) (ev_t rfl rfl) ev_c) (args := #[.pointer (some ⟨g, 0, none⟩), .agg #[.int .i8 ((x.kid 0).op), .string ((x.kid 0).t.v), .int .i8 ((x.kid 0).t.l.k), .int .i64 ((x.kid 0).t.l.n), .string ((x.kid 0).t.l.s), .slice A69 ((x.kid 0).kids.length) c70], .bool true]) rfl (p_side (d - 1) (x.kid 0) A69 c70 true g (s0 ++ (catL [wordW x.op])) wz _ (Wr.after wr61 (Ext.trans (Ext.trans x0 (NewB.ext n3)) (NewB.ext n59)) rfl) tb (Wr.bw wr61) ho71 hr72 (exKid0 hb_ (by omega)) hz74 (by (try simp only [catL, ByteArray.size_append, z0, z1]); omega) (fun A_ c_ w_ s_ ho_ hr_ x_ hbw_ hs_ => ih (by omega) 0 _ (kid_there (x := x) (j := 0) (by omega)) (exKid0 hb_ (by omega)) A_ c_ w_ s_ ho_ hr_ x_ hbw_ hs_)) ?_
        rintro _ w76 ⟨rfl, wr77⟩
        refine c_done ?_
        refine n_block ?_
        refine ret0 rfl ?_
        exact ⟨_, rfl, rfl, Wr.cast (Wr.then_ (Wr.then_ (Wr.of_ext hb (Ext.trans (NewB.ext n3) (NewB.ext n59)) hB_) wr61) wr77) (by rw [exW_pos hd0_]; first | (rw [if_pos (by omega)]; done) | (rw [if_neg (by omega), if_pos (by omega)]; simp only [inB, if_true, catL, app_nil, app_assoc]; done) | (have hf_ := fast_neg (x := x) (by omega); rw [if_neg (by omega), if_neg (by omega), if_pos (by omega), show (decide (fast (x.kid 0) < 3) || numB (x.kid 0)) = true by simp only [hf_] at *; simp [numB, *]]; simp only [catL, app_nil, app_assoc]; done) | (rw [if_neg (by omega), if_neg (by omega), if_neg (by omega)]; simp only [catL, app_nil, app_assoc]; done))⟩
      · refine c_cond0 (vb (ev_t rfl rfl) (decide_eq_false h56)) ?_
        refine c_seq ?_
        refine c_tail 17 mixed (by kernel_rfl) rfl rfl ?_
        intro w78 x79
        refine t_val (v := .pointer (some ⟨g, 0, none⟩)) (w0 rfl) (r_move (v := .pointer (some ⟨g, 0, none⟩)) (ev_t rfl rfl)) ?_
        refine t_val (v := .pointer (some ⟨g1, 5, none⟩)) (w0 rfl) (r_field (off := 5) (o' := 5) F_f31_2 (ev_t rfl rfl) rfl) ?_
        refine t_val (v := .slice A x.kids.length c) (w0 rfl) (r_load (v := .slice A x.kids.length c) F_o29 (ev_t rfl rfl) (cell_of_blk (i := 5) (Ext.blk x79 (NewB.blk n3)) rfl)) ?_
        obtain ⟨b80, o81, x82, csx82, hA83, hx84, hR85, hc86⟩ := Row.at_ hr 0 (by omega)
        obtain rfl := Ex.kid_of hx84
        obtain ⟨A87, c88, rfl, ho89, hr90⟩ := RE.open_ hR85
        refine t_val (v := .pointer (some ⟨b80, o81 + 0 * 6, none⟩)) (w0 rfl) (r_indexR (j := 0) F_l29 (ev_t rfl rfl) hA83 ev_c rfl (by omega)) ?_
        have hk91 := ex_ops (exKid0 hb_ (by omega))
        refine t_val (v := .agg #[.int .i8 ((x.kid 0).op), .string ((x.kid 0).t.v), .int .i8 ((x.kid 0).t.l.k), .int .i64 ((x.kid 0).t.l.n), .string ((x.kid 0).t.l.s), .slice A87 ((x.kid 0).kids.length) c88]) (w0 rfl) (r_loadL (cs := [.int .i8 ((x.kid 0).op), .string ((x.kid 0).t.v), .int .i8 ((x.kid 0).t.l.k), .int .i64 ((x.kid 0).t.l.n), .string ((x.kid 0).t.l.s), .slice A87 ((x.kid 0).kids.length) c88]) (ca := #[.int .i8 ((x.kid 0).op), .string ((x.kid 0).t.v), .int .i8 ((x.kid 0).t.l.k), .int .i64 ((x.kid 0).t.l.n), .string ((x.kid 0).t.l.s), .slice A87 ((x.kid 0).kids.length) c88]) F_m31 (ev_t rfl rfl) rfl rfl (sub_cells (cells_ext x79 (cells_ext (NewB.ext n3) (cells_ext x0 hc86))) 0 (cs2 := [.int .i8 ((x.kid 0).op), .string ((x.kid 0).t.v), .int .i8 ((x.kid 0).t.l.k), .int .i64 ((x.kid 0).t.l.n), .string ((x.kid 0).t.l.s), .slice A87 ((x.kid 0).kids.length) c88]) rfl)) ?_
        refine t_val (v := .pointer (some ⟨g1, 5, none⟩)) (w0 rfl) (r_field (off := 5) (o' := 5) F_f31_2 (ev_t rfl rfl) rfl) ?_
        refine t_val (v := .slice A x.kids.length c) (w0 rfl) (r_load (v := .slice A x.kids.length c) F_o29 (ev_t rfl rfl) (cell_of_blk (i := 5) (Ext.blk x79 (NewB.blk n3)) rfl)) ?_
        obtain ⟨b92, o93, x94, csx94, hA95, hx96, hR97, hc98⟩ := Row.at_ hr 0 (by omega)
        obtain rfl := Ex.kid_of hx96
        obtain ⟨A99, c100, rfl, ho101, hr102⟩ := RE.open_ hR97
        refine t_val (v := .pointer (some ⟨b92, o93 + 0 * 6, none⟩)) (w0 rfl) (r_indexR (j := 0) F_l29 (ev_t rfl rfl) hA95 ev_c rfl (by omega)) ?_
        have hk103 := ex_ops (exKid0 hb_ (by omega))
        refine t_val (v := .pointer (some ⟨b92, o93 + 0 * 6, none⟩)) (w0 rfl) (r_field (off := 0) (o' := o93 + 0 * 6) F_f31_0 (ev_t rfl rfl) rfl) ?_
        refine t_val (v := .int .i8 ((x.kid 0).op)) (w0 rfl) (r_load (v := .int .i8 ((x.kid 0).op)) F_o23 (ev_t rfl rfl) ((cells_ext x79 (cells_ext (NewB.ext n3) (cells_ext x0 hc98))) 0 _ rfl)) ?_
        refine t_val (v := .pointer (some ⟨0, 0 + ((x.kid 0).op).toNat * 1, none⟩)) (w0 rfl) (r_indexA (j := ((x.kid 0).op).toNat) F_ar104 ev_g (ev_t rfl rfl) (by omega) (by omega)) ?_
        refine t_val (v := .int .i64 (fast (x.kid 0))) (w0 rfl) (r_load (v := .int .i64 (fast (x.kid 0))) F_o3 (ev_t rfl rfl) (Tabs.hold_at (Tabs.ext tb (Ext.trans (Ext.trans x0 (NewB.ext n3)) x79)) F_gn0 (by omega))) ?_
        refine t_val (v := .pointer (some ⟨g1, 0, none⟩)) (w0 rfl) (r_field (off := 0) (o' := 0) F_f31_0 (ev_t rfl rfl) rfl) ?_
        refine t_val (v := .int .i8 x.op) (w0 rfl) (r_load (v := .int .i8 x.op) F_o23 (ev_t rfl rfl) (cell_of_blk (i := 0) (Ext.blk x79 (NewB.blk n3)) rfl)) ?_
        refine t_val (v := .pointer (some ⟨0, 0 + x.op.toNat * 1, none⟩)) (w0 rfl) (r_indexA (j := x.op.toNat) F_ar104 ev_g (ev_t rfl rfl) (by omega) (by omega)) ?_
        refine t_val (v := .int .i64 (fast x)) (w0 rfl) (r_load (v := .int .i64 (fast x)) F_o3 (ev_t rfl rfl) (Tabs.hold_at (Tabs.ext tb (Ext.trans (Ext.trans x0 (NewB.ext n3)) x79)) F_gn0 (by omega))) ?_
        refine t_val (v := .bool (decide (fast (x.kid 0) < fast x))) (w0 rfl) (r_cmp (r := decide (fast (x.kid 0) < fast x)) (ev_t rfl rfl) (ev_t rfl rfl) rfl) ?_
        refine t_done ?_
        have hz104 := exW_size (d - 1) (x.kid 0) (exKid0 hb_ (by omega)) (Ex.Ok.kid hk_ (kid_there (x := x) (j := 0) (by omega)))
        have hz105 := inB_size (decide (fast (x.kid 0) < fast x)) (exW (d - 1) (x.kid 0))
        refine s_call F_e52 (w0 rfl) ev_f (m3 (ev_t rfl rfl) (ev_t rfl rfl) (ev_t rfl rfl)) (args := #[.pointer (some ⟨g, 0, none⟩), .agg #[.int .i8 ((x.kid 0).op), .string ((x.kid 0).t.v), .int .i8 ((x.kid 0).t.l.k), .int .i64 ((x.kid 0).t.l.n), .string ((x.kid 0).t.l.s), .slice A87 ((x.kid 0).kids.length) c88], .bool (decide (fast (x.kid 0) < fast x))]) rfl (p_side (d - 1) (x.kid 0) A87 c88 (decide (fast (x.kid 0) < fast x)) g (s0) wz _ (Ext.trans (Ext.trans x0 (NewB.ext n3)) x79) tb (BW.ext (BW.ext hb (NewB.ext n3)) x79) ho89 hr90 (exKid0 hb_ (by omega)) hz104 (by (try simp only [catL, ByteArray.size_append, z0, z1]); omega) (fun A_ c_ w_ s_ ho_ hr_ x_ hbw_ hs_ => ih (by omega) 0 _ (kid_there (x := x) (j := 0) (by omega)) (exKid0 hb_ (by omega)) A_ c_ w_ s_ ho_ hr_ x_ hbw_ hs_)) ?_
        rintro _ w106 ⟨rfl, wr107⟩
        refine c_done ?_
        refine n_then ?_
        refine c_seq ?_
        refine c_reg ?_
        refine s_move (v := .pointer (some ⟨g, 0, none⟩)) (ev_t rfl rfl) (w0 rfl) ?_
        refine s_field (off := 0) (o' := 0) F_f31_0 (ev_t rfl rfl) rfl (w0 rfl) ?_
        refine s_load (v := .int .i8 x.op) F_o23 (ev_t rfl rfl) (cell_of_blk (i := 0) (Wr.blk wr107 (Ext.blk x79 (NewB.blk n3)) (Or.inl (by decide)) ne_g1) rfl) (w0 rfl) ?_
        refine s_indexA (j := x.op.toNat) F_ar106 ev_g (ev_t rfl rfl) (by omega) (by omega) (w0 rfl) ?_
        refine s_load (v := .string (signW x.op)) F_o9 (ev_t rfl rfl) (Tabs.signs_at (Tabs.ext tb (Wr.after wr107 (Ext.trans (Ext.trans x0 (NewB.ext n3)) x79) rfl)) F_gn2 (by omega)) (w0 rfl) ?_
        refine s_bslice (vs := [(0, .string (⟨#[32]⟩ : ByteArray)), (1, .string (signW x.op)), (2, .string (⟨#[32]⟩ : ByteArray))]) (cs := #[.string (⟨#[32]⟩ : ByteArray), .string (signW x.op), .string (⟨#[32]⟩ : ByteArray)]) (b3 ev_c (ev_t rfl rfl) ev_c) (bs122_3_0s_1s_2s (⟨#[32]⟩ : ByteArray) (signW x.op) (⟨#[32]⟩ : ByteArray)) (w0 rfl) ?_
        intro w109 g108 n110
        have ne_g108 : g108 ≠ g := by have a_ := NewB.eq n110; have b_ := BW.lt (Wr.bw wr107); omega
        refine s_call F_e35 (w0 rfl) ev_f (m2 (ev_t rfl rfl) (ev_t rfl rfl)) (args := #[.pointer (some ⟨g, 0, none⟩), .slice (some ⟨g108, 0, none⟩) 3 3]) rfl (p_put 85 _ g g108 (s0 ++ (inB (decide (fast (x.kid 0) < fast x)) (exW (d - 1) (x.kid 0)))) [(⟨#[32]⟩ : ByteArray), signW x.op, (⟨#[32]⟩ : ByteArray)] _ (BW.ext (Wr.bw wr107) (NewB.ext n110)) (Nat.le_trans (Nat.le_trans (Nat.le_trans (Nat.le_trans hB_ (Keep.size (NewB.ext n3))) (Keep.size x79)) (Wr.size wr107)) (Keep.size (NewB.ext n110))) (by decide) F_lies85 (NewB.blk n110) (by simp only [catL, ByteArray.size_append, z0, z1, z2, z3, z4, z5, z6]; omega) (by simp)) ?_
        rintro _ w111 ⟨rfl, wr112⟩
        refine c_done ?_
        refine n_then ?_
        refine c_tail 17 mixed (by kernel_rfl) rfl rfl ?_
        intro w113 x114
        refine t_val (v := .pointer (some ⟨g, 0, none⟩)) (w0 rfl) (r_move (v := .pointer (some ⟨g, 0, none⟩)) (ev_t rfl rfl)) ?_
        refine t_val (v := .pointer (some ⟨g1, 5, none⟩)) (w0 rfl) (r_field (off := 5) (o' := 5) F_f31_2 (ev_t rfl rfl) rfl) ?_
        refine t_val (v := .slice A x.kids.length c) (w0 rfl) (r_load (v := .slice A x.kids.length c) F_o29 (ev_t rfl rfl) (cell_of_blk (i := 5) (Ext.blk x114 (Wr.blk wr112 (Ext.blk (NewB.ext n110) (Wr.blk wr107 (Ext.blk x79 (NewB.blk n3)) (Or.inl (by decide)) ne_g1)) (Or.inl (by decide)) ne_g1)) rfl)) ?_
        obtain ⟨b115, o116, x117, csx117, hA118, hx119, hR120, hc121⟩ := Row.at_ hr 1 (by omega)
        obtain rfl := Ex.kid_of hx119
        obtain ⟨A122, c123, rfl, ho124, hr125⟩ := RE.open_ hR120
        refine t_val (v := .pointer (some ⟨b115, o116 + 1 * 6, none⟩)) (w0 rfl) (r_indexR (j := 1) F_l29 (ev_t rfl rfl) hA118 ev_c rfl (by omega)) ?_
        have hk126 := ex_ops ((ex_two hb_ (by omega) (by omega) (by omega)).2.2)
        refine t_val (v := .agg #[.int .i8 ((x.kid 1).op), .string ((x.kid 1).t.v), .int .i8 ((x.kid 1).t.l.k), .int .i64 ((x.kid 1).t.l.n), .string ((x.kid 1).t.l.s), .slice A122 ((x.kid 1).kids.length) c123]) (w0 rfl) (r_loadL (cs := [.int .i8 ((x.kid 1).op), .string ((x.kid 1).t.v), .int .i8 ((x.kid 1).t.l.k), .int .i64 ((x.kid 1).t.l.n), .string ((x.kid 1).t.l.s), .slice A122 ((x.kid 1).kids.length) c123]) (ca := #[.int .i8 ((x.kid 1).op), .string ((x.kid 1).t.v), .int .i8 ((x.kid 1).t.l.k), .int .i64 ((x.kid 1).t.l.n), .string ((x.kid 1).t.l.s), .slice A122 ((x.kid 1).kids.length) c123]) F_m31 (ev_t rfl rfl) rfl rfl (sub_cells (cells_ext (Ext.trans (Wr.after wr112 (Ext.trans (Wr.after wr107 (Ext.trans (Ext.trans x0 (NewB.ext n3)) x79) rfl) (NewB.ext n110)) rfl) x114) hc121) 0 (cs2 := [.int .i8 ((x.kid 1).op), .string ((x.kid 1).t.v), .int .i8 ((x.kid 1).t.l.k), .int .i64 ((x.kid 1).t.l.n), .string ((x.kid 1).t.l.s), .slice A122 ((x.kid 1).kids.length) c123]) rfl)) ?_
        refine t_val (v := .pointer (some ⟨g1, 5, none⟩)) (w0 rfl) (r_field (off := 5) (o' := 5) F_f31_2 (ev_t rfl rfl) rfl) ?_
        refine t_val (v := .slice A x.kids.length c) (w0 rfl) (r_load (v := .slice A x.kids.length c) F_o29 (ev_t rfl rfl) (cell_of_blk (i := 5) (Ext.blk x114 (Wr.blk wr112 (Ext.blk (NewB.ext n110) (Wr.blk wr107 (Ext.blk x79 (NewB.blk n3)) (Or.inl (by decide)) ne_g1)) (Or.inl (by decide)) ne_g1)) rfl)) ?_
        obtain ⟨b127, o128, x129, csx129, hA130, hx131, hR132, hc133⟩ := Row.at_ hr 1 (by omega)
        obtain rfl := Ex.kid_of hx131
        obtain ⟨A134, c135, rfl, ho136, hr137⟩ := RE.open_ hR132
        refine t_val (v := .pointer (some ⟨b127, o128 + 1 * 6, none⟩)) (w0 rfl) (r_indexR (j := 1) F_l29 (ev_t rfl rfl) hA130 ev_c rfl (by omega)) ?_
        have hk138 := ex_ops ((ex_two hb_ (by omega) (by omega) (by omega)).2.2)
        refine t_val (v := .pointer (some ⟨b127, o128 + 1 * 6, none⟩)) (w0 rfl) (r_field (off := 0) (o' := o128 + 1 * 6) F_f31_0 (ev_t rfl rfl) rfl) ?_
        refine t_val (v := .int .i8 ((x.kid 1).op)) (w0 rfl) (r_load (v := .int .i8 ((x.kid 1).op)) F_o23 (ev_t rfl rfl) ((cells_ext (Ext.trans (Wr.after wr112 (Ext.trans (Wr.after wr107 (Ext.trans (Ext.trans x0 (NewB.ext n3)) x79) rfl) (NewB.ext n110)) rfl) x114) hc133) 0 _ rfl)) ?_
        refine t_val (v := .pointer (some ⟨0, 0 + ((x.kid 1).op).toNat * 1, none⟩)) (w0 rfl) (r_indexA (j := ((x.kid 1).op).toNat) F_ar104 ev_g (ev_t rfl rfl) (by omega) (by omega)) ?_
        refine t_val (v := .int .i64 (fast (x.kid 1))) (w0 rfl) (r_load (v := .int .i64 (fast (x.kid 1))) F_o3 (ev_t rfl rfl) (Tabs.hold_at (Tabs.ext tb (Ext.trans (Wr.after wr112 (Ext.trans (Wr.after wr107 (Ext.trans (Ext.trans x0 (NewB.ext n3)) x79) rfl) (NewB.ext n110)) rfl) x114)) F_gn0 (by omega))) ?_
        refine t_val (v := .pointer (some ⟨g1, 0, none⟩)) (w0 rfl) (r_field (off := 0) (o' := 0) F_f31_0 (ev_t rfl rfl) rfl) ?_
        refine t_val (v := .int .i8 x.op) (w0 rfl) (r_load (v := .int .i8 x.op) F_o23 (ev_t rfl rfl) (cell_of_blk (i := 0) (Ext.blk x114 (Wr.blk wr112 (Ext.blk (NewB.ext n110) (Wr.blk wr107 (Ext.blk x79 (NewB.blk n3)) (Or.inl (by decide)) ne_g1)) (Or.inl (by decide)) ne_g1)) rfl)) ?_
        refine t_val (v := .pointer (some ⟨0, 0 + x.op.toNat * 1, none⟩)) (w0 rfl) (r_indexA (j := x.op.toNat) F_ar104 ev_g (ev_t rfl rfl) (by omega) (by omega)) ?_
        refine t_val (v := .int .i64 (fast x)) (w0 rfl) (r_load (v := .int .i64 (fast x)) F_o3 (ev_t rfl rfl) (Tabs.hold_at (Tabs.ext tb (Ext.trans (Wr.after wr112 (Ext.trans (Wr.after wr107 (Ext.trans (Ext.trans x0 (NewB.ext n3)) x79) rfl) (NewB.ext n110)) rfl) x114)) F_gn0 (by omega))) ?_
        refine t_val (v := .bool (decide (fast (x.kid 1) ≤ fast x))) (w0 rfl) (r_cmp (r := decide (fast (x.kid 1) ≤ fast x)) (ev_t rfl rfl) (ev_t rfl rfl) rfl) ?_
        refine t_done ?_
        have hz139 := exW_size (d - 1) (x.kid 1) (ex_two hb_ (by omega) (by omega) (by omega)).2.2 (Ex.Ok.kid hk_ (kid_there (x := x) (j := 1) (by omega)))
        have hz140 := inB_size (decide (fast (x.kid 1) ≤ fast x)) (exW (d - 1) (x.kid 1))
        refine s_call F_e52 (w0 rfl) ev_f (m3 (ev_t rfl rfl) (ev_t rfl rfl) (ev_t rfl rfl)) (args := #[.pointer (some ⟨g, 0, none⟩), .agg #[.int .i8 ((x.kid 1).op), .string ((x.kid 1).t.v), .int .i8 ((x.kid 1).t.l.k), .int .i64 ((x.kid 1).t.l.n), .string ((x.kid 1).t.l.s), .slice A122 ((x.kid 1).kids.length) c123], .bool (decide (fast (x.kid 1) ≤ fast x))]) rfl (p_side (d - 1) (x.kid 1) A122 c123 (decide (fast (x.kid 1) ≤ fast x)) g (s0 ++ (inB (decide (fast (x.kid 0) < fast x)) (exW (d - 1) (x.kid 0))) ++ (catL [(⟨#[32]⟩ : ByteArray), signW x.op, (⟨#[32]⟩ : ByteArray)])) wz _ (Ext.trans (Wr.after wr112 (Ext.trans (Wr.after wr107 (Ext.trans (Ext.trans x0 (NewB.ext n3)) x79) rfl) (NewB.ext n110)) rfl) x114) tb (BW.ext (Wr.bw wr112) x114) ho124 hr125 (ex_two hb_ (by omega) (by omega) (by omega)).2.2 hz139 (by (try simp only [catL, ByteArray.size_append, z0, z1]); omega) (fun A_ c_ w_ s_ ho_ hr_ x_ hbw_ hs_ => ih (by omega) 1 _ (kid_there (x := x) (j := 1) (by omega)) (ex_two hb_ (by omega) (by omega) (by omega)).2.2 A_ c_ w_ s_ ho_ hr_ x_ hbw_ hs_)) ?_
        rintro _ w141 ⟨rfl, wr142⟩
        refine c_done ?_
        refine n_block ?_
        refine ret0 rfl ?_
        exact ⟨_, rfl, rfl, Wr.cast (Wr.then_ (Wr.ext (Wr.then_ (Wr.ext (Wr.then_ (Wr.of_ext hb (Ext.trans (NewB.ext n3) x79) hB_) wr107) (NewB.ext n110) hB_) wr112) x114 hB_) wr142) (by rw [exW_pos hd0_]; first | (rw [if_pos (by omega)]; done) | (rw [if_neg (by omega), if_pos (by omega)]; simp only [inB, if_true, catL, app_nil, app_assoc]; done) | (have hf_ := fast_neg (x := x) (by omega); rw [if_neg (by omega), if_neg (by omega), if_pos (by omega), show (decide (fast (x.kid 0) < 3) || numB (x.kid 0)) = (decide (fast (x.kid 0) < fast x)) by simp only [hf_] at *; simp [numB, *]]; simp only [catL, app_nil, app_assoc]; done) | (rw [if_neg (by omega), if_neg (by omega), if_neg (by omega)]; simp only [catL, app_nil, app_assoc]; done))⟩
theorem p_expr (g : Nat) (wz : World) (tb : Tabs Tryd.prog wz) : ∀ (d : Nat) (x : Ex) (A : Option Addr) (c : Nat) (w : World) (s0 : ByteArray), d ≤ 8 → exB d x = true → x.okc c → Row RE 6 wz A x.kids → Ext wz w → BW 5 85 wz.heap.size w g s0 → s0.size + 2 ^ d * 900 ≤ 1000000000000 → Rt Tryd.prog 24 #[.pointer (some ⟨g, 0, none⟩), .agg #[.int .i8 x.op, .string x.t.v, .int .i8 x.t.l.k, .int .i64 x.t.l.n, .string x.t.l.s, .slice A x.kids.length c]] w fun v w' => v = .tuple #[] ∧ Wr 5 85 wz.heap.size g (s0 ++ exW d x) w w' := by
  intro d
  induction d with
  | zero =>
    intro x A c w s0 hd hb_ ho hr x0 hb hs
    simp [exB] at hb_
  | succ d ih =>
    intro x A c w s0 hd hb_ ho hr x0 hb hs
    exact p_expr_step (d + 1) x A c g s0 wz w x0 tb hb ho hr hd hb_ hs (fun _ j y hj hy A c w s0 ho hr x0 hb hs => ih y A c w s0 (by omega) hy ho hr x0 hb hs)
end Go.Proofs.Dw
