/- YtjjkfbjidpolmaaDoorDD: part of the proof of this seat, by an AI agent: walks of the functions that the law reaches. No condition of its own but those that its theorems state. -/
import Derived.Test.YtjjkfbjidpolmaaDoorDC
set_option linter.unusedVariables false
set_option linter.unusedSimpArgs false
set_option maxRecDepth 10000
namespace Go.Proofs.Dw
open Go Go.Wk Go.Proofs Go.Lib
attribute [local irreducible] Go.wpList Go.wpStill Go.wpQuiet Go.Code.wp Go.Calls
theorem F_e20 : enterable Tryd.prog 20 = true := by kernel_rfl
theorem F_e21 : enterable Tryd.prog 21 = true := by kernel_rfl
theorem F_e43 : enterable Tryd.prog 43 = true := by kernel_rfl
theorem F_e45 : enterable Tryd.prog 45 = true := by kernel_rfl
theorem F_e46 : enterable Tryd.prog 46 = true := by kernel_rfl
theorem F_e47 : enterable Tryd.prog 47 = true := by kernel_rfl
theorem F_e48 : enterable Tryd.prog 48 = true := by kernel_rfl
theorem F_e49 : enterable Tryd.prog 49 = true := by kernel_rfl
theorem F_sz31 : (Tryd.prog.info? 31).map (·.size) = some 6 := by kernel_rfl
theorem F_z31 : (Tryd.prog.info? 31).bind (·.zero) = some (.agg #[.int .i8 0, .string (⟨#[]⟩ : ByteArray), .int .i8 0, .int .i64 0, .string (⟨#[]⟩ : ByteArray), .slice none 0 0]) := by kernel_rfl
set_option maxHeartbeats 4000000 in
theorem r4_CheckExpr (x : Ex) (A : Option Addr) (c : Nat) (w : World) (ho : x.okc c) (hr : Row RE 6 w A x.kids) :
    Rt Tryd.prog 20 #[.agg #[.int .i8 x.op, .string x.t.v, .int .i8 x.t.l.k, .int .i64 x.t.l.n, .string x.t.l.s, .slice A x.kids.length c]] w fun v w' => v = .int .i64 (code (exB 8 x)) ∧ Ext w w' := by
  refine enter Tryd.func20 rfl (l := [.agg #[.int .i8 x.op, .string x.t.v, .int .i8 x.t.l.k, .int .i64 x.t.l.n, .string x.t.l.s, .slice A x.kids.length c]]) rfl Tryd.ntmps20 (Nat.le_of_ble_eq_true rfl) ?_
  have hl_ := Ex.okc.l ho
  have hc_ := Ex.okc.c ho
  refine c_seq ?_
  refine c_reg ?_
  refine s_box (v := .agg #[.int .i8 x.op, .string x.t.v, .int .i8 x.t.l.k, .int .i64 x.t.l.n, .string x.t.l.s, .slice A x.kids.length c]) (cs := #[.int .i8 x.op, .string x.t.v, .int .i8 x.t.l.k, .int .i64 x.t.l.n, .string x.t.l.s, .slice A x.kids.length c]) (w0 rfl) (ev_t rfl rfl) rfl ?_
  intro w2 g1 n3
  refine s_assign (v := .int .i64 0) ev_c (w0 rfl) ?_
  refine c_done ?_
  refine n_then ?_
  refine c_seq ?_
  refine c_reg ?_
  refine s_loadL (cs := [.int .i8 x.op, .string x.t.v, .int .i8 x.t.l.k, .int .i64 x.t.l.n, .string x.t.l.s, .slice A x.kids.length c]) (ca := #[.int .i8 x.op, .string x.t.v, .int .i8 x.t.l.k, .int .i64 x.t.l.n, .string x.t.l.s, .slice A x.kids.length c]) F_m31 (ev_t rfl rfl) rfl rfl (blk_cells (NewB.blk n3) 0 (cs := [.int .i8 x.op, .string x.t.v, .int .i8 x.t.l.k, .int .i64 x.t.l.n, .string x.t.l.s, .slice A x.kids.length c]) rfl) (w0 rfl) ?_
  refine s_call F_e44 (w0 rfl) ev_f (m2 (ev_t rfl rfl) ev_c) (args := #[.agg #[.int .i8 x.op, .string x.t.v, .int .i8 x.t.l.k, .int .i64 x.t.l.n, .string x.t.l.s, .slice A x.kids.length c], .int .i64 8]) rfl (r4_expr 8 x A c _ (by decide) ho (Row.extE hr (NewB.ext n3))) ?_
  rintro _ w5 ⟨rfl, x4⟩
  refine s_call F_e43 (w0 rfl) ev_f (m1 (ev_t rfl rfl)) (args := #[.bool (exB 8 x)]) rfl (r4_said (exB 8 x) _) ?_
  rintro _ w7 ⟨rfl, x6⟩
  refine s_assign (v := .int .i64 (code (exB 8 x))) (ev_t rfl rfl) (w0 rfl) ?_
  refine c_done ?_
  refine n_then ?_
  refine c_ret ?_
  refine ret1 (v := .int .i64 (code (exB 8 x))) rfl rfl rfl ?_
  refine ⟨_, rfl, ?_, (Ext.trans (Ext.trans (NewB.ext n3) x4) x6)⟩
  rfl
set_option maxHeartbeats 4000000 in
theorem r6_within (d : Nat) (x : Ex) (A : Option Addr) (c : Nat) (b : Bool) (w : World) (ho : x.okc c) (hr : Row RE 6 w A x.kids) (he : ∀ (A : Option Addr) (c : Nat) (w : World), x.okc c → Row RE 6 w A x.kids → Rt Tryd.prog 21 #[.agg #[.int .i8 x.op, .string x.t.v, .int .i8 x.t.l.k, .int .i64 x.t.l.n, .string x.t.l.s, .slice A x.kids.length c]] w fun v w' => v = .string (exW d x) ∧ Ext w w') (hz : (exW d x).size ≤ 230400) :
    Rt Tryd.prog 47 #[.agg #[.int .i8 x.op, .string x.t.v, .int .i8 x.t.l.k, .int .i64 x.t.l.n, .string x.t.l.s, .slice A x.kids.length c], .bool b] w fun v w' => v = .string (inB b (exW d x)) ∧ Ext w w' := by
  refine enter Tryd.func47 rfl (l := [.agg #[.int .i8 x.op, .string x.t.v, .int .i8 x.t.l.k, .int .i64 x.t.l.n, .string x.t.l.s, .slice A x.kids.length c], .bool b]) rfl Tryd.ntmps47 (Nat.le_of_ble_eq_true rfl) ?_
  have hl_ := Ex.okc.l ho
  have hc_ := Ex.okc.c ho
  refine c_seq ?_
  refine c_reg ?_
  refine s_box (v := .agg #[.int .i8 x.op, .string x.t.v, .int .i8 x.t.l.k, .int .i64 x.t.l.n, .string x.t.l.s, .slice A x.kids.length c]) (cs := #[.int .i8 x.op, .string x.t.v, .int .i8 x.t.l.k, .int .i64 x.t.l.n, .string x.t.l.s, .slice A x.kids.length c]) (w0 rfl) (ev_t rfl rfl) rfl ?_
  intro w2 g1 n3
  refine s_assign (v := .string (⟨#[]⟩ : ByteArray)) ev_c (w0 rfl) ?_
  refine c_done ?_
  refine n_then ?_
  refine c_seq ?_
  refine c_seq ?_
  refine c_reg ?_
  refine s_move (v := .bool b) (ev_t rfl rfl) (w0 rfl) ?_
  refine c_done ?_
  refine n_then ?_
  rcases Bool.eq_false_or_eq_true b with h4 | h4
  · refine c_cond1 (vb (ev_t rfl rfl) h4) ?_
    refine c_seq ?_
    refine c_reg ?_
    refine s_loadL (cs := [.int .i8 x.op, .string x.t.v, .int .i8 x.t.l.k, .int .i64 x.t.l.n, .string x.t.l.s, .slice A x.kids.length c]) (ca := #[.int .i8 x.op, .string x.t.v, .int .i8 x.t.l.k, .int .i64 x.t.l.n, .string x.t.l.s, .slice A x.kids.length c]) F_m31 (ev_t rfl rfl) rfl rfl (blk_cells (NewB.blk n3) 0 (cs := [.int .i8 x.op, .string x.t.v, .int .i8 x.t.l.k, .int .i64 x.t.l.n, .string x.t.l.s, .slice A x.kids.length c]) rfl) (w0 rfl) ?_
    refine s_call F_e21 (w0 rfl) ev_f (m1 (ev_t rfl rfl)) (args := #[.agg #[.int .i8 x.op, .string x.t.v, .int .i8 x.t.l.k, .int .i64 x.t.l.n, .string x.t.l.s, .slice A x.kids.length c]]) rfl (he A c _ ho (Row.extE hr (NewB.ext n3))) ?_
    rintro _ w6 ⟨rfl, x5⟩
    refine s_cat ev_c (ev_t rfl rfl) (by simp only [ByteArray.size_append, z0, z1, z2, z3, z4, z5, z6]; omega) (w0 rfl) ?_
    refine s_cat (ev_t rfl rfl) ev_c (by simp only [ByteArray.size_append, z0, z1, z2, z3, z4, z5, z6]; omega) (w0 rfl) ?_
    refine s_assign (v := .string ((⟨#[40]⟩ : ByteArray) ++ (exW d x) ++ (⟨#[41]⟩ : ByteArray))) (ev_t rfl rfl) (w0 rfl) ?_
    refine c_done ?_
    refine n_then ?_
    refine c_ret ?_
    refine r_then ?_
    refine ret1 (v := .string ((⟨#[40]⟩ : ByteArray) ++ (exW d x) ++ (⟨#[41]⟩ : ByteArray))) rfl rfl rfl ?_
    refine ⟨_, rfl, ?_, (Ext.trans (NewB.ext n3) x5)⟩
    (simp only [inB, *, if_true, if_false, Bool.false_eq_true]; try rfl)
  · refine c_cond0 (vb (ev_t rfl rfl) h4) ?_
    refine c_skip ?_
    refine n_then ?_
    refine c_seq ?_
    refine c_reg ?_
    refine s_loadL (cs := [.int .i8 x.op, .string x.t.v, .int .i8 x.t.l.k, .int .i64 x.t.l.n, .string x.t.l.s, .slice A x.kids.length c]) (ca := #[.int .i8 x.op, .string x.t.v, .int .i8 x.t.l.k, .int .i64 x.t.l.n, .string x.t.l.s, .slice A x.kids.length c]) F_m31 (ev_t rfl rfl) rfl rfl (blk_cells (NewB.blk n3) 0 (cs := [.int .i8 x.op, .string x.t.v, .int .i8 x.t.l.k, .int .i64 x.t.l.n, .string x.t.l.s, .slice A x.kids.length c]) rfl) (w0 rfl) ?_
    refine s_call F_e21 (w0 rfl) ev_f (m1 (ev_t rfl rfl)) (args := #[.agg #[.int .i8 x.op, .string x.t.v, .int .i8 x.t.l.k, .int .i64 x.t.l.n, .string x.t.l.s, .slice A x.kids.length c]]) rfl (he A c _ ho (Row.extE hr (NewB.ext n3))) ?_
    rintro _ w8 ⟨rfl, x7⟩
    refine s_assign (v := .string (exW d x)) (ev_t rfl rfl) (w0 rfl) ?_
    refine c_done ?_
    refine n_then ?_
    refine c_ret ?_
    refine ret1 (v := .string (exW d x)) rfl rfl rfl ?_
    refine ⟨_, rfl, ?_, (Ext.trans (NewB.ext n3) x7)⟩
    (simp only [inB, *, if_true, if_false, Bool.false_eq_true]; try rfl)
/-- A kid's index, and that it may be. -/
theorem exOp {d : Nat} {x : Ex} (h : exB d x = true) : (0 ≤ x.op ∧ x.op ≤ 10) ∧ (x.op = 1 ∨ 8 ≤ x.op ∧ x.op ≤ 10 → 0 < x.kids.length) ∧ (¬ x.op = 0 ∧ ¬ x.op = 1 ∧ ¬ (8 ≤ x.op ∧ x.op ≤ 10) → 1 < x.kids.length) := ⟨ex_ops h, fun h1 => (ex_one h h1).1, fun h1 => (ex_two h h1.1 h1.2.1 h1.2.2).1⟩
theorem exKid0 {d : Nat} {x : Ex} (h : exB d x = true) (h0 : ¬ x.op = 0) : exB (d - 1) (x.kid 0) = true := by
  by_cases h1 : x.op = 1 ∨ 8 ≤ x.op ∧ x.op ≤ 10
  · exact (ex_one h h1).2
  · exact (ex_two h h0 (by omega) (by omega)).2.1
set_option maxHeartbeats 4000000 in
theorem r6_expr_step (d : Nat) (x : Ex) (A : Option Addr) (c : Nat) (w : World) (ho : x.okc c) (hr : Row RE 6 w A x.kids) (hd : d ≤ 8) (hb : exB d x = true) (ih : d ≠ 0 → ∀ (j : Nat) (y : Ex), x.kids[j]? = some y → exB (d - 1) y = true → ∀ (A : Option Addr) (c : Nat) (w : World), y.okc c → Row RE 6 w A y.kids → Rt Tryd.prog 21 #[.agg #[.int .i8 y.op, .string y.t.v, .int .i8 y.t.l.k, .int .i64 y.t.l.n, .string y.t.l.s, .slice A y.kids.length c]] w fun v w' => v = .string (exW (d - 1) y) ∧ Ext w w') :
    Rt Tryd.prog 21 #[.agg #[.int .i8 x.op, .string x.t.v, .int .i8 x.t.l.k, .int .i64 x.t.l.n, .string x.t.l.s, .slice A x.kids.length c]] w fun v w' => v = .string (exW d x) ∧ Ext w w' := by
  refine enter Tryd.func21 rfl (l := [.agg #[.int .i8 x.op, .string x.t.v, .int .i8 x.t.l.k, .int .i64 x.t.l.n, .string x.t.l.s, .slice A x.kids.length c]]) rfl Tryd.ntmps21 (Nat.le_of_ble_eq_true rfl) ?_
  have hl_ := Ex.okc.l ho
  have hc_ := Ex.okc.c ho
  have hk_ := Go.Wk.Row.ok hr ho.t
  have ⟨hd0_, _, _⟩ := exB_parts hb
  obtain ⟨ho1_, ho2_, ho3_⟩ := exOp hb
  have hw1_ := wordW_size x.op
  have hw2_ := signW_size x.op
  refine c_seq ?_
  refine c_reg ?_
  refine s_box (v := .agg #[.int .i8 x.op, .string x.t.v, .int .i8 x.t.l.k, .int .i64 x.t.l.n, .string x.t.l.s, .slice A x.kids.length c]) (cs := #[.int .i8 x.op, .string x.t.v, .int .i8 x.t.l.k, .int .i64 x.t.l.n, .string x.t.l.s, .slice A x.kids.length c]) (w0 rfl) (ev_t rfl rfl) rfl ?_
  intro w2 g1 n3
  refine s_assign (v := .string (⟨#[]⟩ : ByteArray)) ev_c (w0 rfl) ?_
  refine c_done ?_
  refine n_then ?_
  refine c_seq ?_
  refine c_seq ?_
  refine c_reg ?_
  refine s_field (off := 0) (o' := 0) F_f31_0 (ev_t rfl rfl) rfl (w0 rfl) ?_
  refine s_load (v := .int .i8 x.op) F_o23 (ev_t rfl rfl) (cell_of_blk (i := 0) (NewB.blk n3) rfl) (w0 rfl) ?_
  refine c_done ?_
  refine n_then ?_
  refine c_block ?_
  refine c_seq ?_
  refine c_reg ?_
  refine s_cmp (r := decide (x.op = 0)) (ev_t rfl rfl) ev_c rfl (w0 rfl) ?_
  refine s_assign (v := .bool (decide (x.op = 0))) (ev_t rfl rfl) (w0 rfl) ?_
  refine c_done ?_
  refine n_then ?_
  by_cases h4 : x.op = 0
  · refine c_cond1 (vb (ev_t rfl rfl) (decide_eq_true h4)) ?_
    refine c_seq ?_
    refine c_reg ?_
    refine s_field (off := 1) (o' := 1) F_f31_1 (ev_t rfl rfl) rfl (w0 rfl) ?_
    refine s_loadL (cs := [.string x.t.v, .int .i8 x.t.l.k, .int .i64 x.t.l.n, .string x.t.l.s]) (ca := #[.string x.t.v, .int .i8 x.t.l.k, .int .i64 x.t.l.n, .string x.t.l.s]) F_m28 (ev_t rfl rfl) rfl rfl (blk_cells (NewB.blk n3) 1 (cs := [.string x.t.v, .int .i8 x.t.l.k, .int .i64 x.t.l.n, .string x.t.l.s]) rfl) (w0 rfl) ?_
    refine s_call F_e45 (w0 rfl) ev_f (m1 (ev_t rfl rfl)) (args := #[.agg #[.string x.t.v, .int .i8 x.t.l.k, .int .i64 x.t.l.n, .string x.t.l.s]]) rfl (r6_term x.t _ (Ex.okc.t ho)) ?_
    rintro _ w6 ⟨rfl, x5⟩
    refine s_assign (v := .string (termW x.t)) (ev_t rfl rfl) (w0 rfl) ?_
    refine c_done ?_
    refine n_then ?_
    refine c_ret ?_
    refine r_block ?_
    refine r_then ?_
    refine ret1 (v := .string (termW x.t)) rfl rfl rfl ?_
    refine ⟨_, rfl, ?_, (Ext.trans (NewB.ext n3) x5)⟩
    (refine congrArg Value.string ?_; rw [exW_pos hd0_]; first | (rw [if_pos (by omega)]; done) | (rw [if_neg (by omega), if_pos (by omega)]; done) | (rw [if_neg (by omega), if_neg (by omega), if_pos (by omega)]; refine congrArg _ (congrArg (fun b => inB b _) ?_); simp [numB, *]; done) | (rw [if_neg (by omega), if_neg (by omega), if_neg (by omega)]; done))
  · refine c_cond0 (vb (ev_t rfl rfl) (decide_eq_false h4)) ?_
    refine c_seq ?_
    refine c_seq ?_
    refine c_reg ?_
    refine s_cmp (r := decide (x.op = 8)) (ev_t rfl rfl) ev_c rfl (w0 rfl) ?_
    refine s_assign (v := .bool (decide (x.op = 8))) (ev_t rfl rfl) (w0 rfl) ?_
    refine c_done ?_
    refine n_then ?_
    by_cases h7 : x.op = 8
    · refine c_cond1 (vb (ev_t rfl rfl) (decide_eq_true h7)) ?_
      refine c_skip ?_
      refine n_then ?_
      refine c_cond1 (vb (ev_t rfl rfl) (decide_eq_true h7)) ?_
      refine c_seq ?_
      refine c_quiet mixed (by kernel_rfl) ?_
      refine q_val (v := .pointer (some ⟨g1, 0, none⟩)) (w0 rfl) (fun w_ c_ => r_field (off := 0) (o' := 0) F_f31_0 (ev_t rfl rfl) rfl) ?_
      refine q_val (v := .int .i8 x.op) (w0 rfl) (fun w_ c_ => r_load (v := .int .i8 x.op) F_o23 (ev_t rfl rfl) (cell_of_blk (i := 0) (Ext.blk c_ (NewB.blk n3)) rfl)) ?_
      refine q_call (v := .string (wordW x.op)) F_e46 (w0 rfl) ev_f (m1 (ev_t rfl rfl)) (args := #[.int .i8 x.op]) rfl (fun w_ c_ => Rt.mono (r6_word x.op _) (fun v_ w2_ h_ => ⟨h_.1, Ext.trans c_ h_.2⟩)) ?_
      refine q_val (v := .string (wordW x.op ++ (⟨#[40]⟩ : ByteArray))) (w0 rfl) (fun w_ c_ => r_cat (ev_t rfl rfl) ev_c (by simp only [ByteArray.size_append, z0, z1, z2, z3, z4, z5, z6]; omega)) ?_
      refine q_val (v := .pointer (some ⟨g1, 5, none⟩)) (w0 rfl) (fun w_ c_ => r_field (off := 5) (o' := 5) F_f31_2 (ev_t rfl rfl) rfl) ?_
      refine q_val (v := .slice A x.kids.length c) (w0 rfl) (fun w_ c_ => r_load (v := .slice A x.kids.length c) F_o29 (ev_t rfl rfl) (cell_of_blk (i := 5) (Ext.blk c_ (NewB.blk n3)) rfl)) ?_
      obtain ⟨b8, o9, x10, csx10, hA11, hx12, hR13, hc14⟩ := Row.at_ hr 0 (by omega)
      obtain rfl := Ex.kid_of hx12
      obtain ⟨A15, c16, rfl, ho17, hr18⟩ := RE.open_ hR13
      refine q_val (v := .pointer (some ⟨b8, o9 + 0 * 6, none⟩)) (w0 rfl) (fun w_ c_ => r_indexR (j := 0) F_l29 (ev_t rfl rfl) hA11 ev_c rfl (by omega)) ?_
      refine q_val (v := .agg #[.int .i8 ((x.kid 0).op), .string ((x.kid 0).t.v), .int .i8 ((x.kid 0).t.l.k), .int .i64 ((x.kid 0).t.l.n), .string ((x.kid 0).t.l.s), .slice A15 ((x.kid 0).kids.length) c16]) (w0 rfl) (fun w_ c_ => r_loadL (cs := [.int .i8 ((x.kid 0).op), .string ((x.kid 0).t.v), .int .i8 ((x.kid 0).t.l.k), .int .i64 ((x.kid 0).t.l.n), .string ((x.kid 0).t.l.s), .slice A15 ((x.kid 0).kids.length) c16]) (ca := #[.int .i8 ((x.kid 0).op), .string ((x.kid 0).t.v), .int .i8 ((x.kid 0).t.l.k), .int .i64 ((x.kid 0).t.l.n), .string ((x.kid 0).t.l.s), .slice A15 ((x.kid 0).kids.length) c16]) F_m31 (ev_t rfl rfl) rfl rfl (sub_cells (cells_ext c_ (cells_ext (NewB.ext n3) hc14)) 0 (cs2 := [.int .i8 ((x.kid 0).op), .string ((x.kid 0).t.v), .int .i8 ((x.kid 0).t.l.k), .int .i64 ((x.kid 0).t.l.n), .string ((x.kid 0).t.l.s), .slice A15 ((x.kid 0).kids.length) c16]) rfl)) ?_
      have hz19 := exW_le (d := d - 1) (by omega) (exKid0 hb (by omega)) (Ex.Ok.kid hk_ (kid_there (x := x) (j := 0) (by omega)))
      refine q_call (v := .string (exW (d - 1) (x.kid 0))) F_e21 (w0 rfl) ev_f (m1 (ev_t rfl rfl)) (args := #[.agg #[.int .i8 ((x.kid 0).op), .string ((x.kid 0).t.v), .int .i8 ((x.kid 0).t.l.k), .int .i64 ((x.kid 0).t.l.n), .string ((x.kid 0).t.l.s), .slice A15 ((x.kid 0).kids.length) c16]]) rfl (fun w_ c_ => Rt.mono (ih (by omega) 0 _ (kid_there (x := x) (j := 0) (by omega)) (exKid0 hb (by omega)) A15 c16 _ ho17 (Row.extE (Row.extE hr18 (NewB.ext n3)) c_)) (fun v_ w2_ h_ => ⟨h_.1, Ext.trans c_ h_.2⟩)) ?_
      refine q_val (v := .string (wordW x.op ++ (⟨#[40]⟩ : ByteArray) ++ (exW (d - 1) (x.kid 0)))) (w0 rfl) (fun w_ c_ => r_cat (ev_t rfl rfl) (ev_t rfl rfl) (by simp only [ByteArray.size_append, z0, z1, z2, z3, z4, z5, z6]; omega)) ?_
      refine q_val (v := .string (wordW x.op ++ (⟨#[40]⟩ : ByteArray) ++ (exW (d - 1) (x.kid 0)) ++ (⟨#[41]⟩ : ByteArray))) (w0 rfl) (fun w_ c_ => r_cat (ev_t rfl rfl) ev_c (by simp only [ByteArray.size_append, z0, z1, z2, z3, z4, z5, z6]; omega)) ?_
      refine q_val (v := .string (wordW x.op ++ (⟨#[40]⟩ : ByteArray) ++ (exW (d - 1) (x.kid 0)) ++ (⟨#[41]⟩ : ByteArray))) (w0 rfl) (fun w_ c_ => r_assign (v := .string (wordW x.op ++ (⟨#[40]⟩ : ByteArray) ++ (exW (d - 1) (x.kid 0)) ++ (⟨#[41]⟩ : ByteArray))) (ev_t rfl rfl)) ?_
      refine q_done ?_
      intro w20 x21
      refine n_then ?_
      refine c_ret ?_
      refine r_block ?_
      refine r_then ?_
      refine ret1 (v := .string (wordW x.op ++ (⟨#[40]⟩ : ByteArray) ++ (exW (d - 1) (x.kid 0)) ++ (⟨#[41]⟩ : ByteArray))) rfl rfl rfl ?_
      refine ⟨_, rfl, ?_, (Ext.trans (NewB.ext n3) x21)⟩
      (refine congrArg Value.string ?_; rw [exW_pos hd0_]; first | (rw [if_pos (by omega)]; done) | (rw [if_neg (by omega), if_pos (by omega)]; done) | (rw [if_neg (by omega), if_neg (by omega), if_pos (by omega)]; refine congrArg _ (congrArg (fun b => inB b _) ?_); simp [numB, *]; done) | (rw [if_neg (by omega), if_neg (by omega), if_neg (by omega)]; done))
    · refine c_cond0 (vb (ev_t rfl rfl) (decide_eq_false h7)) ?_
      refine c_seq ?_
      refine c_reg ?_
      refine s_cmp (r := decide (x.op = 9)) (ev_t rfl rfl) ev_c rfl (w0 rfl) ?_
      refine s_assign (v := .bool (decide (x.op = 9))) (ev_t rfl rfl) (w0 rfl) ?_
      refine c_done ?_
      refine n_then ?_
      by_cases h22 : x.op = 9
      · refine c_cond1 (vb (ev_t rfl rfl) (decide_eq_true h22)) ?_
        refine c_skip ?_
        refine n_then ?_
        refine c_cond1 (vb (ev_t rfl rfl) (decide_eq_true h22)) ?_
        refine c_seq ?_
        refine c_quiet mixed (by kernel_rfl) ?_
        refine q_val (v := .pointer (some ⟨g1, 0, none⟩)) (w0 rfl) (fun w_ c_ => r_field (off := 0) (o' := 0) F_f31_0 (ev_t rfl rfl) rfl) ?_
        refine q_val (v := .int .i8 x.op) (w0 rfl) (fun w_ c_ => r_load (v := .int .i8 x.op) F_o23 (ev_t rfl rfl) (cell_of_blk (i := 0) (Ext.blk c_ (NewB.blk n3)) rfl)) ?_
        refine q_call (v := .string (wordW x.op)) F_e46 (w0 rfl) ev_f (m1 (ev_t rfl rfl)) (args := #[.int .i8 x.op]) rfl (fun w_ c_ => Rt.mono (r6_word x.op _) (fun v_ w2_ h_ => ⟨h_.1, Ext.trans c_ h_.2⟩)) ?_
        refine q_val (v := .string (wordW x.op ++ (⟨#[40]⟩ : ByteArray))) (w0 rfl) (fun w_ c_ => r_cat (ev_t rfl rfl) ev_c (by simp only [ByteArray.size_append, z0, z1, z2, z3, z4, z5, z6]; omega)) ?_
        refine q_val (v := .pointer (some ⟨g1, 5, none⟩)) (w0 rfl) (fun w_ c_ => r_field (off := 5) (o' := 5) F_f31_2 (ev_t rfl rfl) rfl) ?_
        refine q_val (v := .slice A x.kids.length c) (w0 rfl) (fun w_ c_ => r_load (v := .slice A x.kids.length c) F_o29 (ev_t rfl rfl) (cell_of_blk (i := 5) (Ext.blk c_ (NewB.blk n3)) rfl)) ?_
        obtain ⟨b23, o24, x25, csx25, hA26, hx27, hR28, hc29⟩ := Row.at_ hr 0 (by omega)
        obtain rfl := Ex.kid_of hx27
        obtain ⟨A30, c31, rfl, ho32, hr33⟩ := RE.open_ hR28
        refine q_val (v := .pointer (some ⟨b23, o24 + 0 * 6, none⟩)) (w0 rfl) (fun w_ c_ => r_indexR (j := 0) F_l29 (ev_t rfl rfl) hA26 ev_c rfl (by omega)) ?_
        refine q_val (v := .agg #[.int .i8 ((x.kid 0).op), .string ((x.kid 0).t.v), .int .i8 ((x.kid 0).t.l.k), .int .i64 ((x.kid 0).t.l.n), .string ((x.kid 0).t.l.s), .slice A30 ((x.kid 0).kids.length) c31]) (w0 rfl) (fun w_ c_ => r_loadL (cs := [.int .i8 ((x.kid 0).op), .string ((x.kid 0).t.v), .int .i8 ((x.kid 0).t.l.k), .int .i64 ((x.kid 0).t.l.n), .string ((x.kid 0).t.l.s), .slice A30 ((x.kid 0).kids.length) c31]) (ca := #[.int .i8 ((x.kid 0).op), .string ((x.kid 0).t.v), .int .i8 ((x.kid 0).t.l.k), .int .i64 ((x.kid 0).t.l.n), .string ((x.kid 0).t.l.s), .slice A30 ((x.kid 0).kids.length) c31]) F_m31 (ev_t rfl rfl) rfl rfl (sub_cells (cells_ext c_ (cells_ext (NewB.ext n3) hc29)) 0 (cs2 := [.int .i8 ((x.kid 0).op), .string ((x.kid 0).t.v), .int .i8 ((x.kid 0).t.l.k), .int .i64 ((x.kid 0).t.l.n), .string ((x.kid 0).t.l.s), .slice A30 ((x.kid 0).kids.length) c31]) rfl)) ?_
        have hz34 := exW_le (d := d - 1) (by omega) (exKid0 hb (by omega)) (Ex.Ok.kid hk_ (kid_there (x := x) (j := 0) (by omega)))
        refine q_call (v := .string (exW (d - 1) (x.kid 0))) F_e21 (w0 rfl) ev_f (m1 (ev_t rfl rfl)) (args := #[.agg #[.int .i8 ((x.kid 0).op), .string ((x.kid 0).t.v), .int .i8 ((x.kid 0).t.l.k), .int .i64 ((x.kid 0).t.l.n), .string ((x.kid 0).t.l.s), .slice A30 ((x.kid 0).kids.length) c31]]) rfl (fun w_ c_ => Rt.mono (ih (by omega) 0 _ (kid_there (x := x) (j := 0) (by omega)) (exKid0 hb (by omega)) A30 c31 _ ho32 (Row.extE (Row.extE hr33 (NewB.ext n3)) c_)) (fun v_ w2_ h_ => ⟨h_.1, Ext.trans c_ h_.2⟩)) ?_
        refine q_val (v := .string (wordW x.op ++ (⟨#[40]⟩ : ByteArray) ++ (exW (d - 1) (x.kid 0)))) (w0 rfl) (fun w_ c_ => r_cat (ev_t rfl rfl) (ev_t rfl rfl) (by simp only [ByteArray.size_append, z0, z1, z2, z3, z4, z5, z6]; omega)) ?_
        refine q_val (v := .string (wordW x.op ++ (⟨#[40]⟩ : ByteArray) ++ (exW (d - 1) (x.kid 0)) ++ (⟨#[41]⟩ : ByteArray))) (w0 rfl) (fun w_ c_ => r_cat (ev_t rfl rfl) ev_c (by simp only [ByteArray.size_append, z0, z1, z2, z3, z4, z5, z6]; omega)) ?_
        refine q_val (v := .string (wordW x.op ++ (⟨#[40]⟩ : ByteArray) ++ (exW (d - 1) (x.kid 0)) ++ (⟨#[41]⟩ : ByteArray))) (w0 rfl) (fun w_ c_ => r_assign (v := .string (wordW x.op ++ (⟨#[40]⟩ : ByteArray) ++ (exW (d - 1) (x.kid 0)) ++ (⟨#[41]⟩ : ByteArray))) (ev_t rfl rfl)) ?_
        refine q_done ?_
        intro w35 x36
        refine n_then ?_
        refine c_ret ?_
        refine r_block ?_
        refine r_then ?_
        refine ret1 (v := .string (wordW x.op ++ (⟨#[40]⟩ : ByteArray) ++ (exW (d - 1) (x.kid 0)) ++ (⟨#[41]⟩ : ByteArray))) rfl rfl rfl ?_
        refine ⟨_, rfl, ?_, (Ext.trans (NewB.ext n3) x36)⟩
        (refine congrArg Value.string ?_; rw [exW_pos hd0_]; first | (rw [if_pos (by omega)]; done) | (rw [if_neg (by omega), if_pos (by omega)]; done) | (rw [if_neg (by omega), if_neg (by omega), if_pos (by omega)]; refine congrArg _ (congrArg (fun b => inB b _) ?_); simp [numB, *]; done) | (rw [if_neg (by omega), if_neg (by omega), if_neg (by omega)]; done))
      · refine c_cond0 (vb (ev_t rfl rfl) (decide_eq_false h22)) ?_
        refine c_reg ?_
        refine s_cmp (r := decide (x.op = 10)) (ev_t rfl rfl) ev_c rfl (w0 rfl) ?_
        refine s_assign (v := .bool (decide (x.op = 10))) (ev_t rfl rfl) (w0 rfl) ?_
        refine c_done ?_
        refine n_then ?_
        by_cases h37 : x.op = 10
        · refine c_cond1 (vb (ev_t rfl rfl) (decide_eq_true h37)) ?_
          refine c_seq ?_
          refine c_quiet mixed (by kernel_rfl) ?_
          refine q_val (v := .pointer (some ⟨g1, 0, none⟩)) (w0 rfl) (fun w_ c_ => r_field (off := 0) (o' := 0) F_f31_0 (ev_t rfl rfl) rfl) ?_
          refine q_val (v := .int .i8 x.op) (w0 rfl) (fun w_ c_ => r_load (v := .int .i8 x.op) F_o23 (ev_t rfl rfl) (cell_of_blk (i := 0) (Ext.blk c_ (NewB.blk n3)) rfl)) ?_
          refine q_call (v := .string (wordW x.op)) F_e46 (w0 rfl) ev_f (m1 (ev_t rfl rfl)) (args := #[.int .i8 x.op]) rfl (fun w_ c_ => Rt.mono (r6_word x.op _) (fun v_ w2_ h_ => ⟨h_.1, Ext.trans c_ h_.2⟩)) ?_
          refine q_val (v := .string (wordW x.op ++ (⟨#[40]⟩ : ByteArray))) (w0 rfl) (fun w_ c_ => r_cat (ev_t rfl rfl) ev_c (by simp only [ByteArray.size_append, z0, z1, z2, z3, z4, z5, z6]; omega)) ?_
          refine q_val (v := .pointer (some ⟨g1, 5, none⟩)) (w0 rfl) (fun w_ c_ => r_field (off := 5) (o' := 5) F_f31_2 (ev_t rfl rfl) rfl) ?_
          refine q_val (v := .slice A x.kids.length c) (w0 rfl) (fun w_ c_ => r_load (v := .slice A x.kids.length c) F_o29 (ev_t rfl rfl) (cell_of_blk (i := 5) (Ext.blk c_ (NewB.blk n3)) rfl)) ?_
          obtain ⟨b38, o39, x40, csx40, hA41, hx42, hR43, hc44⟩ := Row.at_ hr 0 (by omega)
          obtain rfl := Ex.kid_of hx42
          obtain ⟨A45, c46, rfl, ho47, hr48⟩ := RE.open_ hR43
          refine q_val (v := .pointer (some ⟨b38, o39 + 0 * 6, none⟩)) (w0 rfl) (fun w_ c_ => r_indexR (j := 0) F_l29 (ev_t rfl rfl) hA41 ev_c rfl (by omega)) ?_
          refine q_val (v := .agg #[.int .i8 ((x.kid 0).op), .string ((x.kid 0).t.v), .int .i8 ((x.kid 0).t.l.k), .int .i64 ((x.kid 0).t.l.n), .string ((x.kid 0).t.l.s), .slice A45 ((x.kid 0).kids.length) c46]) (w0 rfl) (fun w_ c_ => r_loadL (cs := [.int .i8 ((x.kid 0).op), .string ((x.kid 0).t.v), .int .i8 ((x.kid 0).t.l.k), .int .i64 ((x.kid 0).t.l.n), .string ((x.kid 0).t.l.s), .slice A45 ((x.kid 0).kids.length) c46]) (ca := #[.int .i8 ((x.kid 0).op), .string ((x.kid 0).t.v), .int .i8 ((x.kid 0).t.l.k), .int .i64 ((x.kid 0).t.l.n), .string ((x.kid 0).t.l.s), .slice A45 ((x.kid 0).kids.length) c46]) F_m31 (ev_t rfl rfl) rfl rfl (sub_cells (cells_ext c_ (cells_ext (NewB.ext n3) hc44)) 0 (cs2 := [.int .i8 ((x.kid 0).op), .string ((x.kid 0).t.v), .int .i8 ((x.kid 0).t.l.k), .int .i64 ((x.kid 0).t.l.n), .string ((x.kid 0).t.l.s), .slice A45 ((x.kid 0).kids.length) c46]) rfl)) ?_
          have hz49 := exW_le (d := d - 1) (by omega) (exKid0 hb (by omega)) (Ex.Ok.kid hk_ (kid_there (x := x) (j := 0) (by omega)))
          refine q_call (v := .string (exW (d - 1) (x.kid 0))) F_e21 (w0 rfl) ev_f (m1 (ev_t rfl rfl)) (args := #[.agg #[.int .i8 ((x.kid 0).op), .string ((x.kid 0).t.v), .int .i8 ((x.kid 0).t.l.k), .int .i64 ((x.kid 0).t.l.n), .string ((x.kid 0).t.l.s), .slice A45 ((x.kid 0).kids.length) c46]]) rfl (fun w_ c_ => Rt.mono (ih (by omega) 0 _ (kid_there (x := x) (j := 0) (by omega)) (exKid0 hb (by omega)) A45 c46 _ ho47 (Row.extE (Row.extE hr48 (NewB.ext n3)) c_)) (fun v_ w2_ h_ => ⟨h_.1, Ext.trans c_ h_.2⟩)) ?_
          refine q_val (v := .string (wordW x.op ++ (⟨#[40]⟩ : ByteArray) ++ (exW (d - 1) (x.kid 0)))) (w0 rfl) (fun w_ c_ => r_cat (ev_t rfl rfl) (ev_t rfl rfl) (by simp only [ByteArray.size_append, z0, z1, z2, z3, z4, z5, z6]; omega)) ?_
          refine q_val (v := .string (wordW x.op ++ (⟨#[40]⟩ : ByteArray) ++ (exW (d - 1) (x.kid 0)) ++ (⟨#[41]⟩ : ByteArray))) (w0 rfl) (fun w_ c_ => r_cat (ev_t rfl rfl) ev_c (by simp only [ByteArray.size_append, z0, z1, z2, z3, z4, z5, z6]; omega)) ?_
          refine q_val (v := .string (wordW x.op ++ (⟨#[40]⟩ : ByteArray) ++ (exW (d - 1) (x.kid 0)) ++ (⟨#[41]⟩ : ByteArray))) (w0 rfl) (fun w_ c_ => r_assign (v := .string (wordW x.op ++ (⟨#[40]⟩ : ByteArray) ++ (exW (d - 1) (x.kid 0)) ++ (⟨#[41]⟩ : ByteArray))) (ev_t rfl rfl)) ?_
          refine q_done ?_
          intro w50 x51
          refine n_then ?_
          refine c_ret ?_
          refine r_block ?_
          refine r_then ?_
          refine ret1 (v := .string (wordW x.op ++ (⟨#[40]⟩ : ByteArray) ++ (exW (d - 1) (x.kid 0)) ++ (⟨#[41]⟩ : ByteArray))) rfl rfl rfl ?_
          refine ⟨_, rfl, ?_, (Ext.trans (NewB.ext n3) x51)⟩
          (refine congrArg Value.string ?_; rw [exW_pos hd0_]; first | (rw [if_pos (by omega)]; done) | (rw [if_neg (by omega), if_pos (by omega)]; done) | (rw [if_neg (by omega), if_neg (by omega), if_pos (by omega)]; refine congrArg _ (congrArg (fun b => inB b _) ?_); simp [numB, *]; done) | (rw [if_neg (by omega), if_neg (by omega), if_neg (by omega)]; done))
        · refine c_cond0 (vb (ev_t rfl rfl) (decide_eq_false h37)) ?_
          refine c_seq ?_
          refine c_reg ?_
          refine s_cmp (r := decide (x.op = 1)) (ev_t rfl rfl) ev_c rfl (w0 rfl) ?_
          refine s_assign (v := .bool (decide (x.op = 1))) (ev_t rfl rfl) (w0 rfl) ?_
          refine c_done ?_
          refine n_then ?_
          by_cases h52 : x.op = 1
          · refine c_cond1 (vb (ev_t rfl rfl) (decide_eq_true h52)) ?_
            refine c_seq ?_
            refine c_reg ?_
            refine s_field (off := 5) (o' := 5) F_f31_2 (ev_t rfl rfl) rfl (w0 rfl) ?_
            refine s_load (v := .slice A x.kids.length c) F_o29 (ev_t rfl rfl) (cell_of_blk (i := 5) (NewB.blk n3) rfl) (w0 rfl) ?_
            obtain ⟨b53, o54, x55, csx55, hA56, hx57, hR58, hc59⟩ := Row.at_ hr 0 (by omega)
            obtain rfl := Ex.kid_of hx57
            obtain ⟨A60, c61, rfl, ho62, hr63⟩ := RE.open_ hR58
            refine s_indexR (j := 0) F_l29 (ev_t rfl rfl) hA56 ev_c rfl (by omega) (w0 rfl) ?_
            refine s_loadL (cs := [.int .i8 ((x.kid 0).op), .string ((x.kid 0).t.v), .int .i8 ((x.kid 0).t.l.k), .int .i64 ((x.kid 0).t.l.n), .string ((x.kid 0).t.l.s), .slice A60 ((x.kid 0).kids.length) c61]) (ca := #[.int .i8 ((x.kid 0).op), .string ((x.kid 0).t.v), .int .i8 ((x.kid 0).t.l.k), .int .i64 ((x.kid 0).t.l.n), .string ((x.kid 0).t.l.s), .slice A60 ((x.kid 0).kids.length) c61]) F_m31 (ev_t rfl rfl) rfl rfl (sub_cells (cells_ext (NewB.ext n3) hc59) 0 (cs2 := [.int .i8 ((x.kid 0).op), .string ((x.kid 0).t.v), .int .i8 ((x.kid 0).t.l.k), .int .i64 ((x.kid 0).t.l.n), .string ((x.kid 0).t.l.s), .slice A60 ((x.kid 0).kids.length) c61]) rfl) (w0 rfl) ?_
            refine s_alloc (cs := #[.int .i8 0, .string (⟨#[]⟩ : ByteArray), .int .i8 0, .int .i64 0, .string (⟨#[]⟩ : ByteArray), .slice none 0 0]) (w0 rfl) F_z31 rfl ?_
            intro w65 g64 n66
            refine s_store (cs' := #[.int .i8 ((x.kid 0).op), .string ((x.kid 0).t.v), .int .i8 ((x.kid 0).t.l.k), .int .i64 ((x.kid 0).t.l.n), .string ((x.kid 0).t.l.s), .slice A60 ((x.kid 0).kids.length) c61]) F_sz31 (ev_t rfl rfl) (ev_t rfl rfl) (l := [.int .i8 ((x.kid 0).op), .string ((x.kid 0).t.v), .int .i8 ((x.kid 0).t.l.k), .int .i64 ((x.kid 0).t.l.n), .string ((x.kid 0).t.l.s), .slice A60 ((x.kid 0).kids.length) c61]) rfl rfl rfl (NewB.blk n66) (Nat.le_of_ble_eq_true rfl) rfl (w0 rfl) ?_
            intro w67 k68
            refine c_done ?_
            refine n_then ?_
            refine c_seq ?_
            refine c_reg ?_
            refine s_field (off := 0) (o' := 0) F_f31_0 (ev_t rfl rfl) rfl (w0 rfl) ?_
            refine s_load (v := .int .i8 ((x.kid 0).op)) F_o23 (ev_t rfl rfl) (cell_of_blk (i := 0) (Wrote.blk k68) rfl) (w0 rfl) ?_
            refine s_cmp (r := decide ((x.kid 0).op = 0)) (ev_t rfl rfl) ev_c rfl (w0 rfl) ?_
            by_cases h69 : (x.kid 0).op = 0
            · refine s_move (v := .bool true) (vb (ev_t rfl rfl) (decide_eq_true h69)) (w0 rfl) ?_
              refine s_field (off := 1) (o' := 1) F_f31_1 (ev_t rfl rfl) rfl (wy rfl rfl rfl rfl) ?_
              refine s_field (off := 0) (o' := 1) F_f28_0 (ev_t rfl rfl) rfl (wy rfl rfl rfl rfl) ?_
              refine s_load (v := .string ((x.kid 0).t.v)) F_o9 (ev_t rfl rfl) (cell_of_blk (i := 1) (Wrote.blk k68) rfl) (wy rfl rfl rfl rfl) ?_
              refine s_cmpS (r := decide ((x.kid 0).t.v = (⟨#[]⟩ : ByteArray))) (ev_t rfl rfl) ev_c rfl (wy rfl rfl rfl rfl) ?_
              refine s_pick1 (v := .bool (decide ((x.kid 0).t.v = (⟨#[]⟩ : ByteArray)))) (ev_t rfl rfl) (ev_t rfl rfl) (w0 rfl) ?_
              by_cases h70 : (x.kid 0).t.v = (⟨#[]⟩ : ByteArray)
              · refine s_move (v := .bool true) (vb (ev_t rfl rfl) (decide_eq_true h70)) (w0 rfl) ?_
                refine s_field (off := 1) (o' := 1) F_f31_1 (ev_t rfl rfl) rfl (wy rfl rfl rfl rfl) ?_
                refine s_field (off := 1) (o' := 2) F_f28_1 (ev_t rfl rfl) rfl (wy rfl rfl rfl rfl) ?_
                refine s_field (off := 0) (o' := 2) F_f26_0 (ev_t rfl rfl) rfl (wy rfl rfl rfl rfl) ?_
                refine s_load (v := .int .i8 ((x.kid 0).t.l.k)) F_o24 (ev_t rfl rfl) (cell_of_blk (i := 2) (Wrote.blk k68) rfl) (wy rfl rfl rfl rfl) ?_
                refine s_cmp (r := decide ((x.kid 0).t.l.k = 1)) (ev_t rfl rfl) ev_c rfl (wy rfl rfl rfl rfl) ?_
                refine s_pick1 (v := .bool (decide ((x.kid 0).t.l.k = 1))) (ev_t rfl rfl) (ev_t rfl rfl) (w0 rfl) ?_
                by_cases h71 : (x.kid 0).t.l.k = 1
                · refine s_move (v := .bool true) (vb (ev_t rfl rfl) (decide_eq_true h71)) (w0 rfl) ?_
                  refine s_field (off := 1) (o' := 1) F_f31_1 (ev_t rfl rfl) rfl (wy rfl rfl rfl rfl) ?_
                  refine s_field (off := 1) (o' := 2) F_f28_1 (ev_t rfl rfl) rfl (wy rfl rfl rfl rfl) ?_
                  refine s_field (off := 1) (o' := 3) F_f26_1 (ev_t rfl rfl) rfl (wy rfl rfl rfl rfl) ?_
                  refine s_load (v := .int .i64 ((x.kid 0).t.l.n)) F_o2 (ev_t rfl rfl) (cell_of_blk (i := 3) (Wrote.blk k68) rfl) (wy rfl rfl rfl rfl) ?_
                  refine s_cmp (r := decide (0 ≤ (x.kid 0).t.l.n)) (ev_t rfl rfl) ev_c rfl (wy rfl rfl rfl rfl) ?_
                  refine s_pick1 (v := .bool (decide (0 ≤ (x.kid 0).t.l.n))) (ev_t rfl rfl) (ev_t rfl rfl) (w0 rfl) ?_
                  refine s_assign (v := .bool (decide (0 ≤ (x.kid 0).t.l.n))) (ev_t rfl rfl) (w0 rfl) ?_
                  refine c_done ?_
                  refine n_then ?_
                  refine c_seq ?_
                  refine c_quiet mixed (by kernel_rfl) ?_
                  refine q_val (v := .agg #[.int .i8 ((x.kid 0).op), .string ((x.kid 0).t.v), .int .i8 ((x.kid 0).t.l.k), .int .i64 ((x.kid 0).t.l.n), .string ((x.kid 0).t.l.s), .slice A60 ((x.kid 0).kids.length) c61]) (w0 rfl) (fun w_ c_ => r_loadL (cs := [.int .i8 ((x.kid 0).op), .string ((x.kid 0).t.v), .int .i8 ((x.kid 0).t.l.k), .int .i64 ((x.kid 0).t.l.n), .string ((x.kid 0).t.l.s), .slice A60 ((x.kid 0).kids.length) c61]) (ca := #[.int .i8 ((x.kid 0).op), .string ((x.kid 0).t.v), .int .i8 ((x.kid 0).t.l.k), .int .i64 ((x.kid 0).t.l.n), .string ((x.kid 0).t.l.s), .slice A60 ((x.kid 0).kids.length) c61]) F_m31 (ev_t rfl rfl) rfl rfl (blk_cells (Ext.blk c_ (Wrote.blk k68)) 0 (cs := [.int .i8 ((x.kid 0).op), .string ((x.kid 0).t.v), .int .i8 ((x.kid 0).t.l.k), .int .i64 ((x.kid 0).t.l.n), .string ((x.kid 0).t.l.s), .slice A60 ((x.kid 0).kids.length) c61]) rfl)) ?_
                  refine q_val (v := .agg #[.int .i8 ((x.kid 0).op), .string ((x.kid 0).t.v), .int .i8 ((x.kid 0).t.l.k), .int .i64 ((x.kid 0).t.l.n), .string ((x.kid 0).t.l.s), .slice A60 ((x.kid 0).kids.length) c61]) (w0 rfl) (fun w_ c_ => r_loadL (cs := [.int .i8 ((x.kid 0).op), .string ((x.kid 0).t.v), .int .i8 ((x.kid 0).t.l.k), .int .i64 ((x.kid 0).t.l.n), .string ((x.kid 0).t.l.s), .slice A60 ((x.kid 0).kids.length) c61]) (ca := #[.int .i8 ((x.kid 0).op), .string ((x.kid 0).t.v), .int .i8 ((x.kid 0).t.l.k), .int .i64 ((x.kid 0).t.l.n), .string ((x.kid 0).t.l.s), .slice A60 ((x.kid 0).kids.length) c61]) F_m31 (ev_t rfl rfl) rfl rfl (blk_cells (Ext.blk c_ (Wrote.blk k68)) 0 (cs := [.int .i8 ((x.kid 0).op), .string ((x.kid 0).t.v), .int .i8 ((x.kid 0).t.l.k), .int .i64 ((x.kid 0).t.l.n), .string ((x.kid 0).t.l.s), .slice A60 ((x.kid 0).kids.length) c61]) rfl)) ?_
                  refine q_call (v := .int .i64 (fast (x.kid 0))) F_e48 (w0 rfl) ev_f (m1 (ev_t rfl rfl)) (args := #[.agg #[.int .i8 ((x.kid 0).op), .string ((x.kid 0).t.v), .int .i8 ((x.kid 0).t.l.k), .int .i64 ((x.kid 0).t.l.n), .string ((x.kid 0).t.l.s), .slice A60 ((x.kid 0).kids.length) c61]]) rfl (fun w_ c_ => Rt.mono (r6_Fast (x.kid 0) A60 c61 _ ho62 (Row.extE hr63 (Ext.trans (Keep.then_ (Ext.trans (NewB.ext n3) (NewB.ext n66)) (Wrote.keep k68) (fun i_ hi_ h_ => by have a_ := NewB.eq n66; have b_ := Keep.size (NewB.ext n3); omega)) c_))) (fun v_ w2_ h_ => ⟨h_.1, Ext.trans c_ h_.2⟩)) ?_
                  refine q_val (v := .bool (decide (fast (x.kid 0) < 3))) (w0 rfl) (fun w_ c_ => r_cmp (r := decide (fast (x.kid 0) < 3)) (ev_t rfl rfl) ev_c rfl) ?_
                  by_cases h72 : fast (x.kid 0) < 3
                  · refine q_val (v := .bool true) (w0 rfl) (fun w_ c_ => r_move (v := .bool true) (vb (ev_t rfl rfl) (decide_eq_true h72))) ?_
                    refine q_skip (wn rfl rfl rfl rfl rfl) ?_
                    refine q_val (v := .bool true) (w0 rfl) (fun w_ c_ => r_pick1 (v := .bool true) (ev_t rfl rfl) ev_c) ?_
                    have hz73 := exW_le (d := d - 1) (by omega) (exKid0 hb (by omega)) (Ex.Ok.kid hk_ (kid_there (x := x) (j := 0) (by omega)))
                    have hz73_ := inB_size true (exW (d - 1) (x.kid 0))
                    refine q_call (v := .string (inB true (exW (d - 1) (x.kid 0)))) F_e47 (w0 rfl) ev_f (m2 (ev_t rfl rfl) (ev_t rfl rfl)) (args := #[.agg #[.int .i8 ((x.kid 0).op), .string ((x.kid 0).t.v), .int .i8 ((x.kid 0).t.l.k), .int .i64 ((x.kid 0).t.l.n), .string ((x.kid 0).t.l.s), .slice A60 ((x.kid 0).kids.length) c61], .bool true]) rfl (fun w_ c_ => Rt.mono (r6_within (d - 1) (x.kid 0) A60 c61 true _ ho62 (Row.extE hr63 (Ext.trans (Keep.then_ (Ext.trans (NewB.ext n3) (NewB.ext n66)) (Wrote.keep k68) (fun i_ hi_ h_ => by have a_ := NewB.eq n66; have b_ := Keep.size (NewB.ext n3); omega)) c_)) (ih (by omega) 0 _ (kid_there (x := x) (j := 0) (by omega)) (exKid0 hb (by omega))) hz73) (fun v_ w2_ h_ => ⟨h_.1, Ext.trans c_ h_.2⟩)) ?_
                    refine q_val (v := .string ((⟨#[45]⟩ : ByteArray) ++ (inB true (exW (d - 1) (x.kid 0))))) (w0 rfl) (fun w_ c_ => r_cat ev_c (ev_t rfl rfl) (by simp only [ByteArray.size_append, z0, z1, z2, z3, z4, z5, z6]; omega)) ?_
                    refine q_val (v := .string ((⟨#[45]⟩ : ByteArray) ++ (inB true (exW (d - 1) (x.kid 0))))) (w0 rfl) (fun w_ c_ => r_assign (v := .string ((⟨#[45]⟩ : ByteArray) ++ (inB true (exW (d - 1) (x.kid 0))))) (ev_t rfl rfl)) ?_
                    refine q_done ?_
                    intro w74 x75
                    refine n_then ?_
                    refine c_ret ?_
                    refine r_block ?_
                    refine r_then ?_
                    refine ret1 (v := .string ((⟨#[45]⟩ : ByteArray) ++ (inB true (exW (d - 1) (x.kid 0))))) rfl rfl rfl ?_
                    refine ⟨_, rfl, ?_, (Ext.trans (Keep.then_ (Ext.trans (NewB.ext n3) (NewB.ext n66)) (Wrote.keep k68) (fun i_ hi_ h_ => by have a_ := NewB.eq n66; have b_ := Keep.size (NewB.ext n3); omega)) x75)⟩
                    (refine congrArg Value.string ?_; rw [exW_pos hd0_]; first | (rw [if_pos (by omega)]; done) | (rw [if_neg (by omega), if_pos (by omega)]; done) | (rw [if_neg (by omega), if_neg (by omega), if_pos (by omega)]; refine congrArg _ (congrArg (fun b => inB b _) ?_); simp [numB, *]; done) | (rw [if_neg (by omega), if_neg (by omega), if_neg (by omega)]; done))
                  · refine q_val (v := .bool false) (w0 rfl) (fun w_ c_ => r_move (v := .bool false) (vb (ev_t rfl rfl) (decide_eq_false h72))) ?_
                    refine q_val (v := .bool (decide (0 ≤ (x.kid 0).t.l.n))) (wy rfl rfl rfl rfl) (fun w_ c_ => r_move (v := .bool (decide (0 ≤ (x.kid 0).t.l.n))) (ev_t rfl rfl)) ?_
                    refine q_val (v := .bool (decide (0 ≤ (x.kid 0).t.l.n))) (w0 rfl) (fun w_ c_ => r_pick0 (v := .bool (decide (0 ≤ (x.kid 0).t.l.n))) (ev_t rfl rfl) (ev_t rfl rfl)) ?_
                    have hz76 := exW_le (d := d - 1) (by omega) (exKid0 hb (by omega)) (Ex.Ok.kid hk_ (kid_there (x := x) (j := 0) (by omega)))
                    have hz76_ := inB_size (decide (0 ≤ (x.kid 0).t.l.n)) (exW (d - 1) (x.kid 0))
                    refine q_call (v := .string (inB (decide (0 ≤ (x.kid 0).t.l.n)) (exW (d - 1) (x.kid 0)))) F_e47 (w0 rfl) ev_f (m2 (ev_t rfl rfl) (ev_t rfl rfl)) (args := #[.agg #[.int .i8 ((x.kid 0).op), .string ((x.kid 0).t.v), .int .i8 ((x.kid 0).t.l.k), .int .i64 ((x.kid 0).t.l.n), .string ((x.kid 0).t.l.s), .slice A60 ((x.kid 0).kids.length) c61], .bool (decide (0 ≤ (x.kid 0).t.l.n))]) rfl (fun w_ c_ => Rt.mono (r6_within (d - 1) (x.kid 0) A60 c61 (decide (0 ≤ (x.kid 0).t.l.n)) _ ho62 (Row.extE hr63 (Ext.trans (Keep.then_ (Ext.trans (NewB.ext n3) (NewB.ext n66)) (Wrote.keep k68) (fun i_ hi_ h_ => by have a_ := NewB.eq n66; have b_ := Keep.size (NewB.ext n3); omega)) c_)) (ih (by omega) 0 _ (kid_there (x := x) (j := 0) (by omega)) (exKid0 hb (by omega))) hz76) (fun v_ w2_ h_ => ⟨h_.1, Ext.trans c_ h_.2⟩)) ?_
                    refine q_val (v := .string ((⟨#[45]⟩ : ByteArray) ++ (inB (decide (0 ≤ (x.kid 0).t.l.n)) (exW (d - 1) (x.kid 0))))) (w0 rfl) (fun w_ c_ => r_cat ev_c (ev_t rfl rfl) (by simp only [ByteArray.size_append, z0, z1, z2, z3, z4, z5, z6]; omega)) ?_
                    refine q_val (v := .string ((⟨#[45]⟩ : ByteArray) ++ (inB (decide (0 ≤ (x.kid 0).t.l.n)) (exW (d - 1) (x.kid 0))))) (w0 rfl) (fun w_ c_ => r_assign (v := .string ((⟨#[45]⟩ : ByteArray) ++ (inB (decide (0 ≤ (x.kid 0).t.l.n)) (exW (d - 1) (x.kid 0))))) (ev_t rfl rfl)) ?_
                    refine q_done ?_
                    intro w77 x78
                    refine n_then ?_
                    refine c_ret ?_
                    refine r_block ?_
                    refine r_then ?_
                    refine ret1 (v := .string ((⟨#[45]⟩ : ByteArray) ++ (inB (decide (0 ≤ (x.kid 0).t.l.n)) (exW (d - 1) (x.kid 0))))) rfl rfl rfl ?_
                    refine ⟨_, rfl, ?_, (Ext.trans (Keep.then_ (Ext.trans (NewB.ext n3) (NewB.ext n66)) (Wrote.keep k68) (fun i_ hi_ h_ => by have a_ := NewB.eq n66; have b_ := Keep.size (NewB.ext n3); omega)) x78)⟩
                    (refine congrArg Value.string ?_; rw [exW_pos hd0_]; first | (rw [if_pos (by omega)]; done) | (rw [if_neg (by omega), if_pos (by omega)]; done) | (rw [if_neg (by omega), if_neg (by omega), if_pos (by omega)]; refine congrArg _ (congrArg (fun b => inB b _) ?_); simp [numB, *]; done) | (rw [if_neg (by omega), if_neg (by omega), if_neg (by omega)]; done))
                · refine s_move (v := .bool false) (vb (ev_t rfl rfl) (decide_eq_false h71)) (w0 rfl) ?_
                  refine s_skip (wn rfl rfl rfl rfl rfl) ?_
                  refine s_skip (wn rfl rfl rfl rfl rfl) ?_
                  refine s_skip (wn rfl rfl rfl rfl rfl) ?_
                  refine s_skip (wn rfl rfl rfl rfl rfl) ?_
                  refine s_skip (wn rfl rfl rfl rfl rfl) ?_
                  refine s_pick0 (v := .bool false) (ev_t rfl rfl) ev_c (w0 rfl) ?_
                  refine s_assign (v := .bool false) (ev_t rfl rfl) (w0 rfl) ?_
                  refine c_done ?_
                  refine n_then ?_
                  refine c_seq ?_
                  refine c_quiet mixed (by kernel_rfl) ?_
                  refine q_val (v := .agg #[.int .i8 ((x.kid 0).op), .string ((x.kid 0).t.v), .int .i8 ((x.kid 0).t.l.k), .int .i64 ((x.kid 0).t.l.n), .string ((x.kid 0).t.l.s), .slice A60 ((x.kid 0).kids.length) c61]) (w0 rfl) (fun w_ c_ => r_loadL (cs := [.int .i8 ((x.kid 0).op), .string ((x.kid 0).t.v), .int .i8 ((x.kid 0).t.l.k), .int .i64 ((x.kid 0).t.l.n), .string ((x.kid 0).t.l.s), .slice A60 ((x.kid 0).kids.length) c61]) (ca := #[.int .i8 ((x.kid 0).op), .string ((x.kid 0).t.v), .int .i8 ((x.kid 0).t.l.k), .int .i64 ((x.kid 0).t.l.n), .string ((x.kid 0).t.l.s), .slice A60 ((x.kid 0).kids.length) c61]) F_m31 (ev_t rfl rfl) rfl rfl (blk_cells (Ext.blk c_ (Wrote.blk k68)) 0 (cs := [.int .i8 ((x.kid 0).op), .string ((x.kid 0).t.v), .int .i8 ((x.kid 0).t.l.k), .int .i64 ((x.kid 0).t.l.n), .string ((x.kid 0).t.l.s), .slice A60 ((x.kid 0).kids.length) c61]) rfl)) ?_
                  refine q_val (v := .agg #[.int .i8 ((x.kid 0).op), .string ((x.kid 0).t.v), .int .i8 ((x.kid 0).t.l.k), .int .i64 ((x.kid 0).t.l.n), .string ((x.kid 0).t.l.s), .slice A60 ((x.kid 0).kids.length) c61]) (w0 rfl) (fun w_ c_ => r_loadL (cs := [.int .i8 ((x.kid 0).op), .string ((x.kid 0).t.v), .int .i8 ((x.kid 0).t.l.k), .int .i64 ((x.kid 0).t.l.n), .string ((x.kid 0).t.l.s), .slice A60 ((x.kid 0).kids.length) c61]) (ca := #[.int .i8 ((x.kid 0).op), .string ((x.kid 0).t.v), .int .i8 ((x.kid 0).t.l.k), .int .i64 ((x.kid 0).t.l.n), .string ((x.kid 0).t.l.s), .slice A60 ((x.kid 0).kids.length) c61]) F_m31 (ev_t rfl rfl) rfl rfl (blk_cells (Ext.blk c_ (Wrote.blk k68)) 0 (cs := [.int .i8 ((x.kid 0).op), .string ((x.kid 0).t.v), .int .i8 ((x.kid 0).t.l.k), .int .i64 ((x.kid 0).t.l.n), .string ((x.kid 0).t.l.s), .slice A60 ((x.kid 0).kids.length) c61]) rfl)) ?_
                  refine q_call (v := .int .i64 (fast (x.kid 0))) F_e48 (w0 rfl) ev_f (m1 (ev_t rfl rfl)) (args := #[.agg #[.int .i8 ((x.kid 0).op), .string ((x.kid 0).t.v), .int .i8 ((x.kid 0).t.l.k), .int .i64 ((x.kid 0).t.l.n), .string ((x.kid 0).t.l.s), .slice A60 ((x.kid 0).kids.length) c61]]) rfl (fun w_ c_ => Rt.mono (r6_Fast (x.kid 0) A60 c61 _ ho62 (Row.extE hr63 (Ext.trans (Keep.then_ (Ext.trans (NewB.ext n3) (NewB.ext n66)) (Wrote.keep k68) (fun i_ hi_ h_ => by have a_ := NewB.eq n66; have b_ := Keep.size (NewB.ext n3); omega)) c_))) (fun v_ w2_ h_ => ⟨h_.1, Ext.trans c_ h_.2⟩)) ?_
                  refine q_val (v := .bool (decide (fast (x.kid 0) < 3))) (w0 rfl) (fun w_ c_ => r_cmp (r := decide (fast (x.kid 0) < 3)) (ev_t rfl rfl) ev_c rfl) ?_
                  by_cases h79 : fast (x.kid 0) < 3
                  · refine q_val (v := .bool true) (w0 rfl) (fun w_ c_ => r_move (v := .bool true) (vb (ev_t rfl rfl) (decide_eq_true h79))) ?_
                    refine q_skip (wn rfl rfl rfl rfl rfl) ?_
                    refine q_val (v := .bool true) (w0 rfl) (fun w_ c_ => r_pick1 (v := .bool true) (ev_t rfl rfl) ev_c) ?_
                    have hz80 := exW_le (d := d - 1) (by omega) (exKid0 hb (by omega)) (Ex.Ok.kid hk_ (kid_there (x := x) (j := 0) (by omega)))
                    have hz80_ := inB_size true (exW (d - 1) (x.kid 0))
                    refine q_call (v := .string (inB true (exW (d - 1) (x.kid 0)))) F_e47 (w0 rfl) ev_f (m2 (ev_t rfl rfl) (ev_t rfl rfl)) (args := #[.agg #[.int .i8 ((x.kid 0).op), .string ((x.kid 0).t.v), .int .i8 ((x.kid 0).t.l.k), .int .i64 ((x.kid 0).t.l.n), .string ((x.kid 0).t.l.s), .slice A60 ((x.kid 0).kids.length) c61], .bool true]) rfl (fun w_ c_ => Rt.mono (r6_within (d - 1) (x.kid 0) A60 c61 true _ ho62 (Row.extE hr63 (Ext.trans (Keep.then_ (Ext.trans (NewB.ext n3) (NewB.ext n66)) (Wrote.keep k68) (fun i_ hi_ h_ => by have a_ := NewB.eq n66; have b_ := Keep.size (NewB.ext n3); omega)) c_)) (ih (by omega) 0 _ (kid_there (x := x) (j := 0) (by omega)) (exKid0 hb (by omega))) hz80) (fun v_ w2_ h_ => ⟨h_.1, Ext.trans c_ h_.2⟩)) ?_
                    refine q_val (v := .string ((⟨#[45]⟩ : ByteArray) ++ (inB true (exW (d - 1) (x.kid 0))))) (w0 rfl) (fun w_ c_ => r_cat ev_c (ev_t rfl rfl) (by simp only [ByteArray.size_append, z0, z1, z2, z3, z4, z5, z6]; omega)) ?_
                    refine q_val (v := .string ((⟨#[45]⟩ : ByteArray) ++ (inB true (exW (d - 1) (x.kid 0))))) (w0 rfl) (fun w_ c_ => r_assign (v := .string ((⟨#[45]⟩ : ByteArray) ++ (inB true (exW (d - 1) (x.kid 0))))) (ev_t rfl rfl)) ?_
                    refine q_done ?_
                    intro w81 x82
                    refine n_then ?_
                    refine c_ret ?_
                    refine r_block ?_
                    refine r_then ?_
                    refine ret1 (v := .string ((⟨#[45]⟩ : ByteArray) ++ (inB true (exW (d - 1) (x.kid 0))))) rfl rfl rfl ?_
                    refine ⟨_, rfl, ?_, (Ext.trans (Keep.then_ (Ext.trans (NewB.ext n3) (NewB.ext n66)) (Wrote.keep k68) (fun i_ hi_ h_ => by have a_ := NewB.eq n66; have b_ := Keep.size (NewB.ext n3); omega)) x82)⟩
                    (refine congrArg Value.string ?_; rw [exW_pos hd0_]; first | (rw [if_pos (by omega)]; done) | (rw [if_neg (by omega), if_pos (by omega)]; done) | (rw [if_neg (by omega), if_neg (by omega), if_pos (by omega)]; refine congrArg _ (congrArg (fun b => inB b _) ?_); simp [numB, *]; done) | (rw [if_neg (by omega), if_neg (by omega), if_neg (by omega)]; done))
                  · refine q_val (v := .bool false) (w0 rfl) (fun w_ c_ => r_move (v := .bool false) (vb (ev_t rfl rfl) (decide_eq_false h79))) ?_
                    refine q_val (v := .bool false) (wy rfl rfl rfl rfl) (fun w_ c_ => r_move (v := .bool false) (ev_t rfl rfl)) ?_
                    refine q_val (v := .bool false) (w0 rfl) (fun w_ c_ => r_pick0 (v := .bool false) (ev_t rfl rfl) (ev_t rfl rfl)) ?_
                    have hz83 := exW_le (d := d - 1) (by omega) (exKid0 hb (by omega)) (Ex.Ok.kid hk_ (kid_there (x := x) (j := 0) (by omega)))
                    have hz83_ := inB_size false (exW (d - 1) (x.kid 0))
                    refine q_call (v := .string (inB false (exW (d - 1) (x.kid 0)))) F_e47 (w0 rfl) ev_f (m2 (ev_t rfl rfl) (ev_t rfl rfl)) (args := #[.agg #[.int .i8 ((x.kid 0).op), .string ((x.kid 0).t.v), .int .i8 ((x.kid 0).t.l.k), .int .i64 ((x.kid 0).t.l.n), .string ((x.kid 0).t.l.s), .slice A60 ((x.kid 0).kids.length) c61], .bool false]) rfl (fun w_ c_ => Rt.mono (r6_within (d - 1) (x.kid 0) A60 c61 false _ ho62 (Row.extE hr63 (Ext.trans (Keep.then_ (Ext.trans (NewB.ext n3) (NewB.ext n66)) (Wrote.keep k68) (fun i_ hi_ h_ => by have a_ := NewB.eq n66; have b_ := Keep.size (NewB.ext n3); omega)) c_)) (ih (by omega) 0 _ (kid_there (x := x) (j := 0) (by omega)) (exKid0 hb (by omega))) hz83) (fun v_ w2_ h_ => ⟨h_.1, Ext.trans c_ h_.2⟩)) ?_
                    refine q_val (v := .string ((⟨#[45]⟩ : ByteArray) ++ (inB false (exW (d - 1) (x.kid 0))))) (w0 rfl) (fun w_ c_ => r_cat ev_c (ev_t rfl rfl) (by simp only [ByteArray.size_append, z0, z1, z2, z3, z4, z5, z6]; omega)) ?_
                    refine q_val (v := .string ((⟨#[45]⟩ : ByteArray) ++ (inB false (exW (d - 1) (x.kid 0))))) (w0 rfl) (fun w_ c_ => r_assign (v := .string ((⟨#[45]⟩ : ByteArray) ++ (inB false (exW (d - 1) (x.kid 0))))) (ev_t rfl rfl)) ?_
                    refine q_done ?_
                    intro w84 x85
                    refine n_then ?_
                    refine c_ret ?_
                    refine r_block ?_
                    refine r_then ?_
                    refine ret1 (v := .string ((⟨#[45]⟩ : ByteArray) ++ (inB false (exW (d - 1) (x.kid 0))))) rfl rfl rfl ?_
                    refine ⟨_, rfl, ?_, (Ext.trans (Keep.then_ (Ext.trans (NewB.ext n3) (NewB.ext n66)) (Wrote.keep k68) (fun i_ hi_ h_ => by have a_ := NewB.eq n66; have b_ := Keep.size (NewB.ext n3); omega)) x85)⟩
                    (refine congrArg Value.string ?_; rw [exW_pos hd0_]; first | (rw [if_pos (by omega)]; done) | (rw [if_neg (by omega), if_pos (by omega)]; done) | (rw [if_neg (by omega), if_neg (by omega), if_pos (by omega)]; refine congrArg _ (congrArg (fun b => inB b _) ?_); simp [numB, *]; done) | (rw [if_neg (by omega), if_neg (by omega), if_neg (by omega)]; done))
              · refine s_move (v := .bool false) (vb (ev_t rfl rfl) (decide_eq_false h70)) (w0 rfl) ?_
                refine s_skip (wn rfl rfl rfl rfl rfl) ?_
                refine s_skip (wn rfl rfl rfl rfl rfl) ?_
                refine s_skip (wn rfl rfl rfl rfl rfl) ?_
                refine s_skip (wn rfl rfl rfl rfl rfl) ?_
                refine s_skip (wn rfl rfl rfl rfl rfl) ?_
                refine s_pick0 (v := .bool false) (ev_t rfl rfl) ev_c (w0 rfl) ?_
                refine s_move (v := .bool false) (ev_t rfl rfl) (w0 rfl) ?_
                refine s_skip (wn rfl rfl rfl rfl rfl) ?_
                refine s_skip (wn rfl rfl rfl rfl rfl) ?_
                refine s_skip (wn rfl rfl rfl rfl rfl) ?_
                refine s_skip (wn rfl rfl rfl rfl rfl) ?_
                refine s_skip (wn rfl rfl rfl rfl rfl) ?_
                refine s_pick0 (v := .bool false) (ev_t rfl rfl) ev_c (w0 rfl) ?_
                refine s_assign (v := .bool false) (ev_t rfl rfl) (w0 rfl) ?_
                refine c_done ?_
                refine n_then ?_
                refine c_seq ?_
                refine c_quiet mixed (by kernel_rfl) ?_
                refine q_val (v := .agg #[.int .i8 ((x.kid 0).op), .string ((x.kid 0).t.v), .int .i8 ((x.kid 0).t.l.k), .int .i64 ((x.kid 0).t.l.n), .string ((x.kid 0).t.l.s), .slice A60 ((x.kid 0).kids.length) c61]) (w0 rfl) (fun w_ c_ => r_loadL (cs := [.int .i8 ((x.kid 0).op), .string ((x.kid 0).t.v), .int .i8 ((x.kid 0).t.l.k), .int .i64 ((x.kid 0).t.l.n), .string ((x.kid 0).t.l.s), .slice A60 ((x.kid 0).kids.length) c61]) (ca := #[.int .i8 ((x.kid 0).op), .string ((x.kid 0).t.v), .int .i8 ((x.kid 0).t.l.k), .int .i64 ((x.kid 0).t.l.n), .string ((x.kid 0).t.l.s), .slice A60 ((x.kid 0).kids.length) c61]) F_m31 (ev_t rfl rfl) rfl rfl (blk_cells (Ext.blk c_ (Wrote.blk k68)) 0 (cs := [.int .i8 ((x.kid 0).op), .string ((x.kid 0).t.v), .int .i8 ((x.kid 0).t.l.k), .int .i64 ((x.kid 0).t.l.n), .string ((x.kid 0).t.l.s), .slice A60 ((x.kid 0).kids.length) c61]) rfl)) ?_
                refine q_val (v := .agg #[.int .i8 ((x.kid 0).op), .string ((x.kid 0).t.v), .int .i8 ((x.kid 0).t.l.k), .int .i64 ((x.kid 0).t.l.n), .string ((x.kid 0).t.l.s), .slice A60 ((x.kid 0).kids.length) c61]) (w0 rfl) (fun w_ c_ => r_loadL (cs := [.int .i8 ((x.kid 0).op), .string ((x.kid 0).t.v), .int .i8 ((x.kid 0).t.l.k), .int .i64 ((x.kid 0).t.l.n), .string ((x.kid 0).t.l.s), .slice A60 ((x.kid 0).kids.length) c61]) (ca := #[.int .i8 ((x.kid 0).op), .string ((x.kid 0).t.v), .int .i8 ((x.kid 0).t.l.k), .int .i64 ((x.kid 0).t.l.n), .string ((x.kid 0).t.l.s), .slice A60 ((x.kid 0).kids.length) c61]) F_m31 (ev_t rfl rfl) rfl rfl (blk_cells (Ext.blk c_ (Wrote.blk k68)) 0 (cs := [.int .i8 ((x.kid 0).op), .string ((x.kid 0).t.v), .int .i8 ((x.kid 0).t.l.k), .int .i64 ((x.kid 0).t.l.n), .string ((x.kid 0).t.l.s), .slice A60 ((x.kid 0).kids.length) c61]) rfl)) ?_
                refine q_call (v := .int .i64 (fast (x.kid 0))) F_e48 (w0 rfl) ev_f (m1 (ev_t rfl rfl)) (args := #[.agg #[.int .i8 ((x.kid 0).op), .string ((x.kid 0).t.v), .int .i8 ((x.kid 0).t.l.k), .int .i64 ((x.kid 0).t.l.n), .string ((x.kid 0).t.l.s), .slice A60 ((x.kid 0).kids.length) c61]]) rfl (fun w_ c_ => Rt.mono (r6_Fast (x.kid 0) A60 c61 _ ho62 (Row.extE hr63 (Ext.trans (Keep.then_ (Ext.trans (NewB.ext n3) (NewB.ext n66)) (Wrote.keep k68) (fun i_ hi_ h_ => by have a_ := NewB.eq n66; have b_ := Keep.size (NewB.ext n3); omega)) c_))) (fun v_ w2_ h_ => ⟨h_.1, Ext.trans c_ h_.2⟩)) ?_
                refine q_val (v := .bool (decide (fast (x.kid 0) < 3))) (w0 rfl) (fun w_ c_ => r_cmp (r := decide (fast (x.kid 0) < 3)) (ev_t rfl rfl) ev_c rfl) ?_
                by_cases h86 : fast (x.kid 0) < 3
                · refine q_val (v := .bool true) (w0 rfl) (fun w_ c_ => r_move (v := .bool true) (vb (ev_t rfl rfl) (decide_eq_true h86))) ?_
                  refine q_skip (wn rfl rfl rfl rfl rfl) ?_
                  refine q_val (v := .bool true) (w0 rfl) (fun w_ c_ => r_pick1 (v := .bool true) (ev_t rfl rfl) ev_c) ?_
                  have hz87 := exW_le (d := d - 1) (by omega) (exKid0 hb (by omega)) (Ex.Ok.kid hk_ (kid_there (x := x) (j := 0) (by omega)))
                  have hz87_ := inB_size true (exW (d - 1) (x.kid 0))
                  refine q_call (v := .string (inB true (exW (d - 1) (x.kid 0)))) F_e47 (w0 rfl) ev_f (m2 (ev_t rfl rfl) (ev_t rfl rfl)) (args := #[.agg #[.int .i8 ((x.kid 0).op), .string ((x.kid 0).t.v), .int .i8 ((x.kid 0).t.l.k), .int .i64 ((x.kid 0).t.l.n), .string ((x.kid 0).t.l.s), .slice A60 ((x.kid 0).kids.length) c61], .bool true]) rfl (fun w_ c_ => Rt.mono (r6_within (d - 1) (x.kid 0) A60 c61 true _ ho62 (Row.extE hr63 (Ext.trans (Keep.then_ (Ext.trans (NewB.ext n3) (NewB.ext n66)) (Wrote.keep k68) (fun i_ hi_ h_ => by have a_ := NewB.eq n66; have b_ := Keep.size (NewB.ext n3); omega)) c_)) (ih (by omega) 0 _ (kid_there (x := x) (j := 0) (by omega)) (exKid0 hb (by omega))) hz87) (fun v_ w2_ h_ => ⟨h_.1, Ext.trans c_ h_.2⟩)) ?_
                  refine q_val (v := .string ((⟨#[45]⟩ : ByteArray) ++ (inB true (exW (d - 1) (x.kid 0))))) (w0 rfl) (fun w_ c_ => r_cat ev_c (ev_t rfl rfl) (by simp only [ByteArray.size_append, z0, z1, z2, z3, z4, z5, z6]; omega)) ?_
                  refine q_val (v := .string ((⟨#[45]⟩ : ByteArray) ++ (inB true (exW (d - 1) (x.kid 0))))) (w0 rfl) (fun w_ c_ => r_assign (v := .string ((⟨#[45]⟩ : ByteArray) ++ (inB true (exW (d - 1) (x.kid 0))))) (ev_t rfl rfl)) ?_
                  refine q_done ?_
                  intro w88 x89
                  refine n_then ?_
                  refine c_ret ?_
                  refine r_block ?_
                  refine r_then ?_
                  refine ret1 (v := .string ((⟨#[45]⟩ : ByteArray) ++ (inB true (exW (d - 1) (x.kid 0))))) rfl rfl rfl ?_
                  refine ⟨_, rfl, ?_, (Ext.trans (Keep.then_ (Ext.trans (NewB.ext n3) (NewB.ext n66)) (Wrote.keep k68) (fun i_ hi_ h_ => by have a_ := NewB.eq n66; have b_ := Keep.size (NewB.ext n3); omega)) x89)⟩
                  (refine congrArg Value.string ?_; rw [exW_pos hd0_]; first | (rw [if_pos (by omega)]; done) | (rw [if_neg (by omega), if_pos (by omega)]; done) | (rw [if_neg (by omega), if_neg (by omega), if_pos (by omega)]; refine congrArg _ (congrArg (fun b => inB b _) ?_); simp [numB, *]; done) | (rw [if_neg (by omega), if_neg (by omega), if_neg (by omega)]; done))
                · refine q_val (v := .bool false) (w0 rfl) (fun w_ c_ => r_move (v := .bool false) (vb (ev_t rfl rfl) (decide_eq_false h86))) ?_
                  refine q_val (v := .bool false) (wy rfl rfl rfl rfl) (fun w_ c_ => r_move (v := .bool false) (ev_t rfl rfl)) ?_
                  refine q_val (v := .bool false) (w0 rfl) (fun w_ c_ => r_pick0 (v := .bool false) (ev_t rfl rfl) (ev_t rfl rfl)) ?_
                  have hz90 := exW_le (d := d - 1) (by omega) (exKid0 hb (by omega)) (Ex.Ok.kid hk_ (kid_there (x := x) (j := 0) (by omega)))
                  have hz90_ := inB_size false (exW (d - 1) (x.kid 0))
                  refine q_call (v := .string (inB false (exW (d - 1) (x.kid 0)))) F_e47 (w0 rfl) ev_f (m2 (ev_t rfl rfl) (ev_t rfl rfl)) (args := #[.agg #[.int .i8 ((x.kid 0).op), .string ((x.kid 0).t.v), .int .i8 ((x.kid 0).t.l.k), .int .i64 ((x.kid 0).t.l.n), .string ((x.kid 0).t.l.s), .slice A60 ((x.kid 0).kids.length) c61], .bool false]) rfl (fun w_ c_ => Rt.mono (r6_within (d - 1) (x.kid 0) A60 c61 false _ ho62 (Row.extE hr63 (Ext.trans (Keep.then_ (Ext.trans (NewB.ext n3) (NewB.ext n66)) (Wrote.keep k68) (fun i_ hi_ h_ => by have a_ := NewB.eq n66; have b_ := Keep.size (NewB.ext n3); omega)) c_)) (ih (by omega) 0 _ (kid_there (x := x) (j := 0) (by omega)) (exKid0 hb (by omega))) hz90) (fun v_ w2_ h_ => ⟨h_.1, Ext.trans c_ h_.2⟩)) ?_
                  refine q_val (v := .string ((⟨#[45]⟩ : ByteArray) ++ (inB false (exW (d - 1) (x.kid 0))))) (w0 rfl) (fun w_ c_ => r_cat ev_c (ev_t rfl rfl) (by simp only [ByteArray.size_append, z0, z1, z2, z3, z4, z5, z6]; omega)) ?_
                  refine q_val (v := .string ((⟨#[45]⟩ : ByteArray) ++ (inB false (exW (d - 1) (x.kid 0))))) (w0 rfl) (fun w_ c_ => r_assign (v := .string ((⟨#[45]⟩ : ByteArray) ++ (inB false (exW (d - 1) (x.kid 0))))) (ev_t rfl rfl)) ?_
                  refine q_done ?_
                  intro w91 x92
                  refine n_then ?_
                  refine c_ret ?_
                  refine r_block ?_
                  refine r_then ?_
                  refine ret1 (v := .string ((⟨#[45]⟩ : ByteArray) ++ (inB false (exW (d - 1) (x.kid 0))))) rfl rfl rfl ?_
                  refine ⟨_, rfl, ?_, (Ext.trans (Keep.then_ (Ext.trans (NewB.ext n3) (NewB.ext n66)) (Wrote.keep k68) (fun i_ hi_ h_ => by have a_ := NewB.eq n66; have b_ := Keep.size (NewB.ext n3); omega)) x92)⟩
                  (refine congrArg Value.string ?_; rw [exW_pos hd0_]; first | (rw [if_pos (by omega)]; done) | (rw [if_neg (by omega), if_pos (by omega)]; done) | (rw [if_neg (by omega), if_neg (by omega), if_pos (by omega)]; refine congrArg _ (congrArg (fun b => inB b _) ?_); simp [numB, *]; done) | (rw [if_neg (by omega), if_neg (by omega), if_neg (by omega)]; done))
            · refine s_move (v := .bool false) (vb (ev_t rfl rfl) (decide_eq_false h69)) (w0 rfl) ?_
              refine s_skip (wn rfl rfl rfl rfl rfl) ?_
              refine s_skip (wn rfl rfl rfl rfl rfl) ?_
              refine s_skip (wn rfl rfl rfl rfl rfl) ?_
              refine s_skip (wn rfl rfl rfl rfl rfl) ?_
              refine s_pick0 (v := .bool false) (ev_t rfl rfl) ev_c (w0 rfl) ?_
              refine s_move (v := .bool false) (ev_t rfl rfl) (w0 rfl) ?_
              refine s_skip (wn rfl rfl rfl rfl rfl) ?_
              refine s_skip (wn rfl rfl rfl rfl rfl) ?_
              refine s_skip (wn rfl rfl rfl rfl rfl) ?_
              refine s_skip (wn rfl rfl rfl rfl rfl) ?_
              refine s_skip (wn rfl rfl rfl rfl rfl) ?_
              refine s_pick0 (v := .bool false) (ev_t rfl rfl) ev_c (w0 rfl) ?_
              refine s_move (v := .bool false) (ev_t rfl rfl) (w0 rfl) ?_
              refine s_skip (wn rfl rfl rfl rfl rfl) ?_
              refine s_skip (wn rfl rfl rfl rfl rfl) ?_
              refine s_skip (wn rfl rfl rfl rfl rfl) ?_
              refine s_skip (wn rfl rfl rfl rfl rfl) ?_
              refine s_skip (wn rfl rfl rfl rfl rfl) ?_
              refine s_pick0 (v := .bool false) (ev_t rfl rfl) ev_c (w0 rfl) ?_
              refine s_assign (v := .bool false) (ev_t rfl rfl) (w0 rfl) ?_
              refine c_done ?_
              refine n_then ?_
              refine c_seq ?_
              refine c_quiet mixed (by kernel_rfl) ?_
              refine q_val (v := .agg #[.int .i8 ((x.kid 0).op), .string ((x.kid 0).t.v), .int .i8 ((x.kid 0).t.l.k), .int .i64 ((x.kid 0).t.l.n), .string ((x.kid 0).t.l.s), .slice A60 ((x.kid 0).kids.length) c61]) (w0 rfl) (fun w_ c_ => r_loadL (cs := [.int .i8 ((x.kid 0).op), .string ((x.kid 0).t.v), .int .i8 ((x.kid 0).t.l.k), .int .i64 ((x.kid 0).t.l.n), .string ((x.kid 0).t.l.s), .slice A60 ((x.kid 0).kids.length) c61]) (ca := #[.int .i8 ((x.kid 0).op), .string ((x.kid 0).t.v), .int .i8 ((x.kid 0).t.l.k), .int .i64 ((x.kid 0).t.l.n), .string ((x.kid 0).t.l.s), .slice A60 ((x.kid 0).kids.length) c61]) F_m31 (ev_t rfl rfl) rfl rfl (blk_cells (Ext.blk c_ (Wrote.blk k68)) 0 (cs := [.int .i8 ((x.kid 0).op), .string ((x.kid 0).t.v), .int .i8 ((x.kid 0).t.l.k), .int .i64 ((x.kid 0).t.l.n), .string ((x.kid 0).t.l.s), .slice A60 ((x.kid 0).kids.length) c61]) rfl)) ?_
              refine q_val (v := .agg #[.int .i8 ((x.kid 0).op), .string ((x.kid 0).t.v), .int .i8 ((x.kid 0).t.l.k), .int .i64 ((x.kid 0).t.l.n), .string ((x.kid 0).t.l.s), .slice A60 ((x.kid 0).kids.length) c61]) (w0 rfl) (fun w_ c_ => r_loadL (cs := [.int .i8 ((x.kid 0).op), .string ((x.kid 0).t.v), .int .i8 ((x.kid 0).t.l.k), .int .i64 ((x.kid 0).t.l.n), .string ((x.kid 0).t.l.s), .slice A60 ((x.kid 0).kids.length) c61]) (ca := #[.int .i8 ((x.kid 0).op), .string ((x.kid 0).t.v), .int .i8 ((x.kid 0).t.l.k), .int .i64 ((x.kid 0).t.l.n), .string ((x.kid 0).t.l.s), .slice A60 ((x.kid 0).kids.length) c61]) F_m31 (ev_t rfl rfl) rfl rfl (blk_cells (Ext.blk c_ (Wrote.blk k68)) 0 (cs := [.int .i8 ((x.kid 0).op), .string ((x.kid 0).t.v), .int .i8 ((x.kid 0).t.l.k), .int .i64 ((x.kid 0).t.l.n), .string ((x.kid 0).t.l.s), .slice A60 ((x.kid 0).kids.length) c61]) rfl)) ?_
              refine q_call (v := .int .i64 (fast (x.kid 0))) F_e48 (w0 rfl) ev_f (m1 (ev_t rfl rfl)) (args := #[.agg #[.int .i8 ((x.kid 0).op), .string ((x.kid 0).t.v), .int .i8 ((x.kid 0).t.l.k), .int .i64 ((x.kid 0).t.l.n), .string ((x.kid 0).t.l.s), .slice A60 ((x.kid 0).kids.length) c61]]) rfl (fun w_ c_ => Rt.mono (r6_Fast (x.kid 0) A60 c61 _ ho62 (Row.extE hr63 (Ext.trans (Keep.then_ (Ext.trans (NewB.ext n3) (NewB.ext n66)) (Wrote.keep k68) (fun i_ hi_ h_ => by have a_ := NewB.eq n66; have b_ := Keep.size (NewB.ext n3); omega)) c_))) (fun v_ w2_ h_ => ⟨h_.1, Ext.trans c_ h_.2⟩)) ?_
              refine q_val (v := .bool (decide (fast (x.kid 0) < 3))) (w0 rfl) (fun w_ c_ => r_cmp (r := decide (fast (x.kid 0) < 3)) (ev_t rfl rfl) ev_c rfl) ?_
              by_cases h93 : fast (x.kid 0) < 3
              · refine q_val (v := .bool true) (w0 rfl) (fun w_ c_ => r_move (v := .bool true) (vb (ev_t rfl rfl) (decide_eq_true h93))) ?_
                refine q_skip (wn rfl rfl rfl rfl rfl) ?_
                refine q_val (v := .bool true) (w0 rfl) (fun w_ c_ => r_pick1 (v := .bool true) (ev_t rfl rfl) ev_c) ?_
                have hz94 := exW_le (d := d - 1) (by omega) (exKid0 hb (by omega)) (Ex.Ok.kid hk_ (kid_there (x := x) (j := 0) (by omega)))
                have hz94_ := inB_size true (exW (d - 1) (x.kid 0))
                refine q_call (v := .string (inB true (exW (d - 1) (x.kid 0)))) F_e47 (w0 rfl) ev_f (m2 (ev_t rfl rfl) (ev_t rfl rfl)) (args := #[.agg #[.int .i8 ((x.kid 0).op), .string ((x.kid 0).t.v), .int .i8 ((x.kid 0).t.l.k), .int .i64 ((x.kid 0).t.l.n), .string ((x.kid 0).t.l.s), .slice A60 ((x.kid 0).kids.length) c61], .bool true]) rfl (fun w_ c_ => Rt.mono (r6_within (d - 1) (x.kid 0) A60 c61 true _ ho62 (Row.extE hr63 (Ext.trans (Keep.then_ (Ext.trans (NewB.ext n3) (NewB.ext n66)) (Wrote.keep k68) (fun i_ hi_ h_ => by have a_ := NewB.eq n66; have b_ := Keep.size (NewB.ext n3); omega)) c_)) (ih (by omega) 0 _ (kid_there (x := x) (j := 0) (by omega)) (exKid0 hb (by omega))) hz94) (fun v_ w2_ h_ => ⟨h_.1, Ext.trans c_ h_.2⟩)) ?_
                refine q_val (v := .string ((⟨#[45]⟩ : ByteArray) ++ (inB true (exW (d - 1) (x.kid 0))))) (w0 rfl) (fun w_ c_ => r_cat ev_c (ev_t rfl rfl) (by simp only [ByteArray.size_append, z0, z1, z2, z3, z4, z5, z6]; omega)) ?_
                refine q_val (v := .string ((⟨#[45]⟩ : ByteArray) ++ (inB true (exW (d - 1) (x.kid 0))))) (w0 rfl) (fun w_ c_ => r_assign (v := .string ((⟨#[45]⟩ : ByteArray) ++ (inB true (exW (d - 1) (x.kid 0))))) (ev_t rfl rfl)) ?_
                refine q_done ?_
                intro w95 x96
                refine n_then ?_
                refine c_ret ?_
                refine r_block ?_
                refine r_then ?_
                refine ret1 (v := .string ((⟨#[45]⟩ : ByteArray) ++ (inB true (exW (d - 1) (x.kid 0))))) rfl rfl rfl ?_
                refine ⟨_, rfl, ?_, (Ext.trans (Keep.then_ (Ext.trans (NewB.ext n3) (NewB.ext n66)) (Wrote.keep k68) (fun i_ hi_ h_ => by have a_ := NewB.eq n66; have b_ := Keep.size (NewB.ext n3); omega)) x96)⟩
                (refine congrArg Value.string ?_; rw [exW_pos hd0_]; first | (rw [if_pos (by omega)]; done) | (rw [if_neg (by omega), if_pos (by omega)]; done) | (rw [if_neg (by omega), if_neg (by omega), if_pos (by omega)]; refine congrArg _ (congrArg (fun b => inB b _) ?_); simp [numB, *]; done) | (rw [if_neg (by omega), if_neg (by omega), if_neg (by omega)]; done))
              · refine q_val (v := .bool false) (w0 rfl) (fun w_ c_ => r_move (v := .bool false) (vb (ev_t rfl rfl) (decide_eq_false h93))) ?_
                refine q_val (v := .bool false) (wy rfl rfl rfl rfl) (fun w_ c_ => r_move (v := .bool false) (ev_t rfl rfl)) ?_
                refine q_val (v := .bool false) (w0 rfl) (fun w_ c_ => r_pick0 (v := .bool false) (ev_t rfl rfl) (ev_t rfl rfl)) ?_
                have hz97 := exW_le (d := d - 1) (by omega) (exKid0 hb (by omega)) (Ex.Ok.kid hk_ (kid_there (x := x) (j := 0) (by omega)))
                have hz97_ := inB_size false (exW (d - 1) (x.kid 0))
                refine q_call (v := .string (inB false (exW (d - 1) (x.kid 0)))) F_e47 (w0 rfl) ev_f (m2 (ev_t rfl rfl) (ev_t rfl rfl)) (args := #[.agg #[.int .i8 ((x.kid 0).op), .string ((x.kid 0).t.v), .int .i8 ((x.kid 0).t.l.k), .int .i64 ((x.kid 0).t.l.n), .string ((x.kid 0).t.l.s), .slice A60 ((x.kid 0).kids.length) c61], .bool false]) rfl (fun w_ c_ => Rt.mono (r6_within (d - 1) (x.kid 0) A60 c61 false _ ho62 (Row.extE hr63 (Ext.trans (Keep.then_ (Ext.trans (NewB.ext n3) (NewB.ext n66)) (Wrote.keep k68) (fun i_ hi_ h_ => by have a_ := NewB.eq n66; have b_ := Keep.size (NewB.ext n3); omega)) c_)) (ih (by omega) 0 _ (kid_there (x := x) (j := 0) (by omega)) (exKid0 hb (by omega))) hz97) (fun v_ w2_ h_ => ⟨h_.1, Ext.trans c_ h_.2⟩)) ?_
                refine q_val (v := .string ((⟨#[45]⟩ : ByteArray) ++ (inB false (exW (d - 1) (x.kid 0))))) (w0 rfl) (fun w_ c_ => r_cat ev_c (ev_t rfl rfl) (by simp only [ByteArray.size_append, z0, z1, z2, z3, z4, z5, z6]; omega)) ?_
                refine q_val (v := .string ((⟨#[45]⟩ : ByteArray) ++ (inB false (exW (d - 1) (x.kid 0))))) (w0 rfl) (fun w_ c_ => r_assign (v := .string ((⟨#[45]⟩ : ByteArray) ++ (inB false (exW (d - 1) (x.kid 0))))) (ev_t rfl rfl)) ?_
                refine q_done ?_
                intro w98 x99
                refine n_then ?_
                refine c_ret ?_
                refine r_block ?_
                refine r_then ?_
                refine ret1 (v := .string ((⟨#[45]⟩ : ByteArray) ++ (inB false (exW (d - 1) (x.kid 0))))) rfl rfl rfl ?_
                refine ⟨_, rfl, ?_, (Ext.trans (Keep.then_ (Ext.trans (NewB.ext n3) (NewB.ext n66)) (Wrote.keep k68) (fun i_ hi_ h_ => by have a_ := NewB.eq n66; have b_ := Keep.size (NewB.ext n3); omega)) x99)⟩
                (refine congrArg Value.string ?_; rw [exW_pos hd0_]; first | (rw [if_pos (by omega)]; done) | (rw [if_neg (by omega), if_pos (by omega)]; done) | (rw [if_neg (by omega), if_neg (by omega), if_pos (by omega)]; refine congrArg _ (congrArg (fun b => inB b _) ?_); simp [numB, *]; done) | (rw [if_neg (by omega), if_neg (by omega), if_neg (by omega)]; done))
          · refine c_cond0 (vb (ev_t rfl rfl) (decide_eq_false h52)) ?_
            refine c_skip ?_
            refine n_block ?_
            refine n_then ?_
            refine c_seq ?_
            refine c_head2 (fun w_ => Ext w2 w_) 8 mixed (by kernel_rfl) rfl (fun _ x_ => x_) ?_
            intro w100 x101
            refine h_val (v := .pointer (some ⟨g1, 5, none⟩)) (w0 rfl) (fun w_ c_ => r_field (off := 5) (o' := 5) F_f31_2 (ev_t rfl rfl) rfl) ?_
            refine h_val (v := .slice A x.kids.length c) (w0 rfl) (fun w_ c_ => r_load (v := .slice A x.kids.length c) F_o29 (ev_t rfl rfl) (cell_of_blk (i := 5) (Ext.blk c_ (NewB.blk n3)) rfl)) ?_
            obtain ⟨b102, o103, x104, csx104, hA105, hx106, hR107, hc108⟩ := Row.at_ hr 0 (by omega)
            obtain rfl := Ex.kid_of hx106
            obtain ⟨A109, c110, rfl, ho111, hr112⟩ := RE.open_ hR107
            refine h_val (v := .pointer (some ⟨b102, o103 + 0 * 6, none⟩)) (w0 rfl) (fun w_ c_ => r_indexR (j := 0) F_l29 (ev_t rfl rfl) hA105 ev_c rfl (by omega)) ?_
            refine h_val (v := .agg #[.int .i8 ((x.kid 0).op), .string ((x.kid 0).t.v), .int .i8 ((x.kid 0).t.l.k), .int .i64 ((x.kid 0).t.l.n), .string ((x.kid 0).t.l.s), .slice A109 ((x.kid 0).kids.length) c110]) (w0 rfl) (fun w_ c_ => r_loadL (cs := [.int .i8 ((x.kid 0).op), .string ((x.kid 0).t.v), .int .i8 ((x.kid 0).t.l.k), .int .i64 ((x.kid 0).t.l.n), .string ((x.kid 0).t.l.s), .slice A109 ((x.kid 0).kids.length) c110]) (ca := #[.int .i8 ((x.kid 0).op), .string ((x.kid 0).t.v), .int .i8 ((x.kid 0).t.l.k), .int .i64 ((x.kid 0).t.l.n), .string ((x.kid 0).t.l.s), .slice A109 ((x.kid 0).kids.length) c110]) F_m31 (ev_t rfl rfl) rfl rfl (sub_cells (cells_ext c_ (cells_ext (NewB.ext n3) hc108)) 0 (cs2 := [.int .i8 ((x.kid 0).op), .string ((x.kid 0).t.v), .int .i8 ((x.kid 0).t.l.k), .int .i64 ((x.kid 0).t.l.n), .string ((x.kid 0).t.l.s), .slice A109 ((x.kid 0).kids.length) c110]) rfl)) ?_
            refine h_val (v := .pointer (some ⟨g1, 5, none⟩)) (w0 rfl) (fun w_ c_ => r_field (off := 5) (o' := 5) F_f31_2 (ev_t rfl rfl) rfl) ?_
            refine h_val (v := .slice A x.kids.length c) (w0 rfl) (fun w_ c_ => r_load (v := .slice A x.kids.length c) F_o29 (ev_t rfl rfl) (cell_of_blk (i := 5) (Ext.blk c_ (NewB.blk n3)) rfl)) ?_
            obtain ⟨b113, o114, x115, csx115, hA116, hx117, hR118, hc119⟩ := Row.at_ hr 1 (by omega)
            obtain rfl := Ex.kid_of hx117
            obtain ⟨A120, c121, rfl, ho122, hr123⟩ := RE.open_ hR118
            refine h_val (v := .pointer (some ⟨b113, o114 + 1 * 6, none⟩)) (w0 rfl) (fun w_ c_ => r_indexR (j := 1) F_l29 (ev_t rfl rfl) hA116 ev_c rfl (by omega)) ?_
            refine h_val (v := .agg #[.int .i8 ((x.kid 1).op), .string ((x.kid 1).t.v), .int .i8 ((x.kid 1).t.l.k), .int .i64 ((x.kid 1).t.l.n), .string ((x.kid 1).t.l.s), .slice A120 ((x.kid 1).kids.length) c121]) (w0 rfl) (fun w_ c_ => r_loadL (cs := [.int .i8 ((x.kid 1).op), .string ((x.kid 1).t.v), .int .i8 ((x.kid 1).t.l.k), .int .i64 ((x.kid 1).t.l.n), .string ((x.kid 1).t.l.s), .slice A120 ((x.kid 1).kids.length) c121]) (ca := #[.int .i8 ((x.kid 1).op), .string ((x.kid 1).t.v), .int .i8 ((x.kid 1).t.l.k), .int .i64 ((x.kid 1).t.l.n), .string ((x.kid 1).t.l.s), .slice A120 ((x.kid 1).kids.length) c121]) F_m31 (ev_t rfl rfl) rfl rfl (sub_cells (cells_ext c_ (cells_ext (NewB.ext n3) hc119)) 0 (cs2 := [.int .i8 ((x.kid 1).op), .string ((x.kid 1).t.v), .int .i8 ((x.kid 1).t.l.k), .int .i64 ((x.kid 1).t.l.n), .string ((x.kid 1).t.l.s), .slice A120 ((x.kid 1).kids.length) c121]) rfl)) ?_
            refine h_done ?_
            refine ⟨?_, ?_⟩
            · refine tl_cons ?_
              refine s_alloc (cs := #[.int .i8 0, .string (⟨#[]⟩ : ByteArray), .int .i8 0, .int .i64 0, .string (⟨#[]⟩ : ByteArray), .slice none 0 0]) (w0 rfl) F_z31 rfl ?_
              intro w125 g124 n126
              refine tl_done ⟨(Ext.trans x101 (NewB.ext n126)), ?_⟩
              refine tl_cons ?_
              refine s_alloc (cs := #[.int .i8 0, .string (⟨#[]⟩ : ByteArray), .int .i8 0, .int .i64 0, .string (⟨#[]⟩ : ByteArray), .slice none 0 0]) (w0 rfl) F_z31 rfl ?_
              intro w128 g127 n129
              refine tl_done ⟨(Ext.trans (Ext.trans x101 (NewB.ext n126)) (NewB.ext n129)), ?_⟩
              refine tl_cons ?_
              refine s_store (cs' := #[.int .i8 ((x.kid 0).op), .string ((x.kid 0).t.v), .int .i8 ((x.kid 0).t.l.k), .int .i64 ((x.kid 0).t.l.n), .string ((x.kid 0).t.l.s), .slice A109 ((x.kid 0).kids.length) c110]) F_sz31 (ev_t rfl rfl) (ev_t rfl rfl) (l := [.int .i8 ((x.kid 0).op), .string ((x.kid 0).t.v), .int .i8 ((x.kid 0).t.l.k), .int .i64 ((x.kid 0).t.l.n), .string ((x.kid 0).t.l.s), .slice A109 ((x.kid 0).kids.length) c110]) rfl rfl rfl (Ext.blk (NewB.ext n129) (NewB.blk n126)) (Nat.le_of_ble_eq_true rfl) rfl (w0 rfl) ?_
              intro w130 k131
              refine tl_done ⟨(Keep.then_ (Ext.trans (Ext.trans x101 (NewB.ext n126)) (NewB.ext n129)) (Wrote.keep k131) (fun i_ hi_ h_ => by have a_ := NewB.eq n126; have b_ := Keep.size x101; omega)), ?_⟩
              refine tl_cons ?_
              refine s_store (cs' := #[.int .i8 ((x.kid 1).op), .string ((x.kid 1).t.v), .int .i8 ((x.kid 1).t.l.k), .int .i64 ((x.kid 1).t.l.n), .string ((x.kid 1).t.l.s), .slice A120 ((x.kid 1).kids.length) c121]) F_sz31 (ev_t rfl rfl) (ev_t rfl rfl) (l := [.int .i8 ((x.kid 1).op), .string ((x.kid 1).t.v), .int .i8 ((x.kid 1).t.l.k), .int .i64 ((x.kid 1).t.l.n), .string ((x.kid 1).t.l.s), .slice A120 ((x.kid 1).kids.length) c121]) rfl rfl rfl (Keep.blk (Wrote.keep k131) (NewB.blk n129) (by have a_ := NewB.eq n129; have b_ := lt_of_blk (NewB.blk n126); omega)) (Nat.le_of_ble_eq_true rfl) rfl (w0 rfl) ?_
              intro w132 k133
              refine tl_done ⟨(Keep.then_ (Keep.then_ (Ext.trans (Ext.trans x101 (NewB.ext n126)) (NewB.ext n129)) (Wrote.keep k131) (fun i_ hi_ h_ => by have a_ := NewB.eq n126; have b_ := Keep.size x101; omega)) (Wrote.keep k133) (fun i_ hi_ h_ => by have a_ := NewB.eq n129; have b_ := Keep.size (Ext.trans x101 (NewB.ext n126)); omega)), ?_⟩
              refine tl_nil ?_
              refine n_then ?_
              refine c_seq ?_
              refine c_quiet mixed (by kernel_rfl) ?_
              refine q_val (v := .agg #[.int .i8 ((x.kid 0).op), .string ((x.kid 0).t.v), .int .i8 ((x.kid 0).t.l.k), .int .i64 ((x.kid 0).t.l.n), .string ((x.kid 0).t.l.s), .slice A109 ((x.kid 0).kids.length) c110]) (w0 rfl) (fun w_ c_ => r_loadL (cs := [.int .i8 ((x.kid 0).op), .string ((x.kid 0).t.v), .int .i8 ((x.kid 0).t.l.k), .int .i64 ((x.kid 0).t.l.n), .string ((x.kid 0).t.l.s), .slice A109 ((x.kid 0).kids.length) c110]) (ca := #[.int .i8 ((x.kid 0).op), .string ((x.kid 0).t.v), .int .i8 ((x.kid 0).t.l.k), .int .i64 ((x.kid 0).t.l.n), .string ((x.kid 0).t.l.s), .slice A109 ((x.kid 0).kids.length) c110]) F_m31 (ev_t rfl rfl) rfl rfl (blk_cells (Ext.blk c_ (Keep.blk (Wrote.keep k133) (Wrote.blk k131) (by have a_ := NewB.eq n129; have b_ := lt_of_blk (NewB.blk n126); omega))) 0 (cs := [.int .i8 ((x.kid 0).op), .string ((x.kid 0).t.v), .int .i8 ((x.kid 0).t.l.k), .int .i64 ((x.kid 0).t.l.n), .string ((x.kid 0).t.l.s), .slice A109 ((x.kid 0).kids.length) c110]) rfl)) ?_
              refine q_val (v := .agg #[.int .i8 ((x.kid 0).op), .string ((x.kid 0).t.v), .int .i8 ((x.kid 0).t.l.k), .int .i64 ((x.kid 0).t.l.n), .string ((x.kid 0).t.l.s), .slice A109 ((x.kid 0).kids.length) c110]) (w0 rfl) (fun w_ c_ => r_loadL (cs := [.int .i8 ((x.kid 0).op), .string ((x.kid 0).t.v), .int .i8 ((x.kid 0).t.l.k), .int .i64 ((x.kid 0).t.l.n), .string ((x.kid 0).t.l.s), .slice A109 ((x.kid 0).kids.length) c110]) (ca := #[.int .i8 ((x.kid 0).op), .string ((x.kid 0).t.v), .int .i8 ((x.kid 0).t.l.k), .int .i64 ((x.kid 0).t.l.n), .string ((x.kid 0).t.l.s), .slice A109 ((x.kid 0).kids.length) c110]) F_m31 (ev_t rfl rfl) rfl rfl (blk_cells (Ext.blk c_ (Keep.blk (Wrote.keep k133) (Wrote.blk k131) (by have a_ := NewB.eq n129; have b_ := lt_of_blk (NewB.blk n126); omega))) 0 (cs := [.int .i8 ((x.kid 0).op), .string ((x.kid 0).t.v), .int .i8 ((x.kid 0).t.l.k), .int .i64 ((x.kid 0).t.l.n), .string ((x.kid 0).t.l.s), .slice A109 ((x.kid 0).kids.length) c110]) rfl)) ?_
              refine q_call (v := .int .i64 (fast (x.kid 0))) F_e48 (w0 rfl) ev_f (m1 (ev_t rfl rfl)) (args := #[.agg #[.int .i8 ((x.kid 0).op), .string ((x.kid 0).t.v), .int .i8 ((x.kid 0).t.l.k), .int .i64 ((x.kid 0).t.l.n), .string ((x.kid 0).t.l.s), .slice A109 ((x.kid 0).kids.length) c110]]) rfl (fun w_ c_ => Rt.mono (r6_Fast (x.kid 0) A109 c110 _ ho111 (Row.extE hr112 (Ext.trans (Keep.then_ (Keep.then_ (Ext.trans (Ext.trans (Ext.trans (NewB.ext n3) x101) (NewB.ext n126)) (NewB.ext n129)) (Wrote.keep k131) (fun i_ hi_ h_ => by have a_ := NewB.eq n126; have b_ := Keep.size (Ext.trans (NewB.ext n3) x101); omega)) (Wrote.keep k133) (fun i_ hi_ h_ => by have a_ := NewB.eq n129; have b_ := Keep.size (Ext.trans (Ext.trans (NewB.ext n3) x101) (NewB.ext n126)); omega)) c_))) (fun v_ w2_ h_ => ⟨h_.1, Ext.trans c_ h_.2⟩)) ?_
              refine q_val (v := .agg #[.int .i8 x.op, .string x.t.v, .int .i8 x.t.l.k, .int .i64 x.t.l.n, .string x.t.l.s, .slice A x.kids.length c]) (w0 rfl) (fun w_ c_ => r_loadL (cs := [.int .i8 x.op, .string x.t.v, .int .i8 x.t.l.k, .int .i64 x.t.l.n, .string x.t.l.s, .slice A x.kids.length c]) (ca := #[.int .i8 x.op, .string x.t.v, .int .i8 x.t.l.k, .int .i64 x.t.l.n, .string x.t.l.s, .slice A x.kids.length c]) F_m31 (ev_t rfl rfl) rfl rfl (blk_cells (Ext.blk (Ext.trans (Keep.then_ (Keep.then_ (Ext.trans (Ext.trans x101 (NewB.ext n126)) (NewB.ext n129)) (Wrote.keep k131) (fun i_ hi_ h_ => by have a_ := NewB.eq n126; have b_ := Keep.size x101; omega)) (Wrote.keep k133) (fun i_ hi_ h_ => by have a_ := NewB.eq n129; have b_ := Keep.size (Ext.trans x101 (NewB.ext n126)); omega)) c_) (NewB.blk n3)) 0 (cs := [.int .i8 x.op, .string x.t.v, .int .i8 x.t.l.k, .int .i64 x.t.l.n, .string x.t.l.s, .slice A x.kids.length c]) rfl)) ?_
              refine q_call (v := .int .i64 (fast x)) F_e48 (w0 rfl) ev_f (m1 (ev_t rfl rfl)) (args := #[.agg #[.int .i8 x.op, .string x.t.v, .int .i8 x.t.l.k, .int .i64 x.t.l.n, .string x.t.l.s, .slice A x.kids.length c]]) rfl (fun w_ c_ => Rt.mono (r6_Fast x A c _ ho (Row.extE hr (Ext.trans (Keep.then_ (Keep.then_ (Ext.trans (Ext.trans (Ext.trans (NewB.ext n3) x101) (NewB.ext n126)) (NewB.ext n129)) (Wrote.keep k131) (fun i_ hi_ h_ => by have a_ := NewB.eq n126; have b_ := Keep.size (Ext.trans (NewB.ext n3) x101); omega)) (Wrote.keep k133) (fun i_ hi_ h_ => by have a_ := NewB.eq n129; have b_ := Keep.size (Ext.trans (Ext.trans (NewB.ext n3) x101) (NewB.ext n126)); omega)) c_))) (fun v_ w2_ h_ => ⟨h_.1, Ext.trans c_ h_.2⟩)) ?_
              refine q_val (v := .bool (decide (fast (x.kid 0) < fast x))) (w0 rfl) (fun w_ c_ => r_cmp (r := decide (fast (x.kid 0) < fast x)) (ev_t rfl rfl) (ev_t rfl rfl) rfl) ?_
              have hz134 := exW_le (d := d - 1) (by omega) (exKid0 hb (by omega)) (Ex.Ok.kid hk_ (kid_there (x := x) (j := 0) (by omega)))
              have hz134_ := inB_size (decide (fast (x.kid 0) < fast x)) (exW (d - 1) (x.kid 0))
              refine q_call (v := .string (inB (decide (fast (x.kid 0) < fast x)) (exW (d - 1) (x.kid 0)))) F_e47 (w0 rfl) ev_f (m2 (ev_t rfl rfl) (ev_t rfl rfl)) (args := #[.agg #[.int .i8 ((x.kid 0).op), .string ((x.kid 0).t.v), .int .i8 ((x.kid 0).t.l.k), .int .i64 ((x.kid 0).t.l.n), .string ((x.kid 0).t.l.s), .slice A109 ((x.kid 0).kids.length) c110], .bool (decide (fast (x.kid 0) < fast x))]) rfl (fun w_ c_ => Rt.mono (r6_within (d - 1) (x.kid 0) A109 c110 (decide (fast (x.kid 0) < fast x)) _ ho111 (Row.extE hr112 (Ext.trans (Keep.then_ (Keep.then_ (Ext.trans (Ext.trans (Ext.trans (NewB.ext n3) x101) (NewB.ext n126)) (NewB.ext n129)) (Wrote.keep k131) (fun i_ hi_ h_ => by have a_ := NewB.eq n126; have b_ := Keep.size (Ext.trans (NewB.ext n3) x101); omega)) (Wrote.keep k133) (fun i_ hi_ h_ => by have a_ := NewB.eq n129; have b_ := Keep.size (Ext.trans (Ext.trans (NewB.ext n3) x101) (NewB.ext n126)); omega)) c_)) (ih (by omega) 0 _ (kid_there (x := x) (j := 0) (by omega)) (exKid0 hb (by omega))) hz134) (fun v_ w2_ h_ => ⟨h_.1, Ext.trans c_ h_.2⟩)) ?_
              refine q_val (v := .string (inB (decide (fast (x.kid 0) < fast x)) (exW (d - 1) (x.kid 0)) ++ (⟨#[32]⟩ : ByteArray))) (w0 rfl) (fun w_ c_ => r_cat (ev_t rfl rfl) ev_c (by simp only [ByteArray.size_append, z0, z1, z2, z3, z4, z5, z6]; omega)) ?_
              refine q_val (v := .pointer (some ⟨g1, 0, none⟩)) (w0 rfl) (fun w_ c_ => r_field (off := 0) (o' := 0) F_f31_0 (ev_t rfl rfl) rfl) ?_
              refine q_val (v := .int .i8 x.op) (w0 rfl) (fun w_ c_ => r_load (v := .int .i8 x.op) F_o23 (ev_t rfl rfl) (cell_of_blk (i := 0) (Ext.blk (Ext.trans (Keep.then_ (Keep.then_ (Ext.trans (Ext.trans x101 (NewB.ext n126)) (NewB.ext n129)) (Wrote.keep k131) (fun i_ hi_ h_ => by have a_ := NewB.eq n126; have b_ := Keep.size x101; omega)) (Wrote.keep k133) (fun i_ hi_ h_ => by have a_ := NewB.eq n129; have b_ := Keep.size (Ext.trans x101 (NewB.ext n126)); omega)) c_) (NewB.blk n3)) rfl)) ?_
              refine q_call (v := .string (signW x.op)) F_e49 (w0 rfl) ev_f (m1 (ev_t rfl rfl)) (args := #[.int .i8 x.op]) rfl (fun w_ c_ => Rt.mono (r6_sign x.op _) (fun v_ w2_ h_ => ⟨h_.1, Ext.trans c_ h_.2⟩)) ?_
              refine q_val (v := .string (inB (decide (fast (x.kid 0) < fast x)) (exW (d - 1) (x.kid 0)) ++ (⟨#[32]⟩ : ByteArray) ++ (signW x.op))) (w0 rfl) (fun w_ c_ => r_cat (ev_t rfl rfl) (ev_t rfl rfl) (by simp only [ByteArray.size_append, z0, z1, z2, z3, z4, z5, z6]; omega)) ?_
              refine q_val (v := .string (inB (decide (fast (x.kid 0) < fast x)) (exW (d - 1) (x.kid 0)) ++ (⟨#[32]⟩ : ByteArray) ++ (signW x.op) ++ (⟨#[32]⟩ : ByteArray))) (w0 rfl) (fun w_ c_ => r_cat (ev_t rfl rfl) ev_c (by simp only [ByteArray.size_append, z0, z1, z2, z3, z4, z5, z6]; omega)) ?_
              refine q_val (v := .agg #[.int .i8 ((x.kid 1).op), .string ((x.kid 1).t.v), .int .i8 ((x.kid 1).t.l.k), .int .i64 ((x.kid 1).t.l.n), .string ((x.kid 1).t.l.s), .slice A120 ((x.kid 1).kids.length) c121]) (w0 rfl) (fun w_ c_ => r_loadL (cs := [.int .i8 ((x.kid 1).op), .string ((x.kid 1).t.v), .int .i8 ((x.kid 1).t.l.k), .int .i64 ((x.kid 1).t.l.n), .string ((x.kid 1).t.l.s), .slice A120 ((x.kid 1).kids.length) c121]) (ca := #[.int .i8 ((x.kid 1).op), .string ((x.kid 1).t.v), .int .i8 ((x.kid 1).t.l.k), .int .i64 ((x.kid 1).t.l.n), .string ((x.kid 1).t.l.s), .slice A120 ((x.kid 1).kids.length) c121]) F_m31 (ev_t rfl rfl) rfl rfl (blk_cells (Ext.blk c_ (Wrote.blk k133)) 0 (cs := [.int .i8 ((x.kid 1).op), .string ((x.kid 1).t.v), .int .i8 ((x.kid 1).t.l.k), .int .i64 ((x.kid 1).t.l.n), .string ((x.kid 1).t.l.s), .slice A120 ((x.kid 1).kids.length) c121]) rfl)) ?_
              refine q_val (v := .agg #[.int .i8 ((x.kid 1).op), .string ((x.kid 1).t.v), .int .i8 ((x.kid 1).t.l.k), .int .i64 ((x.kid 1).t.l.n), .string ((x.kid 1).t.l.s), .slice A120 ((x.kid 1).kids.length) c121]) (w0 rfl) (fun w_ c_ => r_loadL (cs := [.int .i8 ((x.kid 1).op), .string ((x.kid 1).t.v), .int .i8 ((x.kid 1).t.l.k), .int .i64 ((x.kid 1).t.l.n), .string ((x.kid 1).t.l.s), .slice A120 ((x.kid 1).kids.length) c121]) (ca := #[.int .i8 ((x.kid 1).op), .string ((x.kid 1).t.v), .int .i8 ((x.kid 1).t.l.k), .int .i64 ((x.kid 1).t.l.n), .string ((x.kid 1).t.l.s), .slice A120 ((x.kid 1).kids.length) c121]) F_m31 (ev_t rfl rfl) rfl rfl (blk_cells (Ext.blk c_ (Wrote.blk k133)) 0 (cs := [.int .i8 ((x.kid 1).op), .string ((x.kid 1).t.v), .int .i8 ((x.kid 1).t.l.k), .int .i64 ((x.kid 1).t.l.n), .string ((x.kid 1).t.l.s), .slice A120 ((x.kid 1).kids.length) c121]) rfl)) ?_
              refine q_call (v := .int .i64 (fast (x.kid 1))) F_e48 (w0 rfl) ev_f (m1 (ev_t rfl rfl)) (args := #[.agg #[.int .i8 ((x.kid 1).op), .string ((x.kid 1).t.v), .int .i8 ((x.kid 1).t.l.k), .int .i64 ((x.kid 1).t.l.n), .string ((x.kid 1).t.l.s), .slice A120 ((x.kid 1).kids.length) c121]]) rfl (fun w_ c_ => Rt.mono (r6_Fast (x.kid 1) A120 c121 _ ho122 (Row.extE hr123 (Ext.trans (Keep.then_ (Keep.then_ (Ext.trans (Ext.trans (Ext.trans (NewB.ext n3) x101) (NewB.ext n126)) (NewB.ext n129)) (Wrote.keep k131) (fun i_ hi_ h_ => by have a_ := NewB.eq n126; have b_ := Keep.size (Ext.trans (NewB.ext n3) x101); omega)) (Wrote.keep k133) (fun i_ hi_ h_ => by have a_ := NewB.eq n129; have b_ := Keep.size (Ext.trans (Ext.trans (NewB.ext n3) x101) (NewB.ext n126)); omega)) c_))) (fun v_ w2_ h_ => ⟨h_.1, Ext.trans c_ h_.2⟩)) ?_
              refine q_val (v := .agg #[.int .i8 x.op, .string x.t.v, .int .i8 x.t.l.k, .int .i64 x.t.l.n, .string x.t.l.s, .slice A x.kids.length c]) (w0 rfl) (fun w_ c_ => r_loadL (cs := [.int .i8 x.op, .string x.t.v, .int .i8 x.t.l.k, .int .i64 x.t.l.n, .string x.t.l.s, .slice A x.kids.length c]) (ca := #[.int .i8 x.op, .string x.t.v, .int .i8 x.t.l.k, .int .i64 x.t.l.n, .string x.t.l.s, .slice A x.kids.length c]) F_m31 (ev_t rfl rfl) rfl rfl (blk_cells (Ext.blk (Ext.trans (Keep.then_ (Keep.then_ (Ext.trans (Ext.trans x101 (NewB.ext n126)) (NewB.ext n129)) (Wrote.keep k131) (fun i_ hi_ h_ => by have a_ := NewB.eq n126; have b_ := Keep.size x101; omega)) (Wrote.keep k133) (fun i_ hi_ h_ => by have a_ := NewB.eq n129; have b_ := Keep.size (Ext.trans x101 (NewB.ext n126)); omega)) c_) (NewB.blk n3)) 0 (cs := [.int .i8 x.op, .string x.t.v, .int .i8 x.t.l.k, .int .i64 x.t.l.n, .string x.t.l.s, .slice A x.kids.length c]) rfl)) ?_
              refine q_call (v := .int .i64 (fast x)) F_e48 (w0 rfl) ev_f (m1 (ev_t rfl rfl)) (args := #[.agg #[.int .i8 x.op, .string x.t.v, .int .i8 x.t.l.k, .int .i64 x.t.l.n, .string x.t.l.s, .slice A x.kids.length c]]) rfl (fun w_ c_ => Rt.mono (r6_Fast x A c _ ho (Row.extE hr (Ext.trans (Keep.then_ (Keep.then_ (Ext.trans (Ext.trans (Ext.trans (NewB.ext n3) x101) (NewB.ext n126)) (NewB.ext n129)) (Wrote.keep k131) (fun i_ hi_ h_ => by have a_ := NewB.eq n126; have b_ := Keep.size (Ext.trans (NewB.ext n3) x101); omega)) (Wrote.keep k133) (fun i_ hi_ h_ => by have a_ := NewB.eq n129; have b_ := Keep.size (Ext.trans (Ext.trans (NewB.ext n3) x101) (NewB.ext n126)); omega)) c_))) (fun v_ w2_ h_ => ⟨h_.1, Ext.trans c_ h_.2⟩)) ?_
              refine q_val (v := .bool (decide (fast (x.kid 1) ≤ fast x))) (w0 rfl) (fun w_ c_ => r_cmp (r := decide (fast (x.kid 1) ≤ fast x)) (ev_t rfl rfl) (ev_t rfl rfl) rfl) ?_
              have hz135 := exW_le (d := d - 1) (by omega) (ex_two hb (by omega) (by omega) (by omega)).2.2 (Ex.Ok.kid hk_ (kid_there (x := x) (j := 1) (by omega)))
              have hz135_ := inB_size (decide (fast (x.kid 1) ≤ fast x)) (exW (d - 1) (x.kid 1))
              refine q_call (v := .string (inB (decide (fast (x.kid 1) ≤ fast x)) (exW (d - 1) (x.kid 1)))) F_e47 (w0 rfl) ev_f (m2 (ev_t rfl rfl) (ev_t rfl rfl)) (args := #[.agg #[.int .i8 ((x.kid 1).op), .string ((x.kid 1).t.v), .int .i8 ((x.kid 1).t.l.k), .int .i64 ((x.kid 1).t.l.n), .string ((x.kid 1).t.l.s), .slice A120 ((x.kid 1).kids.length) c121], .bool (decide (fast (x.kid 1) ≤ fast x))]) rfl (fun w_ c_ => Rt.mono (r6_within (d - 1) (x.kid 1) A120 c121 (decide (fast (x.kid 1) ≤ fast x)) _ ho122 (Row.extE hr123 (Ext.trans (Keep.then_ (Keep.then_ (Ext.trans (Ext.trans (Ext.trans (NewB.ext n3) x101) (NewB.ext n126)) (NewB.ext n129)) (Wrote.keep k131) (fun i_ hi_ h_ => by have a_ := NewB.eq n126; have b_ := Keep.size (Ext.trans (NewB.ext n3) x101); omega)) (Wrote.keep k133) (fun i_ hi_ h_ => by have a_ := NewB.eq n129; have b_ := Keep.size (Ext.trans (Ext.trans (NewB.ext n3) x101) (NewB.ext n126)); omega)) c_)) (ih (by omega) 1 _ (kid_there (x := x) (j := 1) (by omega)) (ex_two hb (by omega) (by omega) (by omega)).2.2) hz135) (fun v_ w2_ h_ => ⟨h_.1, Ext.trans c_ h_.2⟩)) ?_
              refine q_val (v := .string (inB (decide (fast (x.kid 0) < fast x)) (exW (d - 1) (x.kid 0)) ++ (⟨#[32]⟩ : ByteArray) ++ (signW x.op) ++ (⟨#[32]⟩ : ByteArray) ++ (inB (decide (fast (x.kid 1) ≤ fast x)) (exW (d - 1) (x.kid 1))))) (w0 rfl) (fun w_ c_ => r_cat (ev_t rfl rfl) (ev_t rfl rfl) (by simp only [ByteArray.size_append, z0, z1, z2, z3, z4, z5, z6]; omega)) ?_
              refine q_val (v := .string (inB (decide (fast (x.kid 0) < fast x)) (exW (d - 1) (x.kid 0)) ++ (⟨#[32]⟩ : ByteArray) ++ (signW x.op) ++ (⟨#[32]⟩ : ByteArray) ++ (inB (decide (fast (x.kid 1) ≤ fast x)) (exW (d - 1) (x.kid 1))))) (w0 rfl) (fun w_ c_ => r_assign (v := .string (inB (decide (fast (x.kid 0) < fast x)) (exW (d - 1) (x.kid 0)) ++ (⟨#[32]⟩ : ByteArray) ++ (signW x.op) ++ (⟨#[32]⟩ : ByteArray) ++ (inB (decide (fast (x.kid 1) ≤ fast x)) (exW (d - 1) (x.kid 1))))) (ev_t rfl rfl)) ?_
              refine q_done ?_
              intro w136 x137
              refine n_then ?_
              refine c_ret ?_
              refine ret1 (v := .string (inB (decide (fast (x.kid 0) < fast x)) (exW (d - 1) (x.kid 0)) ++ (⟨#[32]⟩ : ByteArray) ++ (signW x.op) ++ (⟨#[32]⟩ : ByteArray) ++ (inB (decide (fast (x.kid 1) ≤ fast x)) (exW (d - 1) (x.kid 1))))) rfl rfl rfl ?_
              refine ⟨_, rfl, ?_, (Ext.trans (Keep.then_ (Keep.then_ (Ext.trans (Ext.trans (Ext.trans (NewB.ext n3) x101) (NewB.ext n126)) (NewB.ext n129)) (Wrote.keep k131) (fun i_ hi_ h_ => by have a_ := NewB.eq n126; have b_ := Keep.size (Ext.trans (NewB.ext n3) x101); omega)) (Wrote.keep k133) (fun i_ hi_ h_ => by have a_ := NewB.eq n129; have b_ := Keep.size (Ext.trans (Ext.trans (NewB.ext n3) x101) (NewB.ext n126)); omega)) x137)⟩
              (refine congrArg Value.string ?_; rw [exW_pos hd0_]; first | (rw [if_pos (by omega)]; done) | (rw [if_neg (by omega), if_pos (by omega)]; done) | (rw [if_neg (by omega), if_neg (by omega), if_pos (by omega)]; refine congrArg _ (congrArg (fun b => inB b _) ?_); simp [numB, *]; done) | (rw [if_neg (by omega), if_neg (by omega), if_neg (by omega)]; done))
            · refine tl_cons ?_
              refine s_alloc (cs := #[.int .i8 0, .string (⟨#[]⟩ : ByteArray), .int .i8 0, .int .i64 0, .string (⟨#[]⟩ : ByteArray), .slice none 0 0]) (w0 rfl) F_z31 rfl ?_
              intro w139 g138 n140
              refine tl_done ⟨(Ext.trans x101 (NewB.ext n140)), ?_⟩
              refine tl_cons ?_
              refine s_alloc (cs := #[.int .i8 0, .string (⟨#[]⟩ : ByteArray), .int .i8 0, .int .i64 0, .string (⟨#[]⟩ : ByteArray), .slice none 0 0]) (w0 rfl) F_z31 rfl ?_
              intro w142 g141 n143
              refine tl_done ⟨(Ext.trans (Ext.trans x101 (NewB.ext n140)) (NewB.ext n143)), ?_⟩
              refine tl_cons ?_
              refine s_store (cs' := #[.int .i8 ((x.kid 0).op), .string ((x.kid 0).t.v), .int .i8 ((x.kid 0).t.l.k), .int .i64 ((x.kid 0).t.l.n), .string ((x.kid 0).t.l.s), .slice A109 ((x.kid 0).kids.length) c110]) F_sz31 (ev_t rfl rfl) (ev_t rfl rfl) (l := [.int .i8 ((x.kid 0).op), .string ((x.kid 0).t.v), .int .i8 ((x.kid 0).t.l.k), .int .i64 ((x.kid 0).t.l.n), .string ((x.kid 0).t.l.s), .slice A109 ((x.kid 0).kids.length) c110]) rfl rfl rfl (NewB.blk n143) (Nat.le_of_ble_eq_true rfl) rfl (w0 rfl) ?_
              intro w144 k145
              refine tl_done ⟨(Keep.then_ (Ext.trans (Ext.trans x101 (NewB.ext n140)) (NewB.ext n143)) (Wrote.keep k145) (fun i_ hi_ h_ => by have a_ := NewB.eq n143; have b_ := Keep.size (Ext.trans x101 (NewB.ext n140)); omega)), ?_⟩
              refine tl_cons ?_
              refine s_store (cs' := #[.int .i8 ((x.kid 1).op), .string ((x.kid 1).t.v), .int .i8 ((x.kid 1).t.l.k), .int .i64 ((x.kid 1).t.l.n), .string ((x.kid 1).t.l.s), .slice A120 ((x.kid 1).kids.length) c121]) F_sz31 (ev_t rfl rfl) (ev_t rfl rfl) (l := [.int .i8 ((x.kid 1).op), .string ((x.kid 1).t.v), .int .i8 ((x.kid 1).t.l.k), .int .i64 ((x.kid 1).t.l.n), .string ((x.kid 1).t.l.s), .slice A120 ((x.kid 1).kids.length) c121]) rfl rfl rfl (Ext.blk (Keep.then_ (NewB.ext n143) (Wrote.keep k145) (fun i_ hi_ h_ => by have a_ := NewB.eq n143; have b_ := Keep.size (Ext.refl w139); omega)) (NewB.blk n140)) (Nat.le_of_ble_eq_true rfl) rfl (w0 rfl) ?_
              intro w146 k147
              refine tl_done ⟨(Keep.then_ (Keep.then_ (Ext.trans (Ext.trans x101 (NewB.ext n140)) (NewB.ext n143)) (Wrote.keep k145) (fun i_ hi_ h_ => by have a_ := NewB.eq n143; have b_ := Keep.size (Ext.trans x101 (NewB.ext n140)); omega)) (Wrote.keep k147) (fun i_ hi_ h_ => by have a_ := NewB.eq n140; have b_ := Keep.size x101; omega)), ?_⟩
              refine tl_nil ?_
              refine n_then ?_
              refine c_seq ?_
              refine c_quiet mixed (by kernel_rfl) ?_
              refine q_val (v := .agg #[.int .i8 ((x.kid 0).op), .string ((x.kid 0).t.v), .int .i8 ((x.kid 0).t.l.k), .int .i64 ((x.kid 0).t.l.n), .string ((x.kid 0).t.l.s), .slice A109 ((x.kid 0).kids.length) c110]) (w0 rfl) (fun w_ c_ => r_loadL (cs := [.int .i8 ((x.kid 0).op), .string ((x.kid 0).t.v), .int .i8 ((x.kid 0).t.l.k), .int .i64 ((x.kid 0).t.l.n), .string ((x.kid 0).t.l.s), .slice A109 ((x.kid 0).kids.length) c110]) (ca := #[.int .i8 ((x.kid 0).op), .string ((x.kid 0).t.v), .int .i8 ((x.kid 0).t.l.k), .int .i64 ((x.kid 0).t.l.n), .string ((x.kid 0).t.l.s), .slice A109 ((x.kid 0).kids.length) c110]) F_m31 (ev_t rfl rfl) rfl rfl (blk_cells (Ext.blk c_ (Keep.blk (Wrote.keep k147) (Wrote.blk k145) (by have a_ := NewB.eq n143; have b_ := lt_of_blk (NewB.blk n140); omega))) 0 (cs := [.int .i8 ((x.kid 0).op), .string ((x.kid 0).t.v), .int .i8 ((x.kid 0).t.l.k), .int .i64 ((x.kid 0).t.l.n), .string ((x.kid 0).t.l.s), .slice A109 ((x.kid 0).kids.length) c110]) rfl)) ?_
              refine q_val (v := .agg #[.int .i8 ((x.kid 0).op), .string ((x.kid 0).t.v), .int .i8 ((x.kid 0).t.l.k), .int .i64 ((x.kid 0).t.l.n), .string ((x.kid 0).t.l.s), .slice A109 ((x.kid 0).kids.length) c110]) (w0 rfl) (fun w_ c_ => r_loadL (cs := [.int .i8 ((x.kid 0).op), .string ((x.kid 0).t.v), .int .i8 ((x.kid 0).t.l.k), .int .i64 ((x.kid 0).t.l.n), .string ((x.kid 0).t.l.s), .slice A109 ((x.kid 0).kids.length) c110]) (ca := #[.int .i8 ((x.kid 0).op), .string ((x.kid 0).t.v), .int .i8 ((x.kid 0).t.l.k), .int .i64 ((x.kid 0).t.l.n), .string ((x.kid 0).t.l.s), .slice A109 ((x.kid 0).kids.length) c110]) F_m31 (ev_t rfl rfl) rfl rfl (blk_cells (Ext.blk c_ (Keep.blk (Wrote.keep k147) (Wrote.blk k145) (by have a_ := NewB.eq n143; have b_ := lt_of_blk (NewB.blk n140); omega))) 0 (cs := [.int .i8 ((x.kid 0).op), .string ((x.kid 0).t.v), .int .i8 ((x.kid 0).t.l.k), .int .i64 ((x.kid 0).t.l.n), .string ((x.kid 0).t.l.s), .slice A109 ((x.kid 0).kids.length) c110]) rfl)) ?_
              refine q_call (v := .int .i64 (fast (x.kid 0))) F_e48 (w0 rfl) ev_f (m1 (ev_t rfl rfl)) (args := #[.agg #[.int .i8 ((x.kid 0).op), .string ((x.kid 0).t.v), .int .i8 ((x.kid 0).t.l.k), .int .i64 ((x.kid 0).t.l.n), .string ((x.kid 0).t.l.s), .slice A109 ((x.kid 0).kids.length) c110]]) rfl (fun w_ c_ => Rt.mono (r6_Fast (x.kid 0) A109 c110 _ ho111 (Row.extE hr112 (Ext.trans (Keep.then_ (Keep.then_ (Ext.trans (Ext.trans (Ext.trans (NewB.ext n3) x101) (NewB.ext n140)) (NewB.ext n143)) (Wrote.keep k145) (fun i_ hi_ h_ => by have a_ := NewB.eq n143; have b_ := Keep.size (Ext.trans (Ext.trans (NewB.ext n3) x101) (NewB.ext n140)); omega)) (Wrote.keep k147) (fun i_ hi_ h_ => by have a_ := NewB.eq n140; have b_ := Keep.size (Ext.trans (NewB.ext n3) x101); omega)) c_))) (fun v_ w2_ h_ => ⟨h_.1, Ext.trans c_ h_.2⟩)) ?_
              refine q_val (v := .agg #[.int .i8 x.op, .string x.t.v, .int .i8 x.t.l.k, .int .i64 x.t.l.n, .string x.t.l.s, .slice A x.kids.length c]) (w0 rfl) (fun w_ c_ => r_loadL (cs := [.int .i8 x.op, .string x.t.v, .int .i8 x.t.l.k, .int .i64 x.t.l.n, .string x.t.l.s, .slice A x.kids.length c]) (ca := #[.int .i8 x.op, .string x.t.v, .int .i8 x.t.l.k, .int .i64 x.t.l.n, .string x.t.l.s, .slice A x.kids.length c]) F_m31 (ev_t rfl rfl) rfl rfl (blk_cells (Ext.blk (Ext.trans (Keep.then_ (Keep.then_ (Ext.trans (Ext.trans x101 (NewB.ext n140)) (NewB.ext n143)) (Wrote.keep k145) (fun i_ hi_ h_ => by have a_ := NewB.eq n143; have b_ := Keep.size (Ext.trans x101 (NewB.ext n140)); omega)) (Wrote.keep k147) (fun i_ hi_ h_ => by have a_ := NewB.eq n140; have b_ := Keep.size x101; omega)) c_) (NewB.blk n3)) 0 (cs := [.int .i8 x.op, .string x.t.v, .int .i8 x.t.l.k, .int .i64 x.t.l.n, .string x.t.l.s, .slice A x.kids.length c]) rfl)) ?_
              refine q_call (v := .int .i64 (fast x)) F_e48 (w0 rfl) ev_f (m1 (ev_t rfl rfl)) (args := #[.agg #[.int .i8 x.op, .string x.t.v, .int .i8 x.t.l.k, .int .i64 x.t.l.n, .string x.t.l.s, .slice A x.kids.length c]]) rfl (fun w_ c_ => Rt.mono (r6_Fast x A c _ ho (Row.extE hr (Ext.trans (Keep.then_ (Keep.then_ (Ext.trans (Ext.trans (Ext.trans (NewB.ext n3) x101) (NewB.ext n140)) (NewB.ext n143)) (Wrote.keep k145) (fun i_ hi_ h_ => by have a_ := NewB.eq n143; have b_ := Keep.size (Ext.trans (Ext.trans (NewB.ext n3) x101) (NewB.ext n140)); omega)) (Wrote.keep k147) (fun i_ hi_ h_ => by have a_ := NewB.eq n140; have b_ := Keep.size (Ext.trans (NewB.ext n3) x101); omega)) c_))) (fun v_ w2_ h_ => ⟨h_.1, Ext.trans c_ h_.2⟩)) ?_
              refine q_val (v := .bool (decide (fast (x.kid 0) < fast x))) (w0 rfl) (fun w_ c_ => r_cmp (r := decide (fast (x.kid 0) < fast x)) (ev_t rfl rfl) (ev_t rfl rfl) rfl) ?_
              have hz148 := exW_le (d := d - 1) (by omega) (exKid0 hb (by omega)) (Ex.Ok.kid hk_ (kid_there (x := x) (j := 0) (by omega)))
              have hz148_ := inB_size (decide (fast (x.kid 0) < fast x)) (exW (d - 1) (x.kid 0))
              refine q_call (v := .string (inB (decide (fast (x.kid 0) < fast x)) (exW (d - 1) (x.kid 0)))) F_e47 (w0 rfl) ev_f (m2 (ev_t rfl rfl) (ev_t rfl rfl)) (args := #[.agg #[.int .i8 ((x.kid 0).op), .string ((x.kid 0).t.v), .int .i8 ((x.kid 0).t.l.k), .int .i64 ((x.kid 0).t.l.n), .string ((x.kid 0).t.l.s), .slice A109 ((x.kid 0).kids.length) c110], .bool (decide (fast (x.kid 0) < fast x))]) rfl (fun w_ c_ => Rt.mono (r6_within (d - 1) (x.kid 0) A109 c110 (decide (fast (x.kid 0) < fast x)) _ ho111 (Row.extE hr112 (Ext.trans (Keep.then_ (Keep.then_ (Ext.trans (Ext.trans (Ext.trans (NewB.ext n3) x101) (NewB.ext n140)) (NewB.ext n143)) (Wrote.keep k145) (fun i_ hi_ h_ => by have a_ := NewB.eq n143; have b_ := Keep.size (Ext.trans (Ext.trans (NewB.ext n3) x101) (NewB.ext n140)); omega)) (Wrote.keep k147) (fun i_ hi_ h_ => by have a_ := NewB.eq n140; have b_ := Keep.size (Ext.trans (NewB.ext n3) x101); omega)) c_)) (ih (by omega) 0 _ (kid_there (x := x) (j := 0) (by omega)) (exKid0 hb (by omega))) hz148) (fun v_ w2_ h_ => ⟨h_.1, Ext.trans c_ h_.2⟩)) ?_
              refine q_val (v := .string (inB (decide (fast (x.kid 0) < fast x)) (exW (d - 1) (x.kid 0)) ++ (⟨#[32]⟩ : ByteArray))) (w0 rfl) (fun w_ c_ => r_cat (ev_t rfl rfl) ev_c (by simp only [ByteArray.size_append, z0, z1, z2, z3, z4, z5, z6]; omega)) ?_
              refine q_val (v := .pointer (some ⟨g1, 0, none⟩)) (w0 rfl) (fun w_ c_ => r_field (off := 0) (o' := 0) F_f31_0 (ev_t rfl rfl) rfl) ?_
              refine q_val (v := .int .i8 x.op) (w0 rfl) (fun w_ c_ => r_load (v := .int .i8 x.op) F_o23 (ev_t rfl rfl) (cell_of_blk (i := 0) (Ext.blk (Ext.trans (Keep.then_ (Keep.then_ (Ext.trans (Ext.trans x101 (NewB.ext n140)) (NewB.ext n143)) (Wrote.keep k145) (fun i_ hi_ h_ => by have a_ := NewB.eq n143; have b_ := Keep.size (Ext.trans x101 (NewB.ext n140)); omega)) (Wrote.keep k147) (fun i_ hi_ h_ => by have a_ := NewB.eq n140; have b_ := Keep.size x101; omega)) c_) (NewB.blk n3)) rfl)) ?_
              refine q_call (v := .string (signW x.op)) F_e49 (w0 rfl) ev_f (m1 (ev_t rfl rfl)) (args := #[.int .i8 x.op]) rfl (fun w_ c_ => Rt.mono (r6_sign x.op _) (fun v_ w2_ h_ => ⟨h_.1, Ext.trans c_ h_.2⟩)) ?_
              refine q_val (v := .string (inB (decide (fast (x.kid 0) < fast x)) (exW (d - 1) (x.kid 0)) ++ (⟨#[32]⟩ : ByteArray) ++ (signW x.op))) (w0 rfl) (fun w_ c_ => r_cat (ev_t rfl rfl) (ev_t rfl rfl) (by simp only [ByteArray.size_append, z0, z1, z2, z3, z4, z5, z6]; omega)) ?_
              refine q_val (v := .string (inB (decide (fast (x.kid 0) < fast x)) (exW (d - 1) (x.kid 0)) ++ (⟨#[32]⟩ : ByteArray) ++ (signW x.op) ++ (⟨#[32]⟩ : ByteArray))) (w0 rfl) (fun w_ c_ => r_cat (ev_t rfl rfl) ev_c (by simp only [ByteArray.size_append, z0, z1, z2, z3, z4, z5, z6]; omega)) ?_
              refine q_val (v := .agg #[.int .i8 ((x.kid 1).op), .string ((x.kid 1).t.v), .int .i8 ((x.kid 1).t.l.k), .int .i64 ((x.kid 1).t.l.n), .string ((x.kid 1).t.l.s), .slice A120 ((x.kid 1).kids.length) c121]) (w0 rfl) (fun w_ c_ => r_loadL (cs := [.int .i8 ((x.kid 1).op), .string ((x.kid 1).t.v), .int .i8 ((x.kid 1).t.l.k), .int .i64 ((x.kid 1).t.l.n), .string ((x.kid 1).t.l.s), .slice A120 ((x.kid 1).kids.length) c121]) (ca := #[.int .i8 ((x.kid 1).op), .string ((x.kid 1).t.v), .int .i8 ((x.kid 1).t.l.k), .int .i64 ((x.kid 1).t.l.n), .string ((x.kid 1).t.l.s), .slice A120 ((x.kid 1).kids.length) c121]) F_m31 (ev_t rfl rfl) rfl rfl (blk_cells (Ext.blk c_ (Wrote.blk k147)) 0 (cs := [.int .i8 ((x.kid 1).op), .string ((x.kid 1).t.v), .int .i8 ((x.kid 1).t.l.k), .int .i64 ((x.kid 1).t.l.n), .string ((x.kid 1).t.l.s), .slice A120 ((x.kid 1).kids.length) c121]) rfl)) ?_
              refine q_val (v := .agg #[.int .i8 ((x.kid 1).op), .string ((x.kid 1).t.v), .int .i8 ((x.kid 1).t.l.k), .int .i64 ((x.kid 1).t.l.n), .string ((x.kid 1).t.l.s), .slice A120 ((x.kid 1).kids.length) c121]) (w0 rfl) (fun w_ c_ => r_loadL (cs := [.int .i8 ((x.kid 1).op), .string ((x.kid 1).t.v), .int .i8 ((x.kid 1).t.l.k), .int .i64 ((x.kid 1).t.l.n), .string ((x.kid 1).t.l.s), .slice A120 ((x.kid 1).kids.length) c121]) (ca := #[.int .i8 ((x.kid 1).op), .string ((x.kid 1).t.v), .int .i8 ((x.kid 1).t.l.k), .int .i64 ((x.kid 1).t.l.n), .string ((x.kid 1).t.l.s), .slice A120 ((x.kid 1).kids.length) c121]) F_m31 (ev_t rfl rfl) rfl rfl (blk_cells (Ext.blk c_ (Wrote.blk k147)) 0 (cs := [.int .i8 ((x.kid 1).op), .string ((x.kid 1).t.v), .int .i8 ((x.kid 1).t.l.k), .int .i64 ((x.kid 1).t.l.n), .string ((x.kid 1).t.l.s), .slice A120 ((x.kid 1).kids.length) c121]) rfl)) ?_
              refine q_call (v := .int .i64 (fast (x.kid 1))) F_e48 (w0 rfl) ev_f (m1 (ev_t rfl rfl)) (args := #[.agg #[.int .i8 ((x.kid 1).op), .string ((x.kid 1).t.v), .int .i8 ((x.kid 1).t.l.k), .int .i64 ((x.kid 1).t.l.n), .string ((x.kid 1).t.l.s), .slice A120 ((x.kid 1).kids.length) c121]]) rfl (fun w_ c_ => Rt.mono (r6_Fast (x.kid 1) A120 c121 _ ho122 (Row.extE hr123 (Ext.trans (Keep.then_ (Keep.then_ (Ext.trans (Ext.trans (Ext.trans (NewB.ext n3) x101) (NewB.ext n140)) (NewB.ext n143)) (Wrote.keep k145) (fun i_ hi_ h_ => by have a_ := NewB.eq n143; have b_ := Keep.size (Ext.trans (Ext.trans (NewB.ext n3) x101) (NewB.ext n140)); omega)) (Wrote.keep k147) (fun i_ hi_ h_ => by have a_ := NewB.eq n140; have b_ := Keep.size (Ext.trans (NewB.ext n3) x101); omega)) c_))) (fun v_ w2_ h_ => ⟨h_.1, Ext.trans c_ h_.2⟩)) ?_
              refine q_val (v := .agg #[.int .i8 x.op, .string x.t.v, .int .i8 x.t.l.k, .int .i64 x.t.l.n, .string x.t.l.s, .slice A x.kids.length c]) (w0 rfl) (fun w_ c_ => r_loadL (cs := [.int .i8 x.op, .string x.t.v, .int .i8 x.t.l.k, .int .i64 x.t.l.n, .string x.t.l.s, .slice A x.kids.length c]) (ca := #[.int .i8 x.op, .string x.t.v, .int .i8 x.t.l.k, .int .i64 x.t.l.n, .string x.t.l.s, .slice A x.kids.length c]) F_m31 (ev_t rfl rfl) rfl rfl (blk_cells (Ext.blk (Ext.trans (Keep.then_ (Keep.then_ (Ext.trans (Ext.trans x101 (NewB.ext n140)) (NewB.ext n143)) (Wrote.keep k145) (fun i_ hi_ h_ => by have a_ := NewB.eq n143; have b_ := Keep.size (Ext.trans x101 (NewB.ext n140)); omega)) (Wrote.keep k147) (fun i_ hi_ h_ => by have a_ := NewB.eq n140; have b_ := Keep.size x101; omega)) c_) (NewB.blk n3)) 0 (cs := [.int .i8 x.op, .string x.t.v, .int .i8 x.t.l.k, .int .i64 x.t.l.n, .string x.t.l.s, .slice A x.kids.length c]) rfl)) ?_
              refine q_call (v := .int .i64 (fast x)) F_e48 (w0 rfl) ev_f (m1 (ev_t rfl rfl)) (args := #[.agg #[.int .i8 x.op, .string x.t.v, .int .i8 x.t.l.k, .int .i64 x.t.l.n, .string x.t.l.s, .slice A x.kids.length c]]) rfl (fun w_ c_ => Rt.mono (r6_Fast x A c _ ho (Row.extE hr (Ext.trans (Keep.then_ (Keep.then_ (Ext.trans (Ext.trans (Ext.trans (NewB.ext n3) x101) (NewB.ext n140)) (NewB.ext n143)) (Wrote.keep k145) (fun i_ hi_ h_ => by have a_ := NewB.eq n143; have b_ := Keep.size (Ext.trans (Ext.trans (NewB.ext n3) x101) (NewB.ext n140)); omega)) (Wrote.keep k147) (fun i_ hi_ h_ => by have a_ := NewB.eq n140; have b_ := Keep.size (Ext.trans (NewB.ext n3) x101); omega)) c_))) (fun v_ w2_ h_ => ⟨h_.1, Ext.trans c_ h_.2⟩)) ?_
              refine q_val (v := .bool (decide (fast (x.kid 1) ≤ fast x))) (w0 rfl) (fun w_ c_ => r_cmp (r := decide (fast (x.kid 1) ≤ fast x)) (ev_t rfl rfl) (ev_t rfl rfl) rfl) ?_
              have hz149 := exW_le (d := d - 1) (by omega) (ex_two hb (by omega) (by omega) (by omega)).2.2 (Ex.Ok.kid hk_ (kid_there (x := x) (j := 1) (by omega)))
              have hz149_ := inB_size (decide (fast (x.kid 1) ≤ fast x)) (exW (d - 1) (x.kid 1))
              refine q_call (v := .string (inB (decide (fast (x.kid 1) ≤ fast x)) (exW (d - 1) (x.kid 1)))) F_e47 (w0 rfl) ev_f (m2 (ev_t rfl rfl) (ev_t rfl rfl)) (args := #[.agg #[.int .i8 ((x.kid 1).op), .string ((x.kid 1).t.v), .int .i8 ((x.kid 1).t.l.k), .int .i64 ((x.kid 1).t.l.n), .string ((x.kid 1).t.l.s), .slice A120 ((x.kid 1).kids.length) c121], .bool (decide (fast (x.kid 1) ≤ fast x))]) rfl (fun w_ c_ => Rt.mono (r6_within (d - 1) (x.kid 1) A120 c121 (decide (fast (x.kid 1) ≤ fast x)) _ ho122 (Row.extE hr123 (Ext.trans (Keep.then_ (Keep.then_ (Ext.trans (Ext.trans (Ext.trans (NewB.ext n3) x101) (NewB.ext n140)) (NewB.ext n143)) (Wrote.keep k145) (fun i_ hi_ h_ => by have a_ := NewB.eq n143; have b_ := Keep.size (Ext.trans (Ext.trans (NewB.ext n3) x101) (NewB.ext n140)); omega)) (Wrote.keep k147) (fun i_ hi_ h_ => by have a_ := NewB.eq n140; have b_ := Keep.size (Ext.trans (NewB.ext n3) x101); omega)) c_)) (ih (by omega) 1 _ (kid_there (x := x) (j := 1) (by omega)) (ex_two hb (by omega) (by omega) (by omega)).2.2) hz149) (fun v_ w2_ h_ => ⟨h_.1, Ext.trans c_ h_.2⟩)) ?_
              refine q_val (v := .string (inB (decide (fast (x.kid 0) < fast x)) (exW (d - 1) (x.kid 0)) ++ (⟨#[32]⟩ : ByteArray) ++ (signW x.op) ++ (⟨#[32]⟩ : ByteArray) ++ (inB (decide (fast (x.kid 1) ≤ fast x)) (exW (d - 1) (x.kid 1))))) (w0 rfl) (fun w_ c_ => r_cat (ev_t rfl rfl) (ev_t rfl rfl) (by simp only [ByteArray.size_append, z0, z1, z2, z3, z4, z5, z6]; omega)) ?_
              refine q_val (v := .string (inB (decide (fast (x.kid 0) < fast x)) (exW (d - 1) (x.kid 0)) ++ (⟨#[32]⟩ : ByteArray) ++ (signW x.op) ++ (⟨#[32]⟩ : ByteArray) ++ (inB (decide (fast (x.kid 1) ≤ fast x)) (exW (d - 1) (x.kid 1))))) (w0 rfl) (fun w_ c_ => r_assign (v := .string (inB (decide (fast (x.kid 0) < fast x)) (exW (d - 1) (x.kid 0)) ++ (⟨#[32]⟩ : ByteArray) ++ (signW x.op) ++ (⟨#[32]⟩ : ByteArray) ++ (inB (decide (fast (x.kid 1) ≤ fast x)) (exW (d - 1) (x.kid 1))))) (ev_t rfl rfl)) ?_
              refine q_done ?_
              intro w150 x151
              refine n_then ?_
              refine c_ret ?_
              refine ret1 (v := .string (inB (decide (fast (x.kid 0) < fast x)) (exW (d - 1) (x.kid 0)) ++ (⟨#[32]⟩ : ByteArray) ++ (signW x.op) ++ (⟨#[32]⟩ : ByteArray) ++ (inB (decide (fast (x.kid 1) ≤ fast x)) (exW (d - 1) (x.kid 1))))) rfl rfl rfl ?_
              refine ⟨_, rfl, ?_, (Ext.trans (Keep.then_ (Keep.then_ (Ext.trans (Ext.trans (Ext.trans (NewB.ext n3) x101) (NewB.ext n140)) (NewB.ext n143)) (Wrote.keep k145) (fun i_ hi_ h_ => by have a_ := NewB.eq n143; have b_ := Keep.size (Ext.trans (Ext.trans (NewB.ext n3) x101) (NewB.ext n140)); omega)) (Wrote.keep k147) (fun i_ hi_ h_ => by have a_ := NewB.eq n140; have b_ := Keep.size (Ext.trans (NewB.ext n3) x101); omega)) x151)⟩
              (refine congrArg Value.string ?_; rw [exW_pos hd0_]; first | (rw [if_pos (by omega)]; done) | (rw [if_neg (by omega), if_pos (by omega)]; done) | (rw [if_neg (by omega), if_neg (by omega), if_pos (by omega)]; refine congrArg _ (congrArg (fun b => inB b _) ?_); simp [numB, *]; done) | (rw [if_neg (by omega), if_neg (by omega), if_neg (by omega)]; done))
theorem r6_expr : ∀ (d : Nat) (x : Ex) (A : Option Addr) (c : Nat) (w : World), d ≤ 8 → exB d x = true → x.okc c → Row RE 6 w A x.kids → Rt Tryd.prog 21 #[.agg #[.int .i8 x.op, .string x.t.v, .int .i8 x.t.l.k, .int .i64 x.t.l.n, .string x.t.l.s, .slice A x.kids.length c]] w fun v w' => v = .string (exW d x) ∧ Ext w w' := by
  intro d
  induction d with
  | zero =>
    intro x A c w hd hb ho hr
    simp [exB] at hb
  | succ d ih =>
    intro x A c w hd hb ho hr
    exact r6_expr_step (d + 1) x A c w ho hr hd hb (fun _ j y hj hy A c w ho hr => ih y A c w (by omega) hy ho hr)
set_option maxHeartbeats 4000000 in
theorem r6_Expr (x : Ex) (A : Option Addr) (c : Nat) (w : World) (ho : x.okc c) (hr : Row RE 6 w A x.kids) :
    Rt Tryd.prog 8 #[.agg #[.int .i8 x.op, .string x.t.v, .int .i8 x.t.l.k, .int .i64 x.t.l.n, .string x.t.l.s, .slice A x.kids.length c]] w fun v w' => v = .tuple #[.string (if exB 8 x then exW 8 x else ⟨#[]⟩), .int .i64 (code (exB 8 x))] ∧ Ext w w' := by
  refine enter Tryd.func8 rfl (l := [.agg #[.int .i8 x.op, .string x.t.v, .int .i8 x.t.l.k, .int .i64 x.t.l.n, .string x.t.l.s, .slice A x.kids.length c]]) rfl Tryd.ntmps8 (Nat.le_of_ble_eq_true rfl) ?_
  have hl_ := Ex.okc.l ho
  have hc_ := Ex.okc.c ho
  refine c_seq ?_
  refine c_reg ?_
  refine s_box (v := .agg #[.int .i8 x.op, .string x.t.v, .int .i8 x.t.l.k, .int .i64 x.t.l.n, .string x.t.l.s, .slice A x.kids.length c]) (cs := #[.int .i8 x.op, .string x.t.v, .int .i8 x.t.l.k, .int .i64 x.t.l.n, .string x.t.l.s, .slice A x.kids.length c]) (w0 rfl) (ev_t rfl rfl) rfl ?_
  intro w2 g1 n3
  refine s_assign (v := .string (⟨#[]⟩ : ByteArray)) ev_c (w0 rfl) ?_
  refine s_assign (v := .int .i64 0) ev_c (w0 rfl) ?_
  refine c_done ?_
  refine n_then ?_
  refine c_seq ?_
  refine c_seq ?_
  refine c_reg ?_
  refine s_loadL (cs := [.int .i8 x.op, .string x.t.v, .int .i8 x.t.l.k, .int .i64 x.t.l.n, .string x.t.l.s, .slice A x.kids.length c]) (ca := #[.int .i8 x.op, .string x.t.v, .int .i8 x.t.l.k, .int .i64 x.t.l.n, .string x.t.l.s, .slice A x.kids.length c]) F_m31 (ev_t rfl rfl) rfl rfl (blk_cells (NewB.blk n3) 0 (cs := [.int .i8 x.op, .string x.t.v, .int .i8 x.t.l.k, .int .i64 x.t.l.n, .string x.t.l.s, .slice A x.kids.length c]) rfl) (w0 rfl) ?_
  refine s_call F_e20 (w0 rfl) ev_f (m1 (ev_t rfl rfl)) (args := #[.agg #[.int .i8 x.op, .string x.t.v, .int .i8 x.t.l.k, .int .i64 x.t.l.n, .string x.t.l.s, .slice A x.kids.length c]]) rfl (r4_CheckExpr x A c _ ho (Row.extE hr (NewB.ext n3))) ?_
  rintro _ w5 ⟨rfl, x4⟩
  refine s_cmp (r := !(exB 8 x)) (ev_t rfl rfl) ev_c (ci_tn (b := (exB 8 x)) (by decide)) (w0 rfl) ?_
  refine c_done ?_
  refine n_then ?_
  rcases Bool.eq_false_or_eq_true (exB 8 x) with h6 | h6
  · refine c_cond0 (vb (ev_t rfl rfl) (nbt h6)) ?_
    refine c_skip ?_
    refine n_then ?_
    refine c_seq ?_
    refine c_reg ?_
    refine s_loadL (cs := [.int .i8 x.op, .string x.t.v, .int .i8 x.t.l.k, .int .i64 x.t.l.n, .string x.t.l.s, .slice A x.kids.length c]) (ca := #[.int .i8 x.op, .string x.t.v, .int .i8 x.t.l.k, .int .i64 x.t.l.n, .string x.t.l.s, .slice A x.kids.length c]) F_m31 (ev_t rfl rfl) rfl rfl (blk_cells (Ext.blk x4 (NewB.blk n3)) 0 (cs := [.int .i8 x.op, .string x.t.v, .int .i8 x.t.l.k, .int .i64 x.t.l.n, .string x.t.l.s, .slice A x.kids.length c]) rfl) (w0 rfl) ?_
    refine s_call F_e21 (w0 rfl) ev_f (m1 (ev_t rfl rfl)) (args := #[.agg #[.int .i8 x.op, .string x.t.v, .int .i8 x.t.l.k, .int .i64 x.t.l.n, .string x.t.l.s, .slice A x.kids.length c]]) rfl (r6_expr 8 x A c _ (by decide) (by assumption) ho (Row.extE (Row.extE hr (NewB.ext n3)) x4)) ?_
    rintro _ w8 ⟨rfl, x7⟩
    refine s_assign (v := .string (exW 8 x)) (ev_t rfl rfl) (w0 rfl) ?_
    refine s_assign (v := .int .i64 0) ev_c (w0 rfl) ?_
    refine c_done ?_
    refine n_then ?_
    refine c_ret ?_
    refine ret2 (v := .string (exW 8 x)) (v2 := .int .i64 0) rfl rfl rfl rfl rfl ?_
    refine ⟨_, rfl, ?_, (Ext.trans (Ext.trans (NewB.ext n3) x4) x7)⟩
    (simp [code, *])
  · refine c_cond1 (vb (ev_t rfl rfl) (nbf h6)) ?_
    refine c_seq ?_
    refine c_reg ?_
    refine s_assign (v := .string (⟨#[]⟩ : ByteArray)) ev_c (w0 rfl) ?_
    refine s_assign (v := .int .i64 40) ev_c (w0 rfl) ?_
    refine c_done ?_
    refine n_then ?_
    refine c_ret ?_
    refine r_then ?_
    refine ret2 (v := .string (⟨#[]⟩ : ByteArray)) (v2 := .int .i64 40) rfl rfl rfl rfl rfl ?_
    refine ⟨_, rfl, ?_, (Ext.trans (NewB.ext n3) x4)⟩
    (simp [code, *])
end Go.Proofs.Dw
