/- YtjjkfbjidpolmaaDoorDB: part of the proof of this seat, by an AI agent: walks of the functions that the law reaches. No condition of its own but those that its theorems state. -/
import Derived.Test.YtjjkfbjidpolmaaDoorDA
set_option linter.unusedVariables false
set_option linter.unusedSimpArgs false
set_option maxRecDepth 10000
namespace Go.Proofs.Dw
open Go Go.Wk Go.Proofs Go.Lib
attribute [local irreducible] Go.wpList Go.wpStill Go.wpQuiet Go.Code.wp Go.Calls
theorem F_e104 : enterable Tryd.prog 104 = true := by kernel_rfl
theorem F_e105 : enterable Tryd.prog 105 = true := by kernel_rfl
theorem F_e106 : enterable Tryd.prog 106 = true := by kernel_rfl
theorem F_e76 : enterable Tryd.prog 76 = true := by kernel_rfl
theorem F_f31_0 : fieldAt Tryd.prog 31 0 0 = true := by kernel_rfl
theorem F_o23 : one Tryd.prog 23 = true := by kernel_rfl
set_option maxHeartbeats 4000000 in
theorem r1_Show (x : Vl) (w : World) (hx : x.wf) :
    Rt Tryd.prog 76 #[.agg #[.int .i8 x.k, .int .i64 x.n, .string x.s]] w fun v w' => v = .tuple #[.string (if okV x then showB x else ⟨#[]⟩), .int .i64 (if okV x then 0 else 10 : Int)] ∧ Ext w w' := by
  refine enter Tryd.func76 rfl (l := [.agg #[.int .i8 x.k, .int .i64 x.n, .string x.s]]) rfl Tryd.ntmps76 (Nat.le_of_ble_eq_true rfl) ?_
  refine c_seq ?_
  refine c_reg ?_
  refine s_box (v := .agg #[.int .i8 x.k, .int .i64 x.n, .string x.s]) (cs := #[.int .i8 x.k, .int .i64 x.n, .string x.s]) (w0 rfl) (ev_t rfl rfl) rfl ?_
  intro w2 g1 n3
  refine s_assign (v := .string (⟨#[]⟩ : ByteArray)) ev_c (w0 rfl) ?_
  refine s_assign (v := .int .i64 0) ev_c (w0 rfl) ?_
  refine c_done ?_
  refine n_then ?_
  refine c_seq ?_
  refine c_block ?_
  refine c_seq ?_
  refine c_reg ?_
  refine s_loadL (cs := [.int .i8 x.k, .int .i64 x.n, .string x.s]) (ca := #[.int .i8 x.k, .int .i64 x.n, .string x.s]) F_m26 (ev_t rfl rfl) rfl rfl (blk_cells (NewB.blk n3) 0 (cs := [.int .i8 x.k, .int .i64 x.n, .string x.s]) rfl) (w0 rfl) ?_
  refine s_call F_e102 (w0 rfl) ev_f (m1 (ev_t rfl rfl)) (args := #[.agg #[.int .i8 x.k, .int .i64 x.n, .string x.s]]) rfl (r1_Check x _) ?_
  rintro _ w5 ⟨rfl, x4⟩
  refine s_cmp (r := !(okV x)) (ev_t rfl rfl) ev_c (ci_tn (b := (okV x)) (by decide)) (w0 rfl) ?_
  refine s_assign (v := .bool (!(okV x))) (ev_t rfl rfl) (w0 rfl) ?_
  refine c_done ?_
  refine n_then ?_
  rcases Bool.eq_false_or_eq_true (okV x) with h6 | h6
  · refine c_cond0 (vb (ev_t rfl rfl) (nbt h6)) ?_
    refine c_seq ?_
    refine c_reg ?_
    refine s_field (off := 0) (o' := 0) F_f26_0 (ev_t rfl rfl) rfl (w0 rfl) ?_
    refine s_load (v := .int .i8 x.k) F_o24 (ev_t rfl rfl) (cell_of_blk (i := 0) (Ext.blk x4 (NewB.blk n3)) rfl) (w0 rfl) ?_
    refine s_cmp (r := decide (x.k = 1)) (ev_t rfl rfl) ev_c rfl (w0 rfl) ?_
    refine s_assign (v := .bool (decide (x.k = 1))) (ev_t rfl rfl) (w0 rfl) ?_
    refine c_done ?_
    refine n_then ?_
    by_cases h7 : x.k = 1
    · refine c_cond1 (vb (ev_t rfl rfl) (decide_eq_true h7)) ?_
      refine c_seq ?_
      refine c_reg ?_
      refine s_field (off := 1) (o' := 1) F_f26_1 (ev_t rfl rfl) rfl (w0 rfl) ?_
      refine s_load (v := .int .i64 x.n) F_o2 (ev_t rfl rfl) (cell_of_blk (i := 1) (Ext.blk x4 (NewB.blk n3)) rfl) (w0 rfl) ?_
      refine s_call F_e104 (w0 rfl) ev_f (m1 (ev_t rfl rfl)) (args := #[.int .i64 x.n]) rfl (r1_Digits x.n _ (Vl.wf.n hx)) ?_
      rintro _ w9 ⟨rfl, x8⟩
      refine s_assign (v := .string (itoaB x.n)) (ev_t rfl rfl) (w0 rfl) ?_
      refine s_assign (v := .int .i64 0) ev_c (w0 rfl) ?_
      refine c_done ?_
      refine n_then ?_
      refine c_ret ?_
      refine r_block ?_
      refine r_then ?_
      refine ret2 (v := .string (itoaB x.n)) (v2 := .int .i64 0) rfl rfl rfl rfl rfl ?_
      refine ⟨_, rfl, ?_, (Ext.trans (Ext.trans (NewB.ext n3) x4) x8)⟩
      (simp [showB, *])
    · refine c_cond0 (vb (ev_t rfl rfl) (decide_eq_false h7)) ?_
      refine c_seq ?_
      refine c_reg ?_
      refine s_field (off := 2) (o' := 2) F_f26_2 (ev_t rfl rfl) rfl (w0 rfl) ?_
      refine s_load (v := .string x.s) F_o9 (ev_t rfl rfl) (cell_of_blk (i := 2) (Ext.blk x4 (NewB.blk n3)) rfl) (w0 rfl) ?_
      refine s_call F_e105 (w0 rfl) ev_f (m1 (ev_t rfl rfl)) (args := #[.string x.s]) rfl (r1_Name x.s _ (Vl.wf.s hx)) ?_
      rintro _ w11 ⟨rfl, x10⟩
      refine s_assign (v := .bool (nameB x.s)) (ev_t rfl rfl) (w0 rfl) ?_
      refine c_done ?_
      refine n_then ?_
      rcases Bool.eq_false_or_eq_true (nameB x.s) with h12 | h12
      · refine c_cond1 (vb (ev_t rfl rfl) h12) ?_
        refine c_seq ?_
        refine c_reg ?_
        refine s_field (off := 2) (o' := 2) F_f26_2 (ev_t rfl rfl) rfl (w0 rfl) ?_
        refine s_load (v := .string x.s) F_o9 (ev_t rfl rfl) (cell_of_blk (i := 2) (Ext.blk x10 (Ext.blk x4 (NewB.blk n3))) rfl) (w0 rfl) ?_
        refine s_assign (v := .string x.s) (ev_t rfl rfl) (w0 rfl) ?_
        refine s_assign (v := .int .i64 0) ev_c (w0 rfl) ?_
        refine c_done ?_
        refine n_then ?_
        refine c_ret ?_
        refine r_block ?_
        refine r_then ?_
        refine ret2 (v := .string x.s) (v2 := .int .i64 0) rfl rfl rfl rfl rfl ?_
        refine ⟨_, rfl, ?_, (Ext.trans (Ext.trans (NewB.ext n3) x4) x10)⟩
        (simp [showB, *])
      · refine c_cond0 (vb (ev_t rfl rfl) h12) ?_
        refine c_skip ?_
        refine n_block ?_
        refine n_then ?_
        refine c_seq ?_
        refine c_reg ?_
        refine s_field (off := 2) (o' := 2) F_f26_2 (ev_t rfl rfl) rfl (w0 rfl) ?_
        refine s_load (v := .string x.s) F_o9 (ev_t rfl rfl) (cell_of_blk (i := 2) (Ext.blk x10 (Ext.blk x4 (NewB.blk n3))) rfl) (w0 rfl) ?_
        refine s_call F_e106 (w0 rfl) ev_f (m1 (ev_t rfl rfl)) (args := #[.string x.s]) rfl (r1_Quoted x.s _ (by have z_ := okV_s (x := x) (by assumption); omega)) ?_
        rintro _ w14 ⟨rfl, x13⟩
        refine s_assign (v := .string (quotB x.s)) (ev_t rfl rfl) (w0 rfl) ?_
        refine s_assign (v := .int .i64 0) ev_c (w0 rfl) ?_
        refine c_done ?_
        refine n_then ?_
        refine c_ret ?_
        refine ret2 (v := .string (quotB x.s)) (v2 := .int .i64 0) rfl rfl rfl rfl rfl ?_
        refine ⟨_, rfl, ?_, (Ext.trans (Ext.trans (Ext.trans (NewB.ext n3) x4) x10) x13)⟩
        (simp [showB, *])
  · refine c_cond1 (vb (ev_t rfl rfl) (nbf h6)) ?_
    refine c_seq ?_
    refine c_reg ?_
    refine s_assign (v := .string (⟨#[]⟩ : ByteArray)) ev_c (w0 rfl) ?_
    refine s_assign (v := .int .i64 10) ev_c (w0 rfl) ?_
    refine c_done ?_
    refine n_then ?_
    refine c_ret ?_
    refine r_block ?_
    refine r_then ?_
    refine ret2 (v := .string (⟨#[]⟩ : ByteArray)) (v2 := .int .i64 10) rfl rfl rfl rfl rfl ?_
    refine ⟨_, rfl, ?_, (Ext.trans (NewB.ext n3) x4)⟩
    (simp [showB, *])
set_option maxHeartbeats 4000000 in
theorem r6_term (x : Tm) (w : World) (hx : x.wf) :
    Rt Tryd.prog 45 #[.agg #[.string x.v, .int .i8 x.l.k, .int .i64 x.l.n, .string x.l.s]] w fun v w' => v = .string (termW x) ∧ Ext w w' := by
  refine enter Tryd.func45 rfl (l := [.agg #[.string x.v, .int .i8 x.l.k, .int .i64 x.l.n, .string x.l.s]]) rfl Tryd.ntmps45 (Nat.le_of_ble_eq_true rfl) ?_
  refine c_seq ?_
  refine c_reg ?_
  refine s_box (v := .agg #[.string x.v, .int .i8 x.l.k, .int .i64 x.l.n, .string x.l.s]) (cs := #[.string x.v, .int .i8 x.l.k, .int .i64 x.l.n, .string x.l.s]) (w0 rfl) (ev_t rfl rfl) rfl ?_
  intro w2 g1 n3
  refine s_assign (v := .string (⟨#[]⟩ : ByteArray)) ev_c (w0 rfl) ?_
  refine c_done ?_
  refine n_then ?_
  refine c_seq ?_
  refine c_seq ?_
  refine c_reg ?_
  refine s_field (off := 0) (o' := 0) F_f28_0 (ev_t rfl rfl) rfl (w0 rfl) ?_
  refine s_load (v := .string x.v) F_o9 (ev_t rfl rfl) (cell_of_blk (i := 0) (NewB.blk n3) rfl) (w0 rfl) ?_
  refine s_cmpS (r := !decide (x.v = (⟨#[]⟩ : ByteArray))) (ev_t rfl rfl) ev_c rfl (w0 rfl) ?_
  refine c_done ?_
  refine n_then ?_
  by_cases h4 : x.v = (⟨#[]⟩ : ByteArray)
  · refine c_cond0 (vb (ev_t rfl rfl) (nb0 h4)) ?_
    refine c_skip ?_
    refine n_then ?_
    refine c_seq ?_
    refine c_reg ?_
    refine s_field (off := 1) (o' := 1) F_f28_1 (ev_t rfl rfl) rfl (w0 rfl) ?_
    refine s_loadL (cs := [.int .i8 x.l.k, .int .i64 x.l.n, .string x.l.s]) (ca := #[.int .i8 x.l.k, .int .i64 x.l.n, .string x.l.s]) F_m26 (ev_t rfl rfl) rfl rfl (blk_cells (NewB.blk n3) 1 (cs := [.int .i8 x.l.k, .int .i64 x.l.n, .string x.l.s]) rfl) (w0 rfl) ?_
    refine s_call F_e76 (w0 rfl) ev_f (m1 (ev_t rfl rfl)) (args := #[.agg #[.int .i8 x.l.k, .int .i64 x.l.n, .string x.l.s]]) rfl (r1_Show x.l _ (Tm.wf.l hx)) ?_
    rintro _ w6 ⟨rfl, x5⟩
    refine s_move (v := .tuple #[.string (if okV x.l then showB x.l else ⟨#[]⟩), .int .i64 (if okV x.l then 0 else 10 : Int)]) (ev_t rfl rfl) (w0 rfl) ?_
    refine s_extract (v := .string (if okV x.l then showB x.l else ⟨#[]⟩)) (ev_t rfl rfl) rfl (w0 rfl) ?_
    refine s_extract (v := .int .i64 (if okV x.l then 0 else 10 : Int)) (ev_t rfl rfl) rfl (w0 rfl) ?_
    refine s_assign (v := .string (if okV x.l then showB x.l else ⟨#[]⟩)) (ev_t rfl rfl) (w0 rfl) ?_
    refine s_assign (v := .int .i64 (if okV x.l then 0 else 10 : Int)) (ev_t rfl rfl) (w0 rfl) ?_
    refine c_done ?_
    refine n_then ?_
    refine c_seq ?_
    refine c_reg ?_
    refine s_move (v := .string (if okV x.l then showB x.l else ⟨#[]⟩)) (ev_t rfl rfl) (w0 rfl) ?_
    refine s_assign (v := .string (if okV x.l then showB x.l else ⟨#[]⟩)) (ev_t rfl rfl) (w0 rfl) ?_
    refine c_done ?_
    refine n_then ?_
    refine c_ret ?_
    refine ret1 (v := .string (if okV x.l then showB x.l else ⟨#[]⟩)) rfl rfl rfl ?_
    refine ⟨_, rfl, ?_, (Ext.trans (NewB.ext n3) x5)⟩
    (simp [termW, *])
  · refine c_cond1 (vb (ev_t rfl rfl) (nb1 h4)) ?_
    refine c_seq ?_
    refine c_reg ?_
    refine s_field (off := 0) (o' := 0) F_f28_0 (ev_t rfl rfl) rfl (w0 rfl) ?_
    refine s_load (v := .string x.v) F_o9 (ev_t rfl rfl) (cell_of_blk (i := 0) (NewB.blk n3) rfl) (w0 rfl) ?_
    refine s_assign (v := .string x.v) (ev_t rfl rfl) (w0 rfl) ?_
    refine c_done ?_
    refine n_then ?_
    refine c_ret ?_
    refine r_then ?_
    refine ret1 (v := .string x.v) rfl rfl rfl ?_
    refine ⟨_, rfl, ?_, (NewB.ext n3)⟩
    (simp [termW, *])
set_option maxHeartbeats 4000000 in
theorem r6_Fast (x : Ex) (A : Option Addr) (c : Nat) (w : World) (ho : x.okc c) (hr : Row RE 6 w A x.kids) :
    Rt Tryd.prog 48 #[.agg #[.int .i8 x.op, .string x.t.v, .int .i8 x.t.l.k, .int .i64 x.t.l.n, .string x.t.l.s, .slice A x.kids.length c]] w fun v w' => v = .int .i64 (fast x) ∧ Ext w w' := by
  refine enter Tryd.func48 rfl (l := [.agg #[.int .i8 x.op, .string x.t.v, .int .i8 x.t.l.k, .int .i64 x.t.l.n, .string x.t.l.s, .slice A x.kids.length c]]) rfl Tryd.ntmps48 (Nat.le_of_ble_eq_true rfl) ?_
  have hl_ := Ex.okc.l ho
  have hc_ := Ex.okc.c ho
  refine c_seq ?_
  refine c_reg ?_
  refine s_box (v := .agg #[.int .i8 x.op, .string x.t.v, .int .i8 x.t.l.k, .int .i64 x.t.l.n, .string x.t.l.s, .slice A x.kids.length c]) (cs := #[.int .i8 x.op, .string x.t.v, .int .i8 x.t.l.k, .int .i64 x.t.l.n, .string x.t.l.s, .slice A x.kids.length c]) (w0 rfl) (ev_t rfl rfl) rfl ?_
  intro w2 g1 n3
  refine s_assign (v := .int .i64 0) ev_c (w0 rfl) ?_
  refine c_done ?_
  refine n_then ?_
  refine c_seq ?_
  refine c_seq ?_
  refine c_reg ?_
  refine s_field (off := 0) (o' := 0) F_f31_0 (ev_t rfl rfl) rfl (w0 rfl) ?_
  refine s_load (v := .int .i8 x.op) F_o23 (ev_t rfl rfl) (cell_of_blk (i := 0) (NewB.blk n3) rfl) (w0 rfl) ?_
  refine c_done ?_
  refine n_then ?_
  refine c_block ?_
  refine c_seq ?_
  refine c_seq ?_
  refine c_reg ?_
  refine s_cmp (r := decide (x.op = 2)) (ev_t rfl rfl) ev_c rfl (w0 rfl) ?_
  refine s_assign (v := .bool (decide (x.op = 2))) (ev_t rfl rfl) (w0 rfl) ?_
  refine c_done ?_
  refine n_then ?_
  by_cases h4 : x.op = 2
  · refine c_cond1 (vb (ev_t rfl rfl) (decide_eq_true h4)) ?_
    refine c_skip ?_
    refine n_then ?_
    refine c_cond1 (vb (ev_t rfl rfl) (decide_eq_true h4)) ?_
    refine c_seq ?_
    refine c_reg ?_
    refine s_assign (v := .int .i64 1) ev_c (w0 rfl) ?_
    refine c_done ?_
    refine n_then ?_
    refine c_ret ?_
    refine r_block ?_
    refine r_then ?_
    refine ret1 (v := .int .i64 1) rfl rfl rfl ?_
    refine ⟨_, rfl, ?_, (NewB.ext n3)⟩
    (first | rfl | (simp [fast, *]; done) | (simp [fast, *]; omega) | (simp [fast, *] <;> omega))
  · refine c_cond0 (vb (ev_t rfl rfl) (decide_eq_false h4)) ?_
    refine c_seq ?_
    refine c_reg ?_
    refine s_cmp (r := decide (x.op = 3)) (ev_t rfl rfl) ev_c rfl (w0 rfl) ?_
    refine s_assign (v := .bool (decide (x.op = 3))) (ev_t rfl rfl) (w0 rfl) ?_
    refine c_done ?_
    refine n_then ?_
    by_cases h5 : x.op = 3
    · refine c_cond1 (vb (ev_t rfl rfl) (decide_eq_true h5)) ?_
      refine c_skip ?_
      refine n_then ?_
      refine c_cond1 (vb (ev_t rfl rfl) (decide_eq_true h5)) ?_
      refine c_seq ?_
      refine c_reg ?_
      refine s_assign (v := .int .i64 1) ev_c (w0 rfl) ?_
      refine c_done ?_
      refine n_then ?_
      refine c_ret ?_
      refine r_block ?_
      refine r_then ?_
      refine ret1 (v := .int .i64 1) rfl rfl rfl ?_
      refine ⟨_, rfl, ?_, (NewB.ext n3)⟩
      (first | rfl | (simp [fast, *]; done) | (simp [fast, *]; omega) | (simp [fast, *] <;> omega))
    · refine c_cond0 (vb (ev_t rfl rfl) (decide_eq_false h5)) ?_
      refine c_reg ?_
      refine s_cmp (r := decide (x.op = 7)) (ev_t rfl rfl) ev_c rfl (w0 rfl) ?_
      refine s_assign (v := .bool (decide (x.op = 7))) (ev_t rfl rfl) (w0 rfl) ?_
      refine c_done ?_
      refine n_then ?_
      by_cases h6 : x.op = 7
      · refine c_cond1 (vb (ev_t rfl rfl) (decide_eq_true h6)) ?_
        refine c_seq ?_
        refine c_reg ?_
        refine s_assign (v := .int .i64 1) ev_c (w0 rfl) ?_
        refine c_done ?_
        refine n_then ?_
        refine c_ret ?_
        refine r_block ?_
        refine r_then ?_
        refine ret1 (v := .int .i64 1) rfl rfl rfl ?_
        refine ⟨_, rfl, ?_, (NewB.ext n3)⟩
        (first | rfl | (simp [fast, *]; done) | (simp [fast, *]; omega) | (simp [fast, *] <;> omega))
      · refine c_cond0 (vb (ev_t rfl rfl) (decide_eq_false h6)) ?_
        refine c_seq ?_
        refine c_seq ?_
        refine c_reg ?_
        refine s_cmp (r := decide (x.op = 4)) (ev_t rfl rfl) ev_c rfl (w0 rfl) ?_
        refine s_assign (v := .bool (decide (x.op = 4))) (ev_t rfl rfl) (w0 rfl) ?_
        refine c_done ?_
        refine n_then ?_
        by_cases h7 : x.op = 4
        · refine c_cond1 (vb (ev_t rfl rfl) (decide_eq_true h7)) ?_
          refine c_skip ?_
          refine n_then ?_
          refine c_cond1 (vb (ev_t rfl rfl) (decide_eq_true h7)) ?_
          refine c_seq ?_
          refine c_reg ?_
          refine s_assign (v := .int .i64 2) ev_c (w0 rfl) ?_
          refine c_done ?_
          refine n_then ?_
          refine c_ret ?_
          refine r_block ?_
          refine r_then ?_
          refine ret1 (v := .int .i64 2) rfl rfl rfl ?_
          refine ⟨_, rfl, ?_, (NewB.ext n3)⟩
          (first | rfl | (simp [fast, *]; done) | (simp [fast, *]; omega) | (simp [fast, *] <;> omega))
        · refine c_cond0 (vb (ev_t rfl rfl) (decide_eq_false h7)) ?_
          refine c_seq ?_
          refine c_reg ?_
          refine s_cmp (r := decide (x.op = 5)) (ev_t rfl rfl) ev_c rfl (w0 rfl) ?_
          refine s_assign (v := .bool (decide (x.op = 5))) (ev_t rfl rfl) (w0 rfl) ?_
          refine c_done ?_
          refine n_then ?_
          by_cases h8 : x.op = 5
          · refine c_cond1 (vb (ev_t rfl rfl) (decide_eq_true h8)) ?_
            refine c_skip ?_
            refine n_then ?_
            refine c_cond1 (vb (ev_t rfl rfl) (decide_eq_true h8)) ?_
            refine c_seq ?_
            refine c_reg ?_
            refine s_assign (v := .int .i64 2) ev_c (w0 rfl) ?_
            refine c_done ?_
            refine n_then ?_
            refine c_ret ?_
            refine r_block ?_
            refine r_then ?_
            refine ret1 (v := .int .i64 2) rfl rfl rfl ?_
            refine ⟨_, rfl, ?_, (NewB.ext n3)⟩
            (first | rfl | (simp [fast, *]; done) | (simp [fast, *]; omega) | (simp [fast, *] <;> omega))
          · refine c_cond0 (vb (ev_t rfl rfl) (decide_eq_false h8)) ?_
            refine c_reg ?_
            refine s_cmp (r := decide (x.op = 6)) (ev_t rfl rfl) ev_c rfl (w0 rfl) ?_
            refine s_assign (v := .bool (decide (x.op = 6))) (ev_t rfl rfl) (w0 rfl) ?_
            refine c_done ?_
            refine n_then ?_
            by_cases h9 : x.op = 6
            · refine c_cond1 (vb (ev_t rfl rfl) (decide_eq_true h9)) ?_
              refine c_seq ?_
              refine c_reg ?_
              refine s_assign (v := .int .i64 2) ev_c (w0 rfl) ?_
              refine c_done ?_
              refine n_then ?_
              refine c_ret ?_
              refine r_block ?_
              refine r_then ?_
              refine ret1 (v := .int .i64 2) rfl rfl rfl ?_
              refine ⟨_, rfl, ?_, (NewB.ext n3)⟩
              (first | rfl | (simp [fast, *]; done) | (simp [fast, *]; omega) | (simp [fast, *] <;> omega))
            · refine c_cond0 (vb (ev_t rfl rfl) (decide_eq_false h9)) ?_
              refine c_seq ?_
              refine c_reg ?_
              refine s_cmp (r := decide (x.op = 1)) (ev_t rfl rfl) ev_c rfl (w0 rfl) ?_
              refine s_assign (v := .bool (decide (x.op = 1))) (ev_t rfl rfl) (w0 rfl) ?_
              refine c_done ?_
              refine n_then ?_
              by_cases h10 : x.op = 1
              · refine c_cond1 (vb (ev_t rfl rfl) (decide_eq_true h10)) ?_
                refine c_seq ?_
                refine c_reg ?_
                refine s_assign (v := .int .i64 3) ev_c (w0 rfl) ?_
                refine c_done ?_
                refine n_then ?_
                refine c_ret ?_
                refine r_block ?_
                refine r_then ?_
                refine ret1 (v := .int .i64 3) rfl rfl rfl ?_
                refine ⟨_, rfl, ?_, (NewB.ext n3)⟩
                (first | rfl | (simp [fast, *]; done) | (simp [fast, *]; omega) | (simp [fast, *] <;> omega))
              · refine c_cond0 (vb (ev_t rfl rfl) (decide_eq_false h10)) ?_
                refine c_skip ?_
                refine n_block ?_
                refine n_then ?_
                refine c_seq ?_
                refine c_reg ?_
                refine s_assign (v := .int .i64 4) ev_c (w0 rfl) ?_
                refine c_done ?_
                refine n_then ?_
                refine c_ret ?_
                refine ret1 (v := .int .i64 4) rfl rfl rfl ?_
                refine ⟨_, rfl, ?_, (NewB.ext n3)⟩
                (first | rfl | (simp [fast, *]; done) | (simp [fast, *]; omega) | (simp [fast, *] <;> omega))
set_option maxHeartbeats 4000000 in
theorem r6_sign (op : Int) (w : World) :
    Rt Tryd.prog 49 #[.int .i8 op] w fun v w' => v = .string (signW op) ∧ Ext w w' := by
  refine enter Tryd.func49 rfl (l := [.int .i8 op]) rfl Tryd.ntmps49 (Nat.le_of_ble_eq_true rfl) ?_
  refine c_seq ?_
  refine c_reg ?_
  refine s_assign (v := .string (⟨#[]⟩ : ByteArray)) ev_c (w0 rfl) ?_
  refine c_done ?_
  refine n_then ?_
  refine c_seq ?_
  refine c_seq ?_
  refine c_reg ?_
  refine s_move (v := .int .i8 op) (ev_t rfl rfl) (w0 rfl) ?_
  refine c_done ?_
  refine n_then ?_
  refine c_block ?_
  refine c_seq ?_
  refine c_reg ?_
  refine s_cmp (r := decide (op = 2)) (ev_t rfl rfl) ev_c rfl (w0 rfl) ?_
  refine s_assign (v := .bool (decide (op = 2))) (ev_t rfl rfl) (w0 rfl) ?_
  refine c_done ?_
  refine n_then ?_
  by_cases h1 : op = 2
  · refine c_cond1 (vb (ev_t rfl rfl) (decide_eq_true h1)) ?_
    refine c_seq ?_
    refine c_reg ?_
    refine s_assign (v := .string (⟨#[43]⟩ : ByteArray)) ev_c (w0 rfl) ?_
    refine c_done ?_
    refine n_then ?_
    refine c_ret ?_
    refine r_block ?_
    refine r_then ?_
    refine ret1 (v := .string (⟨#[43]⟩ : ByteArray)) rfl rfl rfl ?_
    refine ⟨_, rfl, ?_, (Ext.refl w)⟩
    (first | rfl | (simp [signW, *]; done) | (simp [signW, *]; omega) | (simp [signW, *] <;> omega))
  · refine c_cond0 (vb (ev_t rfl rfl) (decide_eq_false h1)) ?_
    refine c_seq ?_
    refine c_reg ?_
    refine s_cmp (r := decide (op = 3)) (ev_t rfl rfl) ev_c rfl (w0 rfl) ?_
    refine s_assign (v := .bool (decide (op = 3))) (ev_t rfl rfl) (w0 rfl) ?_
    refine c_done ?_
    refine n_then ?_
    by_cases h2 : op = 3
    · refine c_cond1 (vb (ev_t rfl rfl) (decide_eq_true h2)) ?_
      refine c_seq ?_
      refine c_reg ?_
      refine s_assign (v := .string (⟨#[45]⟩ : ByteArray)) ev_c (w0 rfl) ?_
      refine c_done ?_
      refine n_then ?_
      refine c_ret ?_
      refine r_block ?_
      refine r_then ?_
      refine ret1 (v := .string (⟨#[45]⟩ : ByteArray)) rfl rfl rfl ?_
      refine ⟨_, rfl, ?_, (Ext.refl w)⟩
      (first | rfl | (simp [signW, *]; done) | (simp [signW, *]; omega) | (simp [signW, *] <;> omega))
    · refine c_cond0 (vb (ev_t rfl rfl) (decide_eq_false h2)) ?_
      refine c_seq ?_
      refine c_reg ?_
      refine s_cmp (r := decide (op = 4)) (ev_t rfl rfl) ev_c rfl (w0 rfl) ?_
      refine s_assign (v := .bool (decide (op = 4))) (ev_t rfl rfl) (w0 rfl) ?_
      refine c_done ?_
      refine n_then ?_
      by_cases h3 : op = 4
      · refine c_cond1 (vb (ev_t rfl rfl) (decide_eq_true h3)) ?_
        refine c_seq ?_
        refine c_reg ?_
        refine s_assign (v := .string (⟨#[42]⟩ : ByteArray)) ev_c (w0 rfl) ?_
        refine c_done ?_
        refine n_then ?_
        refine c_ret ?_
        refine r_block ?_
        refine r_then ?_
        refine ret1 (v := .string (⟨#[42]⟩ : ByteArray)) rfl rfl rfl ?_
        refine ⟨_, rfl, ?_, (Ext.refl w)⟩
        (first | rfl | (simp [signW, *]; done) | (simp [signW, *]; omega) | (simp [signW, *] <;> omega))
      · refine c_cond0 (vb (ev_t rfl rfl) (decide_eq_false h3)) ?_
        refine c_seq ?_
        refine c_reg ?_
        refine s_cmp (r := decide (op = 5)) (ev_t rfl rfl) ev_c rfl (w0 rfl) ?_
        refine s_assign (v := .bool (decide (op = 5))) (ev_t rfl rfl) (w0 rfl) ?_
        refine c_done ?_
        refine n_then ?_
        by_cases h4 : op = 5
        · refine c_cond1 (vb (ev_t rfl rfl) (decide_eq_true h4)) ?_
          refine c_seq ?_
          refine c_reg ?_
          refine s_assign (v := .string (⟨#[47]⟩ : ByteArray)) ev_c (w0 rfl) ?_
          refine c_done ?_
          refine n_then ?_
          refine c_ret ?_
          refine r_block ?_
          refine r_then ?_
          refine ret1 (v := .string (⟨#[47]⟩ : ByteArray)) rfl rfl rfl ?_
          refine ⟨_, rfl, ?_, (Ext.refl w)⟩
          (first | rfl | (simp [signW, *]; done) | (simp [signW, *]; omega) | (simp [signW, *] <;> omega))
        · refine c_cond0 (vb (ev_t rfl rfl) (decide_eq_false h4)) ?_
          refine c_seq ?_
          refine c_reg ?_
          refine s_cmp (r := decide (op = 6)) (ev_t rfl rfl) ev_c rfl (w0 rfl) ?_
          refine s_assign (v := .bool (decide (op = 6))) (ev_t rfl rfl) (w0 rfl) ?_
          refine c_done ?_
          refine n_then ?_
          by_cases h5 : op = 6
          · refine c_cond1 (vb (ev_t rfl rfl) (decide_eq_true h5)) ?_
            refine c_seq ?_
            refine c_reg ?_
            refine s_assign (v := .string (⟨#[37]⟩ : ByteArray)) ev_c (w0 rfl) ?_
            refine c_done ?_
            refine n_then ?_
            refine c_ret ?_
            refine r_block ?_
            refine r_then ?_
            refine ret1 (v := .string (⟨#[37]⟩ : ByteArray)) rfl rfl rfl ?_
            refine ⟨_, rfl, ?_, (Ext.refl w)⟩
            (first | rfl | (simp [signW, *]; done) | (simp [signW, *]; omega) | (simp [signW, *] <;> omega))
          · refine c_cond0 (vb (ev_t rfl rfl) (decide_eq_false h5)) ?_
            refine c_skip ?_
            refine n_block ?_
            refine n_then ?_
            refine c_seq ?_
            refine c_reg ?_
            refine s_assign (v := .string (⟨#[38]⟩ : ByteArray)) ev_c (w0 rfl) ?_
            refine c_done ?_
            refine n_then ?_
            refine c_ret ?_
            refine ret1 (v := .string (⟨#[38]⟩ : ByteArray)) rfl rfl rfl ?_
            refine ⟨_, rfl, ?_, (Ext.refl w)⟩
            (first | rfl | (simp [signW, *]; done) | (simp [signW, *]; omega) | (simp [signW, *] <;> omega))
set_option maxHeartbeats 4000000 in
theorem r6_word (op : Int) (w : World) :
    Rt Tryd.prog 46 #[.int .i8 op] w fun v w' => v = .string (wordW op) ∧ Ext w w' := by
  refine enter Tryd.func46 rfl (l := [.int .i8 op]) rfl Tryd.ntmps46 (Nat.le_of_ble_eq_true rfl) ?_
  refine c_seq ?_
  refine c_reg ?_
  refine s_assign (v := .string (⟨#[]⟩ : ByteArray)) ev_c (w0 rfl) ?_
  refine c_done ?_
  refine n_then ?_
  refine c_seq ?_
  refine c_seq ?_
  refine c_reg ?_
  refine s_move (v := .int .i8 op) (ev_t rfl rfl) (w0 rfl) ?_
  refine c_done ?_
  refine n_then ?_
  refine c_block ?_
  refine c_seq ?_
  refine c_reg ?_
  refine s_cmp (r := decide (op = 8)) (ev_t rfl rfl) ev_c rfl (w0 rfl) ?_
  refine s_assign (v := .bool (decide (op = 8))) (ev_t rfl rfl) (w0 rfl) ?_
  refine c_done ?_
  refine n_then ?_
  by_cases h1 : op = 8
  · refine c_cond1 (vb (ev_t rfl rfl) (decide_eq_true h1)) ?_
    refine c_seq ?_
    refine c_reg ?_
    refine s_assign (v := .string (⟨#[108, 101, 110]⟩ : ByteArray)) ev_c (w0 rfl) ?_
    refine c_done ?_
    refine n_then ?_
    refine c_ret ?_
    refine r_block ?_
    refine r_then ?_
    refine ret1 (v := .string (⟨#[108, 101, 110]⟩ : ByteArray)) rfl rfl rfl ?_
    refine ⟨_, rfl, ?_, (Ext.refl w)⟩
    (first | rfl | (simp [wordW, *]; done) | (simp [wordW, *]; omega) | (simp [wordW, *] <;> omega))
  · refine c_cond0 (vb (ev_t rfl rfl) (decide_eq_false h1)) ?_
    refine c_seq ?_
    refine c_reg ?_
    refine s_cmp (r := decide (op = 9)) (ev_t rfl rfl) ev_c rfl (w0 rfl) ?_
    refine s_assign (v := .bool (decide (op = 9))) (ev_t rfl rfl) (w0 rfl) ?_
    refine c_done ?_
    refine n_then ?_
    by_cases h2 : op = 9
    · refine c_cond1 (vb (ev_t rfl rfl) (decide_eq_true h2)) ?_
      refine c_seq ?_
      refine c_reg ?_
      refine s_assign (v := .string (⟨#[99, 104, 97, 114, 115]⟩ : ByteArray)) ev_c (w0 rfl) ?_
      refine c_done ?_
      refine n_then ?_
      refine c_ret ?_
      refine r_block ?_
      refine r_then ?_
      refine ret1 (v := .string (⟨#[99, 104, 97, 114, 115]⟩ : ByteArray)) rfl rfl rfl ?_
      refine ⟨_, rfl, ?_, (Ext.refl w)⟩
      (first | rfl | (simp [wordW, *]; done) | (simp [wordW, *]; omega) | (simp [wordW, *] <;> omega))
    · refine c_cond0 (vb (ev_t rfl rfl) (decide_eq_false h2)) ?_
      refine c_skip ?_
      refine n_block ?_
      refine n_then ?_
      refine c_seq ?_
      refine c_reg ?_
      refine s_assign (v := .string (⟨#[98, 97, 99, 107]⟩ : ByteArray)) ev_c (w0 rfl) ?_
      refine c_done ?_
      refine n_then ?_
      refine c_ret ?_
      refine ret1 (v := .string (⟨#[98, 97, 99, 107]⟩ : ByteArray)) rfl rfl rfl ?_
      refine ⟨_, rfl, ?_, (Ext.refl w)⟩
      (first | rfl | (simp [wordW, *]; done) | (simp [wordW, *]; omega) | (simp [wordW, *] <;> omega))
end Go.Proofs.Dw
