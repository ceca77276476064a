/- YtjjkfbjidpolmaaDoorDE: part of the proof of this seat, by an AI agent: walks of the functions that the law reaches. No condition of its own but those that its theorems state. -/
import Derived.Test.YtjjkfbjidpolmaaDoorDD
import Derived.Test.YtjjkfbjidpolmaaDoorWkY
set_option linter.unusedVariables false
set_option linter.unusedSimpArgs false
set_option maxRecDepth 10000
namespace Go.Proofs.Dw
open Go Go.Wk Go.Proofs Go.Lib
attribute [local irreducible] Go.wpList Go.wpStill Go.wpQuiet Go.Code.wp Go.Calls
theorem F_e50 : enterable Tryd.prog 50 = true := by kernel_rfl
theorem F_e70 : enterable Tryd.prog 70 = true := by kernel_rfl
theorem F_e84 : enterable Tryd.prog 84 = true := by kernel_rfl
theorem F_e89 : enterable Tryd.prog 89 = true := by kernel_rfl
theorem F_l81 : sliceT Tryd.prog 81 1 = true := by kernel_rfl
theorem F_o5 : one Tryd.prog 5 = true := by kernel_rfl
theorem eqzT28eql (x : Tm) (a b : Operand) (w : World) : (do eqGuard .eql 28 a b (.agg #[.string x.v, .int .i8 x.l.k, .int .i64 x.l.n, .string x.l.s]) (.agg #[.string ⟨#[]⟩, .int .i8 0, .int .i64 0, .string ⟨#[]⟩]); binOp .eql 28 (.agg #[.string x.v, .int .i8 x.l.k, .int .i64 x.l.n, .string x.l.s]) (.agg #[.string ⟨#[]⟩, .int .i8 0, .int .i64 0, .string ⟨#[]⟩]) : Sem Value).run Tryd.prog w = .ok (.bool (zT x)) w := by
  have hu := Tryd.underlying28
  go_simp
  simp only [toList_nil_iff]
  (first | (by_cases h0 : x.v = (⟨#[]⟩ : ByteArray)) | skip) <;> (first | (by_cases h1 : x.k = 0 <;> by_cases h2 : x.n = 0 <;> by_cases h3 : x.s = (⟨#[]⟩ : ByteArray)) | (by_cases h1 : x.l.k = 0 <;> by_cases h2 : x.l.n = 0 <;> by_cases h3 : x.l.s = (⟨#[]⟩ : ByteArray))) <;> simp [zV, zT, *]
set_option maxHeartbeats 4000000 in
theorem v_Check (x : Vl) (w : World) :
    Rt Tryd.prog 70 #[.agg #[.int .i8 x.k, .int .i64 x.n, .string x.s]] w fun v w' => v = .int .i64 (if okV x then 0 else 10 : Int) ∧ Ext w w' := by
  refine enter Tryd.func70 rfl (l := [.agg #[.int .i8 x.k, .int .i64 x.n, .string x.s]]) rfl Tryd.ntmps70 (Nat.le_of_ble_eq_true rfl) ?_
  refine c_seq ?_
  refine c_reg ?_
  refine s_box (v := .agg #[.int .i8 x.k, .int .i64 x.n, .string x.s]) (cs := #[.int .i8 x.k, .int .i64 x.n, .string x.s]) (w0 rfl) (ev_t rfl rfl) rfl ?_
  intro w2 g1 n3
  refine s_assign (v := .int .i64 0) ev_c (w0 rfl) ?_
  refine c_done ?_
  refine n_then ?_
  refine c_seq ?_
  refine c_seq ?_
  refine c_reg ?_
  refine s_field (off := 0) (o' := 0) F_f26_0 (ev_t rfl rfl) rfl (w0 rfl) ?_
  refine s_load (v := .int .i8 x.k) F_o24 (ev_t rfl rfl) (cell_of_blk (i := 0) (NewB.blk n3) rfl) (w0 rfl) ?_
  refine c_done ?_
  refine n_then ?_
  refine c_block ?_
  refine c_seq ?_
  refine c_reg ?_
  refine s_cmp (r := decide (x.k = 1)) (ev_t rfl rfl) ev_c rfl (w0 rfl) ?_
  refine s_assign (v := .bool (decide (x.k = 1))) (ev_t rfl rfl) (w0 rfl) ?_
  refine c_done ?_
  refine n_then ?_
  by_cases h4 : x.k = 1
  · refine c_cond1 (vb (ev_t rfl rfl) (decide_eq_true h4)) ?_
    refine c_seq ?_
    refine c_reg ?_
    refine s_field (off := 2) (o' := 2) F_f26_2 (ev_t rfl rfl) rfl (w0 rfl) ?_
    refine s_load (v := .string x.s) F_o9 (ev_t rfl rfl) (cell_of_blk (i := 2) (NewB.blk n3) rfl) (w0 rfl) ?_
    refine s_cmpS (r := decide (x.s = (⟨#[]⟩ : ByteArray))) (ev_t rfl rfl) ev_c rfl (w0 rfl) ?_
    refine c_done ?_
    refine n_then ?_
    by_cases h5 : x.s = (⟨#[]⟩ : ByteArray)
    · refine c_cond1 (vb (ev_t rfl rfl) (decide_eq_true h5)) ?_
      refine c_seq ?_
      refine c_reg ?_
      refine s_assign (v := .int .i64 0) ev_c (w0 rfl) ?_
      refine c_done ?_
      refine n_then ?_
      refine c_ret ?_
      refine r_block ?_
      refine r_then ?_
      refine ret1 (v := .int .i64 0) rfl rfl rfl ?_
      refine ⟨_, rfl, ?_, (NewB.ext n3)⟩
      (first | rfl | (simp [okV, *]; done) | (simp [okV, *]; omega) | (simp [okV, *] <;> omega))
    · refine c_cond0 (vb (ev_t rfl rfl) (decide_eq_false h5)) ?_
      refine c_skip ?_
      refine n_block ?_
      refine n_then ?_
      refine c_seq ?_
      refine c_reg ?_
      refine s_assign (v := .int .i64 10) ev_c (w0 rfl) ?_
      refine c_done ?_
      refine n_then ?_
      refine c_ret ?_
      refine ret1 (v := .int .i64 10) rfl rfl rfl ?_
      refine ⟨_, rfl, ?_, (NewB.ext n3)⟩
      (first | rfl | (simp [okV, *]; done) | (simp [okV, *]; omega) | (simp [okV, *] <;> omega))
  · refine c_cond0 (vb (ev_t rfl rfl) (decide_eq_false h4)) ?_
    refine c_seq ?_
    refine c_reg ?_
    refine s_cmp (r := decide (x.k = 2)) (ev_t rfl rfl) ev_c rfl (w0 rfl) ?_
    refine s_assign (v := .bool (decide (x.k = 2))) (ev_t rfl rfl) (w0 rfl) ?_
    refine c_done ?_
    refine n_then ?_
    by_cases h6 : x.k = 2
    · refine c_cond1 (vb (ev_t rfl rfl) (decide_eq_true h6)) ?_
      refine c_seq ?_
      refine c_reg ?_
      refine s_field (off := 1) (o' := 1) F_f26_1 (ev_t rfl rfl) rfl (w0 rfl) ?_
      refine s_load (v := .int .i64 x.n) F_o2 (ev_t rfl rfl) (cell_of_blk (i := 1) (NewB.blk n3) rfl) (w0 rfl) ?_
      refine s_cmp (r := decide (x.n = 0)) (ev_t rfl rfl) ev_c rfl (w0 rfl) ?_
      by_cases h7 : x.n = 0
      · refine s_move (v := .bool true) (vb (ev_t rfl rfl) (decide_eq_true h7)) (w0 rfl) ?_
        refine s_field (off := 2) (o' := 2) F_f26_2 (ev_t rfl rfl) rfl (wy rfl rfl rfl rfl) ?_
        refine s_load (v := .string x.s) F_o9 (ev_t rfl rfl) (cell_of_blk (i := 2) (NewB.blk n3) rfl) (wy rfl rfl rfl rfl) ?_
        refine s_lenS F_us9 (ev_t rfl rfl) (wy rfl rfl rfl rfl) ?_
        refine s_cmp (r := decide ((x.s.size : Int) ≤ 200)) (ev_t rfl rfl) ev_c rfl (wy rfl rfl rfl rfl) ?_
        refine s_pick1 (v := .bool (decide ((x.s.size : Int) ≤ 200))) (ev_t rfl rfl) (ev_t rfl rfl) (w0 rfl) ?_
        refine c_done ?_
        refine n_then ?_
        by_cases h8 : (x.s.size : Int) ≤ 200
        · refine c_cond1 (vb (ev_t rfl rfl) (decide_eq_true h8)) ?_
          refine c_seq ?_
          refine c_reg ?_
          refine s_assign (v := .int .i64 0) ev_c (w0 rfl) ?_
          refine c_done ?_
          refine n_then ?_
          refine c_ret ?_
          refine r_block ?_
          refine r_then ?_
          refine ret1 (v := .int .i64 0) rfl rfl rfl ?_
          refine ⟨_, rfl, ?_, (NewB.ext n3)⟩
          (first | rfl | (simp [okV, *]; done) | (simp [okV, *]; omega) | (simp [okV, *] <;> omega))
        · refine c_cond0 (vb (ev_t rfl rfl) (decide_eq_false h8)) ?_
          refine c_skip ?_
          refine n_block ?_
          refine n_then ?_
          refine c_seq ?_
          refine c_reg ?_
          refine s_assign (v := .int .i64 10) ev_c (w0 rfl) ?_
          refine c_done ?_
          refine n_then ?_
          refine c_ret ?_
          refine ret1 (v := .int .i64 10) rfl rfl rfl ?_
          refine ⟨_, rfl, ?_, (NewB.ext n3)⟩
          (first | rfl | (simp [okV, *]; done) | (simp [okV, *]; omega) | (simp [okV, *] <;> omega))
      · refine s_move (v := .bool false) (vb (ev_t rfl rfl) (decide_eq_false h7)) (w0 rfl) ?_
        refine s_skip (wn rfl rfl rfl rfl rfl) ?_
        refine s_skip (wn rfl rfl rfl rfl rfl) ?_
        refine s_skip (wn rfl rfl rfl rfl rfl) ?_
        refine s_skip (wn rfl rfl rfl rfl rfl) ?_
        refine s_pick0 (v := .bool false) (ev_t rfl rfl) ev_c (w0 rfl) ?_
        refine c_done ?_
        refine n_then ?_
        refine c_cond0 (ev_t rfl rfl) ?_
        refine c_skip ?_
        refine n_block ?_
        refine n_then ?_
        refine c_seq ?_
        refine c_reg ?_
        refine s_assign (v := .int .i64 10) ev_c (w0 rfl) ?_
        refine c_done ?_
        refine n_then ?_
        refine c_ret ?_
        refine ret1 (v := .int .i64 10) rfl rfl rfl ?_
        refine ⟨_, rfl, ?_, (NewB.ext n3)⟩
        (first | rfl | (simp [okV, *]; done) | (simp [okV, *]; omega) | (simp [okV, *] <;> omega))
    · refine c_cond0 (vb (ev_t rfl rfl) (decide_eq_false h6)) ?_
      refine c_skip ?_
      refine n_block ?_
      refine n_then ?_
      refine c_seq ?_
      refine c_reg ?_
      refine s_assign (v := .int .i64 10) ev_c (w0 rfl) ?_
      refine c_done ?_
      refine n_then ?_
      refine c_ret ?_
      refine ret1 (v := .int .i64 10) rfl rfl rfl ?_
      refine ⟨_, rfl, ?_, (NewB.ext n3)⟩
      (first | rfl | (simp [okV, *]; done) | (simp [okV, *]; omega) | (simp [okV, *] <;> omega))
set_option maxHeartbeats 4000000 in
theorem t_code (b : Bool) (w : World) :
    Rt Tryd.prog 50 #[.bool b] w fun v w' => v = .int .i64 (code b) ∧ Ext w w' := by
  refine enter Tryd.func50 rfl (l := [.bool b]) rfl Tryd.ntmps50 (Nat.le_of_ble_eq_true rfl) ?_
  refine c_seq ?_
  refine c_reg ?_
  refine s_assign (v := .int .i64 0) ev_c (w0 rfl) ?_
  refine c_done ?_
  refine n_then ?_
  refine c_seq ?_
  refine c_seq ?_
  refine c_reg ?_
  refine s_move (v := .bool b) (ev_t rfl rfl) (w0 rfl) ?_
  refine c_done ?_
  refine n_then ?_
  rcases Bool.eq_false_or_eq_true b with h1 | h1
  · refine c_cond1 (vb (ev_t rfl rfl) h1) ?_
    refine c_seq ?_
    refine c_reg ?_
    refine s_assign (v := .int .i64 0) ev_c (w0 rfl) ?_
    refine c_done ?_
    refine n_then ?_
    refine c_ret ?_
    refine r_then ?_
    refine ret1 (v := .int .i64 0) rfl rfl rfl ?_
    refine ⟨_, rfl, ?_, (Ext.refl w)⟩
    (first | rfl | (simp [code, *]; done) | (simp [code, *]; omega) | (simp [code, *] <;> omega))
  · refine c_cond0 (vb (ev_t rfl rfl) h1) ?_
    refine c_skip ?_
    refine n_then ?_
    refine c_seq ?_
    refine c_reg ?_
    refine s_assign (v := .int .i64 40) ev_c (w0 rfl) ?_
    refine c_done ?_
    refine n_then ?_
    refine c_ret ?_
    refine ret1 (v := .int .i64 40) rfl rfl rfl ?_
    refine ⟨_, rfl, ?_, (Ext.refl w)⟩
    (first | rfl | (simp [code, *]; done) | (simp [code, *]; omega) | (simp [code, *] <;> omega))
set_option maxHeartbeats 4000000 in
theorem t_arity (op : Int) (w : World) :
    Rt Tryd.prog 79 #[.int .i8 op] w fun v w' => v = .int .i64 (kidsN op) ∧ Ext w w' := by
  refine enter Tryd.func79 rfl (l := [.int .i8 op]) rfl Tryd.ntmps79 (Nat.le_of_ble_eq_true rfl) ?_
  refine c_seq ?_
  refine c_reg ?_
  refine s_assign (v := .int .i64 0) ev_c (w0 rfl) ?_
  refine c_done ?_
  refine n_then ?_
  refine c_seq ?_
  refine c_seq ?_
  refine c_reg ?_
  refine s_move (v := .int .i8 op) (ev_t rfl rfl) (w0 rfl) ?_
  refine c_done ?_
  refine n_then ?_
  refine c_block ?_
  refine c_seq ?_
  refine c_seq ?_
  refine c_reg ?_
  refine s_cmp (r := decide (op = 1)) (ev_t rfl rfl) ev_c rfl (w0 rfl) ?_
  refine s_assign (v := .bool (decide (op = 1))) (ev_t rfl rfl) (w0 rfl) ?_
  refine c_done ?_
  refine n_then ?_
  by_cases h1 : op = 1
  · refine c_cond1 (vb (ev_t rfl rfl) (decide_eq_true h1)) ?_
    refine c_skip ?_
    refine n_then ?_
    refine c_cond1 (vb (ev_t rfl rfl) (decide_eq_true h1)) ?_
    refine c_seq ?_
    refine c_reg ?_
    refine s_assign (v := .int .i64 1) ev_c (w0 rfl) ?_
    refine c_done ?_
    refine n_then ?_
    refine c_ret ?_
    refine r_block ?_
    refine r_then ?_
    refine ret1 (v := .int .i64 1) rfl rfl rfl ?_
    refine ⟨_, rfl, ?_, (Ext.refl w)⟩
    (refine congrArg (Value.int .i64) ?_; unfold kidsN; first | rw [if_pos (by omega)] | rw [if_neg (by omega), if_pos (by omega)] | rw [if_neg (by omega), if_neg (by omega)])
  · refine c_cond0 (vb (ev_t rfl rfl) (decide_eq_false h1)) ?_
    refine c_seq ?_
    refine c_reg ?_
    refine s_cmp (r := decide (op = 8)) (ev_t rfl rfl) ev_c rfl (w0 rfl) ?_
    refine s_assign (v := .bool (decide (op = 8))) (ev_t rfl rfl) (w0 rfl) ?_
    refine c_done ?_
    refine n_then ?_
    by_cases h2 : op = 8
    · refine c_cond1 (vb (ev_t rfl rfl) (decide_eq_true h2)) ?_
      refine c_skip ?_
      refine n_then ?_
      refine c_cond1 (vb (ev_t rfl rfl) (decide_eq_true h2)) ?_
      refine c_seq ?_
      refine c_reg ?_
      refine s_assign (v := .int .i64 1) ev_c (w0 rfl) ?_
      refine c_done ?_
      refine n_then ?_
      refine c_ret ?_
      refine r_block ?_
      refine r_then ?_
      refine ret1 (v := .int .i64 1) rfl rfl rfl ?_
      refine ⟨_, rfl, ?_, (Ext.refl w)⟩
      (refine congrArg (Value.int .i64) ?_; unfold kidsN; first | rw [if_pos (by omega)] | rw [if_neg (by omega), if_pos (by omega)] | rw [if_neg (by omega), if_neg (by omega)])
    · refine c_cond0 (vb (ev_t rfl rfl) (decide_eq_false h2)) ?_
      refine c_seq ?_
      refine c_reg ?_
      refine s_cmp (r := decide (op = 9)) (ev_t rfl rfl) ev_c rfl (w0 rfl) ?_
      refine s_assign (v := .bool (decide (op = 9))) (ev_t rfl rfl) (w0 rfl) ?_
      refine c_done ?_
      refine n_then ?_
      by_cases h3 : op = 9
      · refine c_cond1 (vb (ev_t rfl rfl) (decide_eq_true h3)) ?_
        refine c_skip ?_
        refine n_then ?_
        refine c_cond1 (vb (ev_t rfl rfl) (decide_eq_true h3)) ?_
        refine c_seq ?_
        refine c_reg ?_
        refine s_assign (v := .int .i64 1) ev_c (w0 rfl) ?_
        refine c_done ?_
        refine n_then ?_
        refine c_ret ?_
        refine r_block ?_
        refine r_then ?_
        refine ret1 (v := .int .i64 1) rfl rfl rfl ?_
        refine ⟨_, rfl, ?_, (Ext.refl w)⟩
        (refine congrArg (Value.int .i64) ?_; unfold kidsN; first | rw [if_pos (by omega)] | rw [if_neg (by omega), if_pos (by omega)] | rw [if_neg (by omega), if_neg (by omega)])
      · refine c_cond0 (vb (ev_t rfl rfl) (decide_eq_false h3)) ?_
        refine c_reg ?_
        refine s_cmp (r := decide (op = 10)) (ev_t rfl rfl) ev_c rfl (w0 rfl) ?_
        refine s_assign (v := .bool (decide (op = 10))) (ev_t rfl rfl) (w0 rfl) ?_
        refine c_done ?_
        refine n_then ?_
        by_cases h4 : op = 10
        · refine c_cond1 (vb (ev_t rfl rfl) (decide_eq_true h4)) ?_
          refine c_seq ?_
          refine c_reg ?_
          refine s_assign (v := .int .i64 1) ev_c (w0 rfl) ?_
          refine c_done ?_
          refine n_then ?_
          refine c_ret ?_
          refine r_block ?_
          refine r_then ?_
          refine ret1 (v := .int .i64 1) rfl rfl rfl ?_
          refine ⟨_, rfl, ?_, (Ext.refl w)⟩
          (refine congrArg (Value.int .i64) ?_; unfold kidsN; first | rw [if_pos (by omega)] | rw [if_neg (by omega), if_pos (by omega)] | rw [if_neg (by omega), if_neg (by omega)])
        · refine c_cond0 (vb (ev_t rfl rfl) (decide_eq_false h4)) ?_
          refine c_seq ?_
          refine c_seq ?_
          refine c_reg ?_
          refine s_cmp (r := decide (op = 2)) (ev_t rfl rfl) ev_c rfl (w0 rfl) ?_
          refine s_assign (v := .bool (decide (op = 2))) (ev_t rfl rfl) (w0 rfl) ?_
          refine c_done ?_
          refine n_then ?_
          by_cases h5 : op = 2
          · refine c_cond1 (vb (ev_t rfl rfl) (decide_eq_true h5)) ?_
            refine c_skip ?_
            refine n_then ?_
            refine c_cond1 (vb (ev_t rfl rfl) (decide_eq_true h5)) ?_
            refine c_seq ?_
            refine c_reg ?_
            refine s_assign (v := .int .i64 2) ev_c (w0 rfl) ?_
            refine c_done ?_
            refine n_then ?_
            refine c_ret ?_
            refine r_block ?_
            refine r_then ?_
            refine ret1 (v := .int .i64 2) rfl rfl rfl ?_
            refine ⟨_, rfl, ?_, (Ext.refl w)⟩
            (refine congrArg (Value.int .i64) ?_; unfold kidsN; first | rw [if_pos (by omega)] | rw [if_neg (by omega), if_pos (by omega)] | rw [if_neg (by omega), if_neg (by omega)])
          · refine c_cond0 (vb (ev_t rfl rfl) (decide_eq_false h5)) ?_
            refine c_seq ?_
            refine c_reg ?_
            refine s_cmp (r := decide (op = 3)) (ev_t rfl rfl) ev_c rfl (w0 rfl) ?_
            refine s_assign (v := .bool (decide (op = 3))) (ev_t rfl rfl) (w0 rfl) ?_
            refine c_done ?_
            refine n_then ?_
            by_cases h6 : op = 3
            · refine c_cond1 (vb (ev_t rfl rfl) (decide_eq_true h6)) ?_
              refine c_skip ?_
              refine n_then ?_
              refine c_cond1 (vb (ev_t rfl rfl) (decide_eq_true h6)) ?_
              refine c_seq ?_
              refine c_reg ?_
              refine s_assign (v := .int .i64 2) ev_c (w0 rfl) ?_
              refine c_done ?_
              refine n_then ?_
              refine c_ret ?_
              refine r_block ?_
              refine r_then ?_
              refine ret1 (v := .int .i64 2) rfl rfl rfl ?_
              refine ⟨_, rfl, ?_, (Ext.refl w)⟩
              (refine congrArg (Value.int .i64) ?_; unfold kidsN; first | rw [if_pos (by omega)] | rw [if_neg (by omega), if_pos (by omega)] | rw [if_neg (by omega), if_neg (by omega)])
            · refine c_cond0 (vb (ev_t rfl rfl) (decide_eq_false h6)) ?_
              refine c_seq ?_
              refine c_reg ?_
              refine s_cmp (r := decide (op = 4)) (ev_t rfl rfl) ev_c rfl (w0 rfl) ?_
              refine s_assign (v := .bool (decide (op = 4))) (ev_t rfl rfl) (w0 rfl) ?_
              refine c_done ?_
              refine n_then ?_
              by_cases h7 : op = 4
              · refine c_cond1 (vb (ev_t rfl rfl) (decide_eq_true h7)) ?_
                refine c_skip ?_
                refine n_then ?_
                refine c_cond1 (vb (ev_t rfl rfl) (decide_eq_true h7)) ?_
                refine c_seq ?_
                refine c_reg ?_
                refine s_assign (v := .int .i64 2) ev_c (w0 rfl) ?_
                refine c_done ?_
                refine n_then ?_
                refine c_ret ?_
                refine r_block ?_
                refine r_then ?_
                refine ret1 (v := .int .i64 2) rfl rfl rfl ?_
                refine ⟨_, rfl, ?_, (Ext.refl w)⟩
                (refine congrArg (Value.int .i64) ?_; unfold kidsN; first | rw [if_pos (by omega)] | rw [if_neg (by omega), if_pos (by omega)] | rw [if_neg (by omega), if_neg (by omega)])
              · refine c_cond0 (vb (ev_t rfl rfl) (decide_eq_false h7)) ?_
                refine c_seq ?_
                refine c_reg ?_
                refine s_cmp (r := decide (op = 5)) (ev_t rfl rfl) ev_c rfl (w0 rfl) ?_
                refine s_assign (v := .bool (decide (op = 5))) (ev_t rfl rfl) (w0 rfl) ?_
                refine c_done ?_
                refine n_then ?_
                by_cases h8 : op = 5
                · refine c_cond1 (vb (ev_t rfl rfl) (decide_eq_true h8)) ?_
                  refine c_skip ?_
                  refine n_then ?_
                  refine c_cond1 (vb (ev_t rfl rfl) (decide_eq_true h8)) ?_
                  refine c_seq ?_
                  refine c_reg ?_
                  refine s_assign (v := .int .i64 2) ev_c (w0 rfl) ?_
                  refine c_done ?_
                  refine n_then ?_
                  refine c_ret ?_
                  refine r_block ?_
                  refine r_then ?_
                  refine ret1 (v := .int .i64 2) rfl rfl rfl ?_
                  refine ⟨_, rfl, ?_, (Ext.refl w)⟩
                  (refine congrArg (Value.int .i64) ?_; unfold kidsN; first | rw [if_pos (by omega)] | rw [if_neg (by omega), if_pos (by omega)] | rw [if_neg (by omega), if_neg (by omega)])
                · refine c_cond0 (vb (ev_t rfl rfl) (decide_eq_false h8)) ?_
                  refine c_seq ?_
                  refine c_reg ?_
                  refine s_cmp (r := decide (op = 6)) (ev_t rfl rfl) ev_c rfl (w0 rfl) ?_
                  refine s_assign (v := .bool (decide (op = 6))) (ev_t rfl rfl) (w0 rfl) ?_
                  refine c_done ?_
                  refine n_then ?_
                  by_cases h9 : op = 6
                  · refine c_cond1 (vb (ev_t rfl rfl) (decide_eq_true h9)) ?_
                    refine c_skip ?_
                    refine n_then ?_
                    refine c_cond1 (vb (ev_t rfl rfl) (decide_eq_true h9)) ?_
                    refine c_seq ?_
                    refine c_reg ?_
                    refine s_assign (v := .int .i64 2) ev_c (w0 rfl) ?_
                    refine c_done ?_
                    refine n_then ?_
                    refine c_ret ?_
                    refine r_block ?_
                    refine r_then ?_
                    refine ret1 (v := .int .i64 2) rfl rfl rfl ?_
                    refine ⟨_, rfl, ?_, (Ext.refl w)⟩
                    (refine congrArg (Value.int .i64) ?_; unfold kidsN; first | rw [if_pos (by omega)] | rw [if_neg (by omega), if_pos (by omega)] | rw [if_neg (by omega), if_neg (by omega)])
                  · refine c_cond0 (vb (ev_t rfl rfl) (decide_eq_false h9)) ?_
                    refine c_reg ?_
                    refine s_cmp (r := decide (op = 7)) (ev_t rfl rfl) ev_c rfl (w0 rfl) ?_
                    refine s_assign (v := .bool (decide (op = 7))) (ev_t rfl rfl) (w0 rfl) ?_
                    refine c_done ?_
                    refine n_then ?_
                    by_cases h10 : op = 7
                    · refine c_cond1 (vb (ev_t rfl rfl) (decide_eq_true h10)) ?_
                      refine c_seq ?_
                      refine c_reg ?_
                      refine s_assign (v := .int .i64 2) ev_c (w0 rfl) ?_
                      refine c_done ?_
                      refine n_then ?_
                      refine c_ret ?_
                      refine r_block ?_
                      refine r_then ?_
                      refine ret1 (v := .int .i64 2) rfl rfl rfl ?_
                      refine ⟨_, rfl, ?_, (Ext.refl w)⟩
                      (refine congrArg (Value.int .i64) ?_; unfold kidsN; first | rw [if_pos (by omega)] | rw [if_neg (by omega), if_pos (by omega)] | rw [if_neg (by omega), if_neg (by omega)])
                    · refine c_cond0 (vb (ev_t rfl rfl) (decide_eq_false h10)) ?_
                      refine c_skip ?_
                      refine n_block ?_
                      refine n_then ?_
                      refine c_seq ?_
                      refine c_reg ?_
                      refine s_assign (v := .int .i64 (-1)) ev_c (w0 rfl) ?_
                      refine c_done ?_
                      refine n_then ?_
                      refine c_ret ?_
                      refine ret1 (v := .int .i64 (-1)) rfl rfl rfl ?_
                      refine ⟨_, rfl, ?_, (Ext.refl w)⟩
                      (refine congrArg (Value.int .i64) ?_; unfold kidsN; first | rw [if_pos (by omega)] | rw [if_neg (by omega), if_pos (by omega)] | rw [if_neg (by omega), if_neg (by omega)])
set_option maxHeartbeats 4000000 in
theorem t_none (x : Tm) (w : World) :
    Rt Tryd.prog 78 #[.agg #[.string x.v, .int .i8 x.l.k, .int .i64 x.l.n, .string x.l.s]] w fun v w' => v = .bool (zT x) ∧ Ext w w' := by
  refine enter Tryd.func78 rfl (l := [.agg #[.string x.v, .int .i8 x.l.k, .int .i64 x.l.n, .string x.l.s]]) rfl Tryd.ntmps78 (Nat.le_of_ble_eq_true rfl) ?_
  refine c_seq ?_
  refine c_reg ?_
  refine s_box (v := .agg #[.string x.v, .int .i8 x.l.k, .int .i64 x.l.n, .string x.l.s]) (cs := #[.string x.v, .int .i8 x.l.k, .int .i64 x.l.n, .string x.l.s]) (w0 rfl) (ev_t rfl rfl) rfl ?_
  intro w2 g1 n3
  refine s_assign (v := .bool false) ev_c (w0 rfl) ?_
  refine c_done ?_
  refine n_then ?_
  refine c_seq ?_
  refine c_reg ?_
  refine s_loadL (cs := [.string x.v, .int .i8 x.l.k, .int .i64 x.l.n, .string x.l.s]) (ca := #[.string x.v, .int .i8 x.l.k, .int .i64 x.l.n, .string x.l.s]) F_m28 (ev_t rfl rfl) rfl rfl (blk_cells (NewB.blk n3) 0 (cs := [.string x.v, .int .i8 x.l.k, .int .i64 x.l.n, .string x.l.s]) rfl) (w0 rfl) ?_
  refine s_build (v := .agg #[.string (⟨#[]⟩ : ByteArray), .int .i8 0, .int .i64 0, .string (⟨#[]⟩ : ByteArray)]) (vs := []) b0 (bd28) (w0 rfl) ?_
  refine s_cmpG (r := zT x) (ev_t rfl rfl) (ev_t rfl rfl) ((fun w_ => eqzT28eql x _ _ w_)) (w0 rfl) ?_
  refine s_assign (v := .bool (zT x)) (ev_t rfl rfl) (w0 rfl) ?_
  refine c_done ?_
  refine n_then ?_
  refine c_ret ?_
  refine ret1 (v := .bool (zT x)) rfl rfl rfl ?_
  refine ⟨_, rfl, ?_, (NewB.ext n3)⟩
  rfl
set_option maxHeartbeats 4000000 in
theorem t_word (s : ByteArray) (lo hi : Int) (w : World) (hs : s.size ≤ 140737488351232) :
    Rt Tryd.prog 89 #[.string s, .int .u8 lo, .int .u8 hi] w fun v w' => v = .bool (wordB s lo hi) ∧ Ext w w' := by
  refine enter Tryd.func89 rfl (l := [.string s, .int .u8 lo, .int .u8 hi]) rfl Tryd.ntmps89 (Nat.le_of_ble_eq_true rfl) ?_
  refine c_seq ?_
  refine c_reg ?_
  refine s_assign (v := .bool false) ev_c (w0 rfl) ?_
  refine c_done ?_
  refine n_then ?_
  refine c_seq ?_
  refine c_seq ?_
  refine c_reg ?_
  refine s_move (v := .string s) (ev_t rfl rfl) (w0 rfl) ?_
  refine s_lenS F_us9 (ev_t rfl rfl) (w0 rfl) ?_
  refine s_cmp (r := decide ((s.size : Int) = 0)) (ev_t rfl rfl) ev_c rfl (w0 rfl) ?_
  by_cases h1 : (s.size : Int) = 0
  · refine s_move (v := .bool true) (vb (ev_t rfl rfl) (decide_eq_true h1)) (w0 rfl) ?_
    refine s_skip (wn rfl rfl rfl rfl rfl) ?_
    refine s_skip (wn rfl rfl rfl rfl rfl) ?_
    refine s_skip (wn rfl rfl rfl rfl rfl) ?_
    refine s_pick1 (v := .bool true) (ev_t rfl rfl) ev_c (w0 rfl) ?_
    refine s_move (v := .bool true) (ev_t rfl rfl) (w0 rfl) ?_
    refine s_skip (wn rfl rfl rfl rfl rfl) ?_
    refine s_skip (wn rfl rfl rfl rfl rfl) ?_
    refine s_skip (wn rfl rfl rfl rfl rfl) ?_
    refine s_skip (wn rfl rfl rfl rfl rfl) ?_
    refine s_pick1 (v := .bool true) (ev_t rfl rfl) ev_c (w0 rfl) ?_
    refine s_move (v := .bool true) (ev_t rfl rfl) (w0 rfl) ?_
    refine s_skip (wn rfl rfl rfl rfl rfl) ?_
    refine s_skip (wn rfl rfl rfl rfl rfl) ?_
    refine s_skip (wn rfl rfl rfl rfl rfl) ?_
    refine s_skip (wn rfl rfl rfl rfl rfl) ?_
    refine s_pick1 (v := .bool true) (ev_t rfl rfl) ev_c (w0 rfl) ?_
    refine c_done ?_
    refine n_then ?_
    refine c_cond1 (ev_t rfl rfl) ?_
    refine c_seq ?_
    refine c_reg ?_
    refine s_assign (v := .bool false) ev_c (w0 rfl) ?_
    refine c_done ?_
    refine n_then ?_
    refine c_ret ?_
    refine r_then ?_
    refine ret1 (v := .bool false) rfl rfl rfl ?_
    refine ⟨_, rfl, ?_, (Ext.refl w)⟩
    (simp only [wordB]; congr 1; symm; simp only [decide_eq_false_iff_not]; omega)
  · refine s_move (v := .bool false) (vb (ev_t rfl rfl) (decide_eq_false h1)) (w0 rfl) ?_
    refine s_move (v := .string s) (ev_t rfl rfl) (wy rfl rfl rfl rfl) ?_
    refine s_lenS F_us9 (ev_t rfl rfl) (wy rfl rfl rfl rfl) ?_
    refine s_cmp (r := decide (120 < (s.size : Int))) (ev_t rfl rfl) ev_c rfl (wy rfl rfl rfl rfl) ?_
    refine s_pick0 (v := .bool (decide (120 < (s.size : Int)))) (ev_t rfl rfl) (ev_t rfl rfl) (w0 rfl) ?_
    by_cases h2 : 120 < (s.size : Int)
    · refine s_move (v := .bool true) (vb (ev_t rfl rfl) (decide_eq_true h2)) (w0 rfl) ?_
      refine s_skip (wn rfl rfl rfl rfl rfl) ?_
      refine s_skip (wn rfl rfl rfl rfl rfl) ?_
      refine s_skip (wn rfl rfl rfl rfl rfl) ?_
      refine s_skip (wn rfl rfl rfl rfl rfl) ?_
      refine s_pick1 (v := .bool true) (ev_t rfl rfl) ev_c (w0 rfl) ?_
      refine s_move (v := .bool true) (ev_t rfl rfl) (w0 rfl) ?_
      refine s_skip (wn rfl rfl rfl rfl rfl) ?_
      refine s_skip (wn rfl rfl rfl rfl rfl) ?_
      refine s_skip (wn rfl rfl rfl rfl rfl) ?_
      refine s_skip (wn rfl rfl rfl rfl rfl) ?_
      refine s_pick1 (v := .bool true) (ev_t rfl rfl) ev_c (w0 rfl) ?_
      refine c_done ?_
      refine n_then ?_
      refine c_cond1 (ev_t rfl rfl) ?_
      refine c_seq ?_
      refine c_reg ?_
      refine s_assign (v := .bool false) ev_c (w0 rfl) ?_
      refine c_done ?_
      refine n_then ?_
      refine c_ret ?_
      refine r_then ?_
      refine ret1 (v := .bool false) rfl rfl rfl ?_
      refine ⟨_, rfl, ?_, (Ext.refl w)⟩
      (simp only [wordB]; congr 1; symm; simp only [decide_eq_false_iff_not]; omega)
    · refine s_move (v := .bool false) (vb (ev_t rfl rfl) (decide_eq_false h2)) (w0 rfl) ?_
      refine s_move (v := .string s) (ev_t rfl rfl) (wy rfl rfl rfl rfl) ?_
      refine s_byte (j := 0) F_us9 (ev_t rfl rfl) ev_c rfl (by omega) (wy rfl rfl rfl rfl) ?_
      refine s_move (v := .int .u8 lo) (ev_t rfl rfl) (wy rfl rfl rfl rfl) ?_
      refine s_cmp (r := decide ((byteAt s 0 : Int) < lo)) (ev_t rfl rfl) (ev_t rfl rfl) rfl (wy rfl rfl rfl rfl) ?_
      refine s_pick0 (v := .bool (decide ((byteAt s 0 : Int) < lo))) (ev_t rfl rfl) (ev_t rfl rfl) (w0 rfl) ?_
      by_cases h3 : (byteAt s 0 : Int) < lo
      · refine s_move (v := .bool true) (vb (ev_t rfl rfl) (decide_eq_true h3)) (w0 rfl) ?_
        refine s_skip (wn rfl rfl rfl rfl rfl) ?_
        refine s_skip (wn rfl rfl rfl rfl rfl) ?_
        refine s_skip (wn rfl rfl rfl rfl rfl) ?_
        refine s_skip (wn rfl rfl rfl rfl rfl) ?_
        refine s_pick1 (v := .bool true) (ev_t rfl rfl) ev_c (w0 rfl) ?_
        refine c_done ?_
        refine n_then ?_
        refine c_cond1 (ev_t rfl rfl) ?_
        refine c_seq ?_
        refine c_reg ?_
        refine s_assign (v := .bool false) ev_c (w0 rfl) ?_
        refine c_done ?_
        refine n_then ?_
        refine c_ret ?_
        refine r_then ?_
        refine ret1 (v := .bool false) rfl rfl rfl ?_
        refine ⟨_, rfl, ?_, (Ext.refl w)⟩
        (simp only [wordB]; congr 1; symm; simp only [decide_eq_false_iff_not]; omega)
      · refine s_move (v := .bool false) (vb (ev_t rfl rfl) (decide_eq_false h3)) (w0 rfl) ?_
        refine s_move (v := .string s) (ev_t rfl rfl) (wy rfl rfl rfl rfl) ?_
        refine s_byte (j := 0) F_us9 (ev_t rfl rfl) ev_c rfl (by omega) (wy rfl rfl rfl rfl) ?_
        refine s_move (v := .int .u8 hi) (ev_t rfl rfl) (wy rfl rfl rfl rfl) ?_
        refine s_cmp (r := decide (hi < (byteAt s 0 : Int))) (ev_t rfl rfl) (ev_t rfl rfl) rfl (wy rfl rfl rfl rfl) ?_
        refine s_pick0 (v := .bool (decide (hi < (byteAt s 0 : Int)))) (ev_t rfl rfl) (ev_t rfl rfl) (w0 rfl) ?_
        refine c_done ?_
        refine n_then ?_
        by_cases h4 : hi < (byteAt s 0 : Int)
        · refine c_cond1 (vb (ev_t rfl rfl) (decide_eq_true h4)) ?_
          refine c_seq ?_
          refine c_reg ?_
          refine s_assign (v := .bool false) ev_c (w0 rfl) ?_
          refine c_done ?_
          refine n_then ?_
          refine c_ret ?_
          refine r_then ?_
          refine ret1 (v := .bool false) rfl rfl rfl ?_
          refine ⟨_, rfl, ?_, (Ext.refl w)⟩
          (simp only [wordB]; congr 1; symm; simp only [decide_eq_false_iff_not]; omega)
        · refine c_cond0 (vb (ev_t rfl rfl) (decide_eq_false h4)) ?_
          refine c_skip ?_
          refine n_then ?_
          refine c_seq ?_
          refine c_seq ?_
          refine c_reg ?_
          refine s_move (v := .string s) (ev_t rfl rfl) (w0 rfl) ?_
          refine s_sbytes F_us9 F_ul81 F_ui5 (ev_t rfl rfl) (w0 rfl) ?_
          intro w7 g5 c6 sb8 x9
          refine s_lenL F_l81 (ev_t rfl rfl) (w0 rfl) ?_
          refine s_move (v := .int .i64 0) ev_c (w0 rfl) ?_
          refine c_done ?_
          refine n_then ?_
          refine c_block ?_
          refine c_loop (α := Nat) (fun (i : Nat) env_ w_ => Ext w7 w_ ∧ (∀ j, j < i → letterB (byteAt s j) = true) ∧ env_ 30 = .slice (some ⟨g5, 0, none⟩) s.size c6 ∧ env_ 31 = .int .i64 (s.size : Int) ∧ env_ 32 = .int .i64 ((i : Nat) : Int)) (fun i => s.size - i) (0) ⟨Ext.refl _, fun j hj => absurd hj (Nat.not_lt_zero j), rfl, rfl, rfl⟩ ?_
          rintro i env12 w10 ⟨x11, i13, e14, e15, e16⟩
          refine c_seq ?_
          refine c_reg ?_
          refine s_cmp (r := decide (((i : Nat) : Int) < (s.size : Int))) (ev_t rfl e16) (ev_t rfl e15) rfl (w0 rfl) ?_
          refine c_done ?_
          refine n_then ?_
          refine c_seq ?_
          by_cases h17 : ((i : Nat) : Int) < (s.size : Int)
          · refine c_cond1 (vb (ev_t rfl rfl) (decide_eq_true h17)) ?_
            refine c_skip ?_
            refine n_then ?_
            refine c_seq ?_
            refine c_block ?_
            refine c_seq ?_
            refine c_reg ?_
            refine s_indexR (j := i) F_l81 (ev_t rfl e14) rfl (ev_t rfl e16) rfl (by omega) (w0 rfl) ?_
            refine s_load (v := .int .u8 (byteAt s i : Int)) F_o5 (ev_t rfl rfl) ((SB.ext sb8 x11) i (by omega)) (w0 rfl) ?_
            refine s_assign (v := .int .u8 (byteAt s i : Int)) (ev_t rfl rfl) (w0 rfl) ?_
            refine c_done ?_
            refine n_then ?_
            refine c_seq ?_
            refine c_reg ?_
            refine s_move (v := .int .u8 (byteAt s i : Int)) (ev_t rfl rfl) (w0 rfl) ?_
            refine s_cmp (r := decide ((byteAt s i : Int) < 97)) (ev_t rfl rfl) ev_c rfl (w0 rfl) ?_
            by_cases h18 : (byteAt s i : Int) < 97
            · refine s_move (v := .bool true) (vb (ev_t rfl rfl) (decide_eq_true h18)) (w0 rfl) ?_
              refine s_skip (wn rfl rfl rfl rfl rfl) ?_
              refine s_skip (wn rfl rfl rfl rfl rfl) ?_
              refine s_pick1 (v := .bool true) (ev_t rfl rfl) ev_c (w0 rfl) ?_
              refine s_move (v := .bool true) (ev_t rfl rfl) (w0 rfl) ?_
              refine s_move (v := .int .u8 (byteAt s i : Int)) (ev_t rfl rfl) (wy rfl rfl rfl rfl) ?_
              refine s_cmp (r := decide ((byteAt s i : Int) < 65)) (ev_t rfl rfl) ev_c rfl (wy rfl rfl rfl rfl) ?_
              by_cases h19 : (byteAt s i : Int) < 65
              · refine s_move (v := .bool true) (vb (ev_t rfl rfl) (decide_eq_true h19)) (wy rfl rfl rfl rfl) ?_
                refine s_skip (wn rfl rfl rfl rfl rfl) ?_
                refine s_skip (wn rfl rfl rfl rfl rfl) ?_
                refine s_pick1 (v := .bool true) (ev_t rfl rfl) ev_c (wy rfl rfl rfl rfl) ?_
                refine s_pick1 (v := .bool true) (ev_t rfl rfl) (ev_t rfl rfl) (w0 rfl) ?_
                refine s_move (v := .bool true) (ev_t rfl rfl) (w0 rfl) ?_
                refine s_move (v := .int .u8 (byteAt s i : Int)) (ev_t rfl rfl) (wy rfl rfl rfl rfl) ?_
                refine s_cmp (r := decide ((byteAt s i : Int) < 48)) (ev_t rfl rfl) ev_c rfl (wy rfl rfl rfl rfl) ?_
                by_cases h20 : (byteAt s i : Int) < 48
                · refine s_move (v := .bool true) (vb (ev_t rfl rfl) (decide_eq_true h20)) (wy rfl rfl rfl rfl) ?_
                  refine s_skip (wn rfl rfl rfl rfl rfl) ?_
                  refine s_skip (wn rfl rfl rfl rfl rfl) ?_
                  refine s_pick1 (v := .bool true) (ev_t rfl rfl) ev_c (wy rfl rfl rfl rfl) ?_
                  refine s_pick1 (v := .bool true) (ev_t rfl rfl) (ev_t rfl rfl) (w0 rfl) ?_
                  refine s_move (v := .bool true) (ev_t rfl rfl) (w0 rfl) ?_
                  refine s_move (v := .int .u8 (byteAt s i : Int)) (ev_t rfl rfl) (wy rfl rfl rfl rfl) ?_
                  refine s_cmp (r := !decide ((byteAt s i : Int) = 95)) (ev_t rfl rfl) ev_c rfl (wy rfl rfl rfl rfl) ?_
                  refine s_pick1 (v := .bool (!decide ((byteAt s i : Int) = 95))) (ev_t rfl rfl) (ev_t rfl rfl) (w0 rfl) ?_
                  refine c_done ?_
                  refine n_then ?_
                  by_cases h21 : (byteAt s i : Int) = 95
                  · refine c_cond0 (vb (ev_t rfl rfl) (nb0 h21)) ?_
                    refine c_skip ?_
                    refine n_block ?_
                    refine n_then ?_
                    refine c_reg ?_
                    refine s_add (r := ((i + 1 : Nat) : Int)) (ev_t rfl e16) ev_c (by omega) (by omega) (w0 rfl) ?_
                    refine s_move (v := .int .i64 ((i + 1 : Nat) : Int)) (ev_t rfl rfl) (w0 rfl) ?_
                    refine c_done ?_
                    exact ⟨(i + 1), _, rfl, ⟨x11, (step_all0 i13 (by simp [letterB]; omega)), e14, e15, rfl⟩, (show s.size - (i + 1) < s.size - i by omega)⟩
                  · refine c_cond1 (vb (ev_t rfl rfl) (nb1 h21)) ?_
                    refine c_seq ?_
                    refine c_reg ?_
                    refine s_assign (v := .bool false) ev_c (w0 rfl) ?_
                    refine c_done ?_
                    refine n_then ?_
                    refine c_ret ?_
                    refine r_block ?_
                    refine r_then ?_
                    refine r_then ?_
                    refine r_block ?_
                    refine r_then ?_
                    refine ret1 (v := .bool false) rfl rfl rfl ?_
                    refine ⟨_, rfl, ?_, (Ext.trans x9 x11)⟩
                    (refine congrArg Value.bool (Eq.symm (wordB_no i (by omega) (by simp [letterB]; omega))))
                · refine s_move (v := .bool false) (vb (ev_t rfl rfl) (decide_eq_false h20)) (wy rfl rfl rfl rfl) ?_
                  refine s_move (v := .int .u8 (byteAt s i : Int)) (ev_t rfl rfl) (wy rfl rfl rfl rfl) ?_
                  refine s_cmp (r := decide (57 < (byteAt s i : Int))) (ev_t rfl rfl) ev_c rfl (wy rfl rfl rfl rfl) ?_
                  refine s_pick0 (v := .bool (decide (57 < (byteAt s i : Int)))) (ev_t rfl rfl) (ev_t rfl rfl) (wy rfl rfl rfl rfl) ?_
                  refine s_pick1 (v := .bool (decide (57 < (byteAt s i : Int)))) (ev_t rfl rfl) (ev_t rfl rfl) (w0 rfl) ?_
                  by_cases h22 : 57 < (byteAt s i : Int)
                  · refine s_move (v := .bool true) (vb (ev_t rfl rfl) (decide_eq_true h22)) (w0 rfl) ?_
                    refine s_move (v := .int .u8 (byteAt s i : Int)) (ev_t rfl rfl) (wy rfl rfl rfl rfl) ?_
                    refine s_cmp (r := !decide ((byteAt s i : Int) = 95)) (ev_t rfl rfl) ev_c rfl (wy rfl rfl rfl rfl) ?_
                    refine s_pick1 (v := .bool (!decide ((byteAt s i : Int) = 95))) (ev_t rfl rfl) (ev_t rfl rfl) (w0 rfl) ?_
                    refine c_done ?_
                    refine n_then ?_
                    by_cases h23 : (byteAt s i : Int) = 95
                    · refine c_cond0 (vb (ev_t rfl rfl) (nb0 h23)) ?_
                      refine c_skip ?_
                      refine n_block ?_
                      refine n_then ?_
                      refine c_reg ?_
                      refine s_add (r := ((i + 1 : Nat) : Int)) (ev_t rfl e16) ev_c (by omega) (by omega) (w0 rfl) ?_
                      refine s_move (v := .int .i64 ((i + 1 : Nat) : Int)) (ev_t rfl rfl) (w0 rfl) ?_
                      refine c_done ?_
                      exact ⟨(i + 1), _, rfl, ⟨x11, (step_all0 i13 (by simp [letterB]; omega)), e14, e15, rfl⟩, (show s.size - (i + 1) < s.size - i by omega)⟩
                    · refine c_cond1 (vb (ev_t rfl rfl) (nb1 h23)) ?_
                      refine c_seq ?_
                      refine c_reg ?_
                      refine s_assign (v := .bool false) ev_c (w0 rfl) ?_
                      refine c_done ?_
                      refine n_then ?_
                      refine c_ret ?_
                      refine r_block ?_
                      refine r_then ?_
                      refine r_then ?_
                      refine r_block ?_
                      refine r_then ?_
                      refine ret1 (v := .bool false) rfl rfl rfl ?_
                      refine ⟨_, rfl, ?_, (Ext.trans x9 x11)⟩
                      (refine congrArg Value.bool (Eq.symm (wordB_no i (by omega) (by simp [letterB]; omega))))
                  · refine s_move (v := .bool false) (vb (ev_t rfl rfl) (decide_eq_false h22)) (w0 rfl) ?_
                    refine s_skip (wn rfl rfl rfl rfl rfl) ?_
                    refine s_skip (wn rfl rfl rfl rfl rfl) ?_
                    refine s_pick0 (v := .bool false) (ev_t rfl rfl) ev_c (w0 rfl) ?_
                    refine c_done ?_
                    refine n_then ?_
                    refine c_cond0 (ev_t rfl rfl) ?_
                    refine c_skip ?_
                    refine n_block ?_
                    refine n_then ?_
                    refine c_reg ?_
                    refine s_add (r := ((i + 1 : Nat) : Int)) (ev_t rfl e16) ev_c (by omega) (by omega) (w0 rfl) ?_
                    refine s_move (v := .int .i64 ((i + 1 : Nat) : Int)) (ev_t rfl rfl) (w0 rfl) ?_
                    refine c_done ?_
                    exact ⟨(i + 1), _, rfl, ⟨x11, (step_all0 i13 (by simp [letterB]; omega)), e14, e15, rfl⟩, (show s.size - (i + 1) < s.size - i by omega)⟩
              · refine s_move (v := .bool false) (vb (ev_t rfl rfl) (decide_eq_false h19)) (wy rfl rfl rfl rfl) ?_
                refine s_move (v := .int .u8 (byteAt s i : Int)) (ev_t rfl rfl) (wy rfl rfl rfl rfl) ?_
                refine s_cmp (r := decide (90 < (byteAt s i : Int))) (ev_t rfl rfl) ev_c rfl (wy rfl rfl rfl rfl) ?_
                refine s_pick0 (v := .bool (decide (90 < (byteAt s i : Int)))) (ev_t rfl rfl) (ev_t rfl rfl) (wy rfl rfl rfl rfl) ?_
                refine s_pick1 (v := .bool (decide (90 < (byteAt s i : Int)))) (ev_t rfl rfl) (ev_t rfl rfl) (w0 rfl) ?_
                by_cases h24 : 90 < (byteAt s i : Int)
                · refine s_move (v := .bool true) (vb (ev_t rfl rfl) (decide_eq_true h24)) (w0 rfl) ?_
                  refine s_move (v := .int .u8 (byteAt s i : Int)) (ev_t rfl rfl) (wy rfl rfl rfl rfl) ?_
                  refine s_cmp (r := decide ((byteAt s i : Int) < 48)) (ev_t rfl rfl) ev_c rfl (wy rfl rfl rfl rfl) ?_
                  by_cases h25 : (byteAt s i : Int) < 48
                  · refine s_move (v := .bool true) (vb (ev_t rfl rfl) (decide_eq_true h25)) (wy rfl rfl rfl rfl) ?_
                    refine s_skip (wn rfl rfl rfl rfl rfl) ?_
                    refine s_skip (wn rfl rfl rfl rfl rfl) ?_
                    refine s_pick1 (v := .bool true) (ev_t rfl rfl) ev_c (wy rfl rfl rfl rfl) ?_
                    refine s_pick1 (v := .bool true) (ev_t rfl rfl) (ev_t rfl rfl) (w0 rfl) ?_
                    refine s_move (v := .bool true) (ev_t rfl rfl) (w0 rfl) ?_
                    refine s_move (v := .int .u8 (byteAt s i : Int)) (ev_t rfl rfl) (wy rfl rfl rfl rfl) ?_
                    refine s_cmp (r := !decide ((byteAt s i : Int) = 95)) (ev_t rfl rfl) ev_c rfl (wy rfl rfl rfl rfl) ?_
                    refine s_pick1 (v := .bool (!decide ((byteAt s i : Int) = 95))) (ev_t rfl rfl) (ev_t rfl rfl) (w0 rfl) ?_
                    refine c_done ?_
                    refine n_then ?_
                    by_cases h26 : (byteAt s i : Int) = 95
                    · refine c_cond0 (vb (ev_t rfl rfl) (nb0 h26)) ?_
                      refine c_skip ?_
                      refine n_block ?_
                      refine n_then ?_
                      refine c_reg ?_
                      refine s_add (r := ((i + 1 : Nat) : Int)) (ev_t rfl e16) ev_c (by omega) (by omega) (w0 rfl) ?_
                      refine s_move (v := .int .i64 ((i + 1 : Nat) : Int)) (ev_t rfl rfl) (w0 rfl) ?_
                      refine c_done ?_
                      exact ⟨(i + 1), _, rfl, ⟨x11, (step_all0 i13 (by simp [letterB]; omega)), e14, e15, rfl⟩, (show s.size - (i + 1) < s.size - i by omega)⟩
                    · refine c_cond1 (vb (ev_t rfl rfl) (nb1 h26)) ?_
                      refine c_seq ?_
                      refine c_reg ?_
                      refine s_assign (v := .bool false) ev_c (w0 rfl) ?_
                      refine c_done ?_
                      refine n_then ?_
                      refine c_ret ?_
                      refine r_block ?_
                      refine r_then ?_
                      refine r_then ?_
                      refine r_block ?_
                      refine r_then ?_
                      refine ret1 (v := .bool false) rfl rfl rfl ?_
                      refine ⟨_, rfl, ?_, (Ext.trans x9 x11)⟩
                      (refine congrArg Value.bool (Eq.symm (wordB_no i (by omega) (by simp [letterB]; omega))))
                  · refine s_move (v := .bool false) (vb (ev_t rfl rfl) (decide_eq_false h25)) (wy rfl rfl rfl rfl) ?_
                    refine s_move (v := .int .u8 (byteAt s i : Int)) (ev_t rfl rfl) (wy rfl rfl rfl rfl) ?_
                    refine s_cmp (r := decide (57 < (byteAt s i : Int))) (ev_t rfl rfl) ev_c rfl (wy rfl rfl rfl rfl) ?_
                    refine s_pick0 (v := .bool (decide (57 < (byteAt s i : Int)))) (ev_t rfl rfl) (ev_t rfl rfl) (wy rfl rfl rfl rfl) ?_
                    refine s_pick1 (v := .bool (decide (57 < (byteAt s i : Int)))) (ev_t rfl rfl) (ev_t rfl rfl) (w0 rfl) ?_
                    by_cases h27 : 57 < (byteAt s i : Int)
                    · refine s_move (v := .bool true) (vb (ev_t rfl rfl) (decide_eq_true h27)) (w0 rfl) ?_
                      refine s_move (v := .int .u8 (byteAt s i : Int)) (ev_t rfl rfl) (wy rfl rfl rfl rfl) ?_
                      refine s_cmp (r := !decide ((byteAt s i : Int) = 95)) (ev_t rfl rfl) ev_c rfl (wy rfl rfl rfl rfl) ?_
                      refine s_pick1 (v := .bool (!decide ((byteAt s i : Int) = 95))) (ev_t rfl rfl) (ev_t rfl rfl) (w0 rfl) ?_
                      refine c_done ?_
                      refine n_then ?_
                      by_cases h28 : (byteAt s i : Int) = 95
                      · refine c_cond0 (vb (ev_t rfl rfl) (nb0 h28)) ?_
                        refine c_skip ?_
                        refine n_block ?_
                        refine n_then ?_
                        refine c_reg ?_
                        refine s_add (r := ((i + 1 : Nat) : Int)) (ev_t rfl e16) ev_c (by omega) (by omega) (w0 rfl) ?_
                        refine s_move (v := .int .i64 ((i + 1 : Nat) : Int)) (ev_t rfl rfl) (w0 rfl) ?_
                        refine c_done ?_
                        exact ⟨(i + 1), _, rfl, ⟨x11, (step_all0 i13 (by simp [letterB]; omega)), e14, e15, rfl⟩, (show s.size - (i + 1) < s.size - i by omega)⟩
                      · refine c_cond1 (vb (ev_t rfl rfl) (nb1 h28)) ?_
                        refine c_seq ?_
                        refine c_reg ?_
                        refine s_assign (v := .bool false) ev_c (w0 rfl) ?_
                        refine c_done ?_
                        refine n_then ?_
                        refine c_ret ?_
                        refine r_block ?_
                        refine r_then ?_
                        refine r_then ?_
                        refine r_block ?_
                        refine r_then ?_
                        refine ret1 (v := .bool false) rfl rfl rfl ?_
                        refine ⟨_, rfl, ?_, (Ext.trans x9 x11)⟩
                        (refine congrArg Value.bool (Eq.symm (wordB_no i (by omega) (by simp [letterB]; omega))))
                    · refine s_move (v := .bool false) (vb (ev_t rfl rfl) (decide_eq_false h27)) (w0 rfl) ?_
                      refine s_skip (wn rfl rfl rfl rfl rfl) ?_
                      refine s_skip (wn rfl rfl rfl rfl rfl) ?_
                      refine s_pick0 (v := .bool false) (ev_t rfl rfl) ev_c (w0 rfl) ?_
                      refine c_done ?_
                      refine n_then ?_
                      refine c_cond0 (ev_t rfl rfl) ?_
                      refine c_skip ?_
                      refine n_block ?_
                      refine n_then ?_
                      refine c_reg ?_
                      refine s_add (r := ((i + 1 : Nat) : Int)) (ev_t rfl e16) ev_c (by omega) (by omega) (w0 rfl) ?_
                      refine s_move (v := .int .i64 ((i + 1 : Nat) : Int)) (ev_t rfl rfl) (w0 rfl) ?_
                      refine c_done ?_
                      exact ⟨(i + 1), _, rfl, ⟨x11, (step_all0 i13 (by simp [letterB]; omega)), e14, e15, rfl⟩, (show s.size - (i + 1) < s.size - i by omega)⟩
                · refine s_move (v := .bool false) (vb (ev_t rfl rfl) (decide_eq_false h24)) (w0 rfl) ?_
                  refine s_skip (wn rfl rfl rfl rfl rfl) ?_
                  refine s_skip (wn rfl rfl rfl rfl rfl) ?_
                  refine s_skip (wn rfl rfl rfl rfl rfl) ?_
                  refine s_skip (wu rfl rfl rfl rfl) ?_
                  refine s_skip (wu rfl rfl rfl rfl) ?_
                  refine s_skip (wn rfl rfl rfl rfl rfl) ?_
                  refine s_pick0 (v := .bool false) (ev_t rfl rfl) ev_c (w0 rfl) ?_
                  refine s_move (v := .bool false) (ev_t rfl rfl) (w0 rfl) ?_
                  refine s_skip (wn rfl rfl rfl rfl rfl) ?_
                  refine s_skip (wn rfl rfl rfl rfl rfl) ?_
                  refine s_pick0 (v := .bool false) (ev_t rfl rfl) ev_c (w0 rfl) ?_
                  refine c_done ?_
                  refine n_then ?_
                  refine c_cond0 (ev_t rfl rfl) ?_
                  refine c_skip ?_
                  refine n_block ?_
                  refine n_then ?_
                  refine c_reg ?_
                  refine s_add (r := ((i + 1 : Nat) : Int)) (ev_t rfl e16) ev_c (by omega) (by omega) (w0 rfl) ?_
                  refine s_move (v := .int .i64 ((i + 1 : Nat) : Int)) (ev_t rfl rfl) (w0 rfl) ?_
                  refine c_done ?_
                  exact ⟨(i + 1), _, rfl, ⟨x11, (step_all0 i13 (by simp [letterB]; omega)), e14, e15, rfl⟩, (show s.size - (i + 1) < s.size - i by omega)⟩
            · refine s_move (v := .bool false) (vb (ev_t rfl rfl) (decide_eq_false h18)) (w0 rfl) ?_
              refine s_move (v := .int .u8 (byteAt s i : Int)) (ev_t rfl rfl) (wy rfl rfl rfl rfl) ?_
              refine s_cmp (r := decide (122 < (byteAt s i : Int))) (ev_t rfl rfl) ev_c rfl (wy rfl rfl rfl rfl) ?_
              refine s_pick0 (v := .bool (decide (122 < (byteAt s i : Int)))) (ev_t rfl rfl) (ev_t rfl rfl) (w0 rfl) ?_
              by_cases h29 : 122 < (byteAt s i : Int)
              · refine s_move (v := .bool true) (vb (ev_t rfl rfl) (decide_eq_true h29)) (w0 rfl) ?_
                refine s_move (v := .int .u8 (byteAt s i : Int)) (ev_t rfl rfl) (wy rfl rfl rfl rfl) ?_
                refine s_cmp (r := decide ((byteAt s i : Int) < 65)) (ev_t rfl rfl) ev_c rfl (wy rfl rfl rfl rfl) ?_
                by_cases h30 : (byteAt s i : Int) < 65
                · refine s_move (v := .bool true) (vb (ev_t rfl rfl) (decide_eq_true h30)) (wy rfl rfl rfl rfl) ?_
                  refine s_skip (wn rfl rfl rfl rfl rfl) ?_
                  refine s_skip (wn rfl rfl rfl rfl rfl) ?_
                  refine s_pick1 (v := .bool true) (ev_t rfl rfl) ev_c (wy rfl rfl rfl rfl) ?_
                  refine s_pick1 (v := .bool true) (ev_t rfl rfl) (ev_t rfl rfl) (w0 rfl) ?_
                  refine s_move (v := .bool true) (ev_t rfl rfl) (w0 rfl) ?_
                  refine s_move (v := .int .u8 (byteAt s i : Int)) (ev_t rfl rfl) (wy rfl rfl rfl rfl) ?_
                  refine s_cmp (r := decide ((byteAt s i : Int) < 48)) (ev_t rfl rfl) ev_c rfl (wy rfl rfl rfl rfl) ?_
                  by_cases h31 : (byteAt s i : Int) < 48
                  · refine s_move (v := .bool true) (vb (ev_t rfl rfl) (decide_eq_true h31)) (wy rfl rfl rfl rfl) ?_
                    refine s_skip (wn rfl rfl rfl rfl rfl) ?_
                    refine s_skip (wn rfl rfl rfl rfl rfl) ?_
                    refine s_pick1 (v := .bool true) (ev_t rfl rfl) ev_c (wy rfl rfl rfl rfl) ?_
                    refine s_pick1 (v := .bool true) (ev_t rfl rfl) (ev_t rfl rfl) (w0 rfl) ?_
                    refine s_move (v := .bool true) (ev_t rfl rfl) (w0 rfl) ?_
                    refine s_move (v := .int .u8 (byteAt s i : Int)) (ev_t rfl rfl) (wy rfl rfl rfl rfl) ?_
                    refine s_cmp (r := !decide ((byteAt s i : Int) = 95)) (ev_t rfl rfl) ev_c rfl (wy rfl rfl rfl rfl) ?_
                    refine s_pick1 (v := .bool (!decide ((byteAt s i : Int) = 95))) (ev_t rfl rfl) (ev_t rfl rfl) (w0 rfl) ?_
                    refine c_done ?_
                    refine n_then ?_
                    by_cases h32 : (byteAt s i : Int) = 95
                    · refine c_cond0 (vb (ev_t rfl rfl) (nb0 h32)) ?_
                      refine c_skip ?_
                      refine n_block ?_
                      refine n_then ?_
                      refine c_reg ?_
                      refine s_add (r := ((i + 1 : Nat) : Int)) (ev_t rfl e16) ev_c (by omega) (by omega) (w0 rfl) ?_
                      refine s_move (v := .int .i64 ((i + 1 : Nat) : Int)) (ev_t rfl rfl) (w0 rfl) ?_
                      refine c_done ?_
                      exact ⟨(i + 1), _, rfl, ⟨x11, (step_all0 i13 (by simp [letterB]; omega)), e14, e15, rfl⟩, (show s.size - (i + 1) < s.size - i by omega)⟩
                    · refine c_cond1 (vb (ev_t rfl rfl) (nb1 h32)) ?_
                      refine c_seq ?_
                      refine c_reg ?_
                      refine s_assign (v := .bool false) ev_c (w0 rfl) ?_
                      refine c_done ?_
                      refine n_then ?_
                      refine c_ret ?_
                      refine r_block ?_
                      refine r_then ?_
                      refine r_then ?_
                      refine r_block ?_
                      refine r_then ?_
                      refine ret1 (v := .bool false) rfl rfl rfl ?_
                      refine ⟨_, rfl, ?_, (Ext.trans x9 x11)⟩
                      (refine congrArg Value.bool (Eq.symm (wordB_no i (by omega) (by simp [letterB]; omega))))
                  · refine s_move (v := .bool false) (vb (ev_t rfl rfl) (decide_eq_false h31)) (wy rfl rfl rfl rfl) ?_
                    refine s_move (v := .int .u8 (byteAt s i : Int)) (ev_t rfl rfl) (wy rfl rfl rfl rfl) ?_
                    refine s_cmp (r := decide (57 < (byteAt s i : Int))) (ev_t rfl rfl) ev_c rfl (wy rfl rfl rfl rfl) ?_
                    refine s_pick0 (v := .bool (decide (57 < (byteAt s i : Int)))) (ev_t rfl rfl) (ev_t rfl rfl) (wy rfl rfl rfl rfl) ?_
                    refine s_pick1 (v := .bool (decide (57 < (byteAt s i : Int)))) (ev_t rfl rfl) (ev_t rfl rfl) (w0 rfl) ?_
                    by_cases h33 : 57 < (byteAt s i : Int)
                    · refine s_move (v := .bool true) (vb (ev_t rfl rfl) (decide_eq_true h33)) (w0 rfl) ?_
                      refine s_move (v := .int .u8 (byteAt s i : Int)) (ev_t rfl rfl) (wy rfl rfl rfl rfl) ?_
                      refine s_cmp (r := !decide ((byteAt s i : Int) = 95)) (ev_t rfl rfl) ev_c rfl (wy rfl rfl rfl rfl) ?_
                      refine s_pick1 (v := .bool (!decide ((byteAt s i : Int) = 95))) (ev_t rfl rfl) (ev_t rfl rfl) (w0 rfl) ?_
                      refine c_done ?_
                      refine n_then ?_
                      by_cases h34 : (byteAt s i : Int) = 95
                      · refine c_cond0 (vb (ev_t rfl rfl) (nb0 h34)) ?_
                        refine c_skip ?_
                        refine n_block ?_
                        refine n_then ?_
                        refine c_reg ?_
                        refine s_add (r := ((i + 1 : Nat) : Int)) (ev_t rfl e16) ev_c (by omega) (by omega) (w0 rfl) ?_
                        refine s_move (v := .int .i64 ((i + 1 : Nat) : Int)) (ev_t rfl rfl) (w0 rfl) ?_
                        refine c_done ?_
                        exact ⟨(i + 1), _, rfl, ⟨x11, (step_all0 i13 (by simp [letterB]; omega)), e14, e15, rfl⟩, (show s.size - (i + 1) < s.size - i by omega)⟩
                      · refine c_cond1 (vb (ev_t rfl rfl) (nb1 h34)) ?_
                        refine c_seq ?_
                        refine c_reg ?_
                        refine s_assign (v := .bool false) ev_c (w0 rfl) ?_
                        refine c_done ?_
                        refine n_then ?_
                        refine c_ret ?_
                        refine r_block ?_
                        refine r_then ?_
                        refine r_then ?_
                        refine r_block ?_
                        refine r_then ?_
                        refine ret1 (v := .bool false) rfl rfl rfl ?_
                        refine ⟨_, rfl, ?_, (Ext.trans x9 x11)⟩
                        (refine congrArg Value.bool (Eq.symm (wordB_no i (by omega) (by simp [letterB]; omega))))
                    · refine s_move (v := .bool false) (vb (ev_t rfl rfl) (decide_eq_false h33)) (w0 rfl) ?_
                      refine s_skip (wn rfl rfl rfl rfl rfl) ?_
                      refine s_skip (wn rfl rfl rfl rfl rfl) ?_
                      refine s_pick0 (v := .bool false) (ev_t rfl rfl) ev_c (w0 rfl) ?_
                      refine c_done ?_
                      refine n_then ?_
                      refine c_cond0 (ev_t rfl rfl) ?_
                      refine c_skip ?_
                      refine n_block ?_
                      refine n_then ?_
                      refine c_reg ?_
                      refine s_add (r := ((i + 1 : Nat) : Int)) (ev_t rfl e16) ev_c (by omega) (by omega) (w0 rfl) ?_
                      refine s_move (v := .int .i64 ((i + 1 : Nat) : Int)) (ev_t rfl rfl) (w0 rfl) ?_
                      refine c_done ?_
                      exact ⟨(i + 1), _, rfl, ⟨x11, (step_all0 i13 (by simp [letterB]; omega)), e14, e15, rfl⟩, (show s.size - (i + 1) < s.size - i by omega)⟩
                · refine s_move (v := .bool false) (vb (ev_t rfl rfl) (decide_eq_false h30)) (wy rfl rfl rfl rfl) ?_
                  refine s_move (v := .int .u8 (byteAt s i : Int)) (ev_t rfl rfl) (wy rfl rfl rfl rfl) ?_
                  refine s_cmp (r := decide (90 < (byteAt s i : Int))) (ev_t rfl rfl) ev_c rfl (wy rfl rfl rfl rfl) ?_
                  refine s_pick0 (v := .bool (decide (90 < (byteAt s i : Int)))) (ev_t rfl rfl) (ev_t rfl rfl) (wy rfl rfl rfl rfl) ?_
                  refine s_pick1 (v := .bool (decide (90 < (byteAt s i : Int)))) (ev_t rfl rfl) (ev_t rfl rfl) (w0 rfl) ?_
                  by_cases h35 : 90 < (byteAt s i : Int)
                  · refine s_move (v := .bool true) (vb (ev_t rfl rfl) (decide_eq_true h35)) (w0 rfl) ?_
                    refine s_move (v := .int .u8 (byteAt s i : Int)) (ev_t rfl rfl) (wy rfl rfl rfl rfl) ?_
                    refine s_cmp (r := decide ((byteAt s i : Int) < 48)) (ev_t rfl rfl) ev_c rfl (wy rfl rfl rfl rfl) ?_
                    by_cases h36 : (byteAt s i : Int) < 48
                    · refine s_move (v := .bool true) (vb (ev_t rfl rfl) (decide_eq_true h36)) (wy rfl rfl rfl rfl) ?_
                      refine s_skip (wn rfl rfl rfl rfl rfl) ?_
                      refine s_skip (wn rfl rfl rfl rfl rfl) ?_
                      refine s_pick1 (v := .bool true) (ev_t rfl rfl) ev_c (wy rfl rfl rfl rfl) ?_
                      refine s_pick1 (v := .bool true) (ev_t rfl rfl) (ev_t rfl rfl) (w0 rfl) ?_
                      refine s_move (v := .bool true) (ev_t rfl rfl) (w0 rfl) ?_
                      refine s_move (v := .int .u8 (byteAt s i : Int)) (ev_t rfl rfl) (wy rfl rfl rfl rfl) ?_
                      refine s_cmp (r := !decide ((byteAt s i : Int) = 95)) (ev_t rfl rfl) ev_c rfl (wy rfl rfl rfl rfl) ?_
                      refine s_pick1 (v := .bool (!decide ((byteAt s i : Int) = 95))) (ev_t rfl rfl) (ev_t rfl rfl) (w0 rfl) ?_
                      refine c_done ?_
                      refine n_then ?_
                      by_cases h37 : (byteAt s i : Int) = 95
                      · refine c_cond0 (vb (ev_t rfl rfl) (nb0 h37)) ?_
                        refine c_skip ?_
                        refine n_block ?_
                        refine n_then ?_
                        refine c_reg ?_
                        refine s_add (r := ((i + 1 : Nat) : Int)) (ev_t rfl e16) ev_c (by omega) (by omega) (w0 rfl) ?_
                        refine s_move (v := .int .i64 ((i + 1 : Nat) : Int)) (ev_t rfl rfl) (w0 rfl) ?_
                        refine c_done ?_
                        exact ⟨(i + 1), _, rfl, ⟨x11, (step_all0 i13 (by simp [letterB]; omega)), e14, e15, rfl⟩, (show s.size - (i + 1) < s.size - i by omega)⟩
                      · refine c_cond1 (vb (ev_t rfl rfl) (nb1 h37)) ?_
                        refine c_seq ?_
                        refine c_reg ?_
                        refine s_assign (v := .bool false) ev_c (w0 rfl) ?_
                        refine c_done ?_
                        refine n_then ?_
                        refine c_ret ?_
                        refine r_block ?_
                        refine r_then ?_
                        refine r_then ?_
                        refine r_block ?_
                        refine r_then ?_
                        refine ret1 (v := .bool false) rfl rfl rfl ?_
                        refine ⟨_, rfl, ?_, (Ext.trans x9 x11)⟩
                        (refine congrArg Value.bool (Eq.symm (wordB_no i (by omega) (by simp [letterB]; omega))))
                    · refine s_move (v := .bool false) (vb (ev_t rfl rfl) (decide_eq_false h36)) (wy rfl rfl rfl rfl) ?_
                      refine s_move (v := .int .u8 (byteAt s i : Int)) (ev_t rfl rfl) (wy rfl rfl rfl rfl) ?_
                      refine s_cmp (r := decide (57 < (byteAt s i : Int))) (ev_t rfl rfl) ev_c rfl (wy rfl rfl rfl rfl) ?_
                      refine s_pick0 (v := .bool (decide (57 < (byteAt s i : Int)))) (ev_t rfl rfl) (ev_t rfl rfl) (wy rfl rfl rfl rfl) ?_
                      refine s_pick1 (v := .bool (decide (57 < (byteAt s i : Int)))) (ev_t rfl rfl) (ev_t rfl rfl) (w0 rfl) ?_
                      by_cases h38 : 57 < (byteAt s i : Int)
                      · refine s_move (v := .bool true) (vb (ev_t rfl rfl) (decide_eq_true h38)) (w0 rfl) ?_
                        refine s_move (v := .int .u8 (byteAt s i : Int)) (ev_t rfl rfl) (wy rfl rfl rfl rfl) ?_
                        refine s_cmp (r := !decide ((byteAt s i : Int) = 95)) (ev_t rfl rfl) ev_c rfl (wy rfl rfl rfl rfl) ?_
                        refine s_pick1 (v := .bool (!decide ((byteAt s i : Int) = 95))) (ev_t rfl rfl) (ev_t rfl rfl) (w0 rfl) ?_
                        refine c_done ?_
                        refine n_then ?_
                        by_cases h39 : (byteAt s i : Int) = 95
                        · refine c_cond0 (vb (ev_t rfl rfl) (nb0 h39)) ?_
                          refine c_skip ?_
                          refine n_block ?_
                          refine n_then ?_
                          refine c_reg ?_
                          refine s_add (r := ((i + 1 : Nat) : Int)) (ev_t rfl e16) ev_c (by omega) (by omega) (w0 rfl) ?_
                          refine s_move (v := .int .i64 ((i + 1 : Nat) : Int)) (ev_t rfl rfl) (w0 rfl) ?_
                          refine c_done ?_
                          exact ⟨(i + 1), _, rfl, ⟨x11, (step_all0 i13 (by simp [letterB]; omega)), e14, e15, rfl⟩, (show s.size - (i + 1) < s.size - i by omega)⟩
                        · refine c_cond1 (vb (ev_t rfl rfl) (nb1 h39)) ?_
                          refine c_seq ?_
                          refine c_reg ?_
                          refine s_assign (v := .bool false) ev_c (w0 rfl) ?_
                          refine c_done ?_
                          refine n_then ?_
                          refine c_ret ?_
                          refine r_block ?_
                          refine r_then ?_
                          refine r_then ?_
                          refine r_block ?_
                          refine r_then ?_
                          refine ret1 (v := .bool false) rfl rfl rfl ?_
                          refine ⟨_, rfl, ?_, (Ext.trans x9 x11)⟩
                          (refine congrArg Value.bool (Eq.symm (wordB_no i (by omega) (by simp [letterB]; omega))))
                      · refine s_move (v := .bool false) (vb (ev_t rfl rfl) (decide_eq_false h38)) (w0 rfl) ?_
                        refine s_skip (wn rfl rfl rfl rfl rfl) ?_
                        refine s_skip (wn rfl rfl rfl rfl rfl) ?_
                        refine s_pick0 (v := .bool false) (ev_t rfl rfl) ev_c (w0 rfl) ?_
                        refine c_done ?_
                        refine n_then ?_
                        refine c_cond0 (ev_t rfl rfl) ?_
                        refine c_skip ?_
                        refine n_block ?_
                        refine n_then ?_
                        refine c_reg ?_
                        refine s_add (r := ((i + 1 : Nat) : Int)) (ev_t rfl e16) ev_c (by omega) (by omega) (w0 rfl) ?_
                        refine s_move (v := .int .i64 ((i + 1 : Nat) : Int)) (ev_t rfl rfl) (w0 rfl) ?_
                        refine c_done ?_
                        exact ⟨(i + 1), _, rfl, ⟨x11, (step_all0 i13 (by simp [letterB]; omega)), e14, e15, rfl⟩, (show s.size - (i + 1) < s.size - i by omega)⟩
                  · refine s_move (v := .bool false) (vb (ev_t rfl rfl) (decide_eq_false h35)) (w0 rfl) ?_
                    refine s_skip (wn rfl rfl rfl rfl rfl) ?_
                    refine s_skip (wn rfl rfl rfl rfl rfl) ?_
                    refine s_skip (wn rfl rfl rfl rfl rfl) ?_
                    refine s_skip (wu rfl rfl rfl rfl) ?_
                    refine s_skip (wu rfl rfl rfl rfl) ?_
                    refine s_skip (wn rfl rfl rfl rfl rfl) ?_
                    refine s_pick0 (v := .bool false) (ev_t rfl rfl) ev_c (w0 rfl) ?_
                    refine s_move (v := .bool false) (ev_t rfl rfl) (w0 rfl) ?_
                    refine s_skip (wn rfl rfl rfl rfl rfl) ?_
                    refine s_skip (wn rfl rfl rfl rfl rfl) ?_
                    refine s_pick0 (v := .bool false) (ev_t rfl rfl) ev_c (w0 rfl) ?_
                    refine c_done ?_
                    refine n_then ?_
                    refine c_cond0 (ev_t rfl rfl) ?_
                    refine c_skip ?_
                    refine n_block ?_
                    refine n_then ?_
                    refine c_reg ?_
                    refine s_add (r := ((i + 1 : Nat) : Int)) (ev_t rfl e16) ev_c (by omega) (by omega) (w0 rfl) ?_
                    refine s_move (v := .int .i64 ((i + 1 : Nat) : Int)) (ev_t rfl rfl) (w0 rfl) ?_
                    refine c_done ?_
                    exact ⟨(i + 1), _, rfl, ⟨x11, (step_all0 i13 (by simp [letterB]; omega)), e14, e15, rfl⟩, (show s.size - (i + 1) < s.size - i by omega)⟩
              · refine s_move (v := .bool false) (vb (ev_t rfl rfl) (decide_eq_false h29)) (w0 rfl) ?_
                refine s_skip (wn rfl rfl rfl rfl rfl) ?_
                refine s_skip (wn rfl rfl rfl rfl rfl) ?_
                refine s_skip (wn rfl rfl rfl rfl rfl) ?_
                refine s_skip (wu rfl rfl rfl rfl) ?_
                refine s_skip (wu rfl rfl rfl rfl) ?_
                refine s_skip (wn rfl rfl rfl rfl rfl) ?_
                refine s_pick0 (v := .bool false) (ev_t rfl rfl) ev_c (w0 rfl) ?_
                refine s_move (v := .bool false) (ev_t rfl rfl) (w0 rfl) ?_
                refine s_skip (wn rfl rfl rfl rfl rfl) ?_
                refine s_skip (wn rfl rfl rfl rfl rfl) ?_
                refine s_skip (wn rfl rfl rfl rfl rfl) ?_
                refine s_skip (wu rfl rfl rfl rfl) ?_
                refine s_skip (wu rfl rfl rfl rfl) ?_
                refine s_skip (wn rfl rfl rfl rfl rfl) ?_
                refine s_pick0 (v := .bool false) (ev_t rfl rfl) ev_c (w0 rfl) ?_
                refine s_move (v := .bool false) (ev_t rfl rfl) (w0 rfl) ?_
                refine s_skip (wn rfl rfl rfl rfl rfl) ?_
                refine s_skip (wn rfl rfl rfl rfl rfl) ?_
                refine s_pick0 (v := .bool false) (ev_t rfl rfl) ev_c (w0 rfl) ?_
                refine c_done ?_
                refine n_then ?_
                refine c_cond0 (ev_t rfl rfl) ?_
                refine c_skip ?_
                refine n_block ?_
                refine n_then ?_
                refine c_reg ?_
                refine s_add (r := ((i + 1 : Nat) : Int)) (ev_t rfl e16) ev_c (by omega) (by omega) (w0 rfl) ?_
                refine s_move (v := .int .i64 ((i + 1 : Nat) : Int)) (ev_t rfl rfl) (w0 rfl) ?_
                refine c_done ?_
                exact ⟨(i + 1), _, rfl, ⟨x11, (step_all0 i13 (by simp [letterB]; omega)), e14, e15, rfl⟩, (show s.size - (i + 1) < s.size - i by omega)⟩
          · refine c_cond0 (vb (ev_t rfl rfl) (decide_eq_false h17)) ?_
            refine c_exit ?_
            refine e_then ?_
            refine e_then ?_
            refine e_hit ?_
            refine n_then ?_
            refine c_seq ?_
            refine c_reg ?_
            refine s_assign (v := .bool true) ev_c (w0 rfl) ?_
            refine c_done ?_
            refine n_then ?_
            refine c_ret ?_
            refine ret1 (v := .bool true) rfl rfl rfl ?_
            refine ⟨_, rfl, ?_, (Ext.trans x9 x11)⟩
            (refine congrArg Value.bool (Eq.symm (wordB_yes0 (by omega) (by omega) (by omega) (by omega) (by assumption) i13)))
set_option maxHeartbeats 4000000 in
theorem v_name (s : ByteArray) (w : World) (hs : s.size ≤ 140737488351232) :
    Rt Tryd.prog 99 #[.string s] w fun v w' => v = .bool (nameB s) ∧ Ext w w' := by
  refine enter Tryd.func99 rfl (l := [.string s]) rfl Tryd.ntmps99 (Nat.le_of_ble_eq_true rfl) ?_
  refine c_seq ?_
  refine c_reg ?_
  refine s_assign (v := .bool false) ev_c (w0 rfl) ?_
  refine c_done ?_
  refine n_then ?_
  refine c_seq ?_
  refine c_seq ?_
  refine c_reg ?_
  refine s_move (v := .string s) (ev_t rfl rfl) (w0 rfl) ?_
  refine s_lenS F_us9 (ev_t rfl rfl) (w0 rfl) ?_
  refine s_cmp (r := decide ((s.size : Int) = 0)) (ev_t rfl rfl) ev_c rfl (w0 rfl) ?_
  by_cases h1 : (s.size : Int) = 0
  · refine s_move (v := .bool true) (vb (ev_t rfl rfl) (decide_eq_true h1)) (w0 rfl) ?_
    refine s_skip (wn rfl rfl rfl rfl rfl) ?_
    refine s_skip (wn rfl rfl rfl rfl rfl) ?_
    refine s_skip (wn rfl rfl rfl rfl rfl) ?_
    refine s_pick1 (v := .bool true) (ev_t rfl rfl) ev_c (w0 rfl) ?_
    refine s_move (v := .bool true) (ev_t rfl rfl) (w0 rfl) ?_
    refine s_skip (wn rfl rfl rfl rfl rfl) ?_
    refine s_skip (wn rfl rfl rfl rfl rfl) ?_
    refine s_skip (wn rfl rfl rfl rfl rfl) ?_
    refine s_pick1 (v := .bool true) (ev_t rfl rfl) ev_c (w0 rfl) ?_
    refine s_move (v := .bool true) (ev_t rfl rfl) (w0 rfl) ?_
    refine s_skip (wn rfl rfl rfl rfl rfl) ?_
    refine s_skip (wn rfl rfl rfl rfl rfl) ?_
    refine s_skip (wn rfl rfl rfl rfl rfl) ?_
    refine s_pick1 (v := .bool true) (ev_t rfl rfl) ev_c (w0 rfl) ?_
    refine c_done ?_
    refine n_then ?_
    refine c_cond1 (ev_t rfl rfl) ?_
    refine c_seq ?_
    refine c_reg ?_
    refine s_assign (v := .bool false) ev_c (w0 rfl) ?_
    refine c_done ?_
    refine n_then ?_
    refine c_ret ?_
    refine r_then ?_
    refine ret1 (v := .bool false) rfl rfl rfl ?_
    refine ⟨_, rfl, ?_, (Ext.refl w)⟩
    (refine congrArg Value.bool (Eq.symm ?_); simp only [nameB, wordB, Bool.and_eq_false_iff, decide_eq_false_iff_not]; left; omega)
  · refine s_move (v := .bool false) (vb (ev_t rfl rfl) (decide_eq_false h1)) (w0 rfl) ?_
    refine s_move (v := .string s) (ev_t rfl rfl) (wy rfl rfl rfl rfl) ?_
    refine s_lenS F_us9 (ev_t rfl rfl) (wy rfl rfl rfl rfl) ?_
    refine s_cmp (r := decide (120 < (s.size : Int))) (ev_t rfl rfl) ev_c rfl (wy rfl rfl rfl rfl) ?_
    refine s_pick0 (v := .bool (decide (120 < (s.size : Int)))) (ev_t rfl rfl) (ev_t rfl rfl) (w0 rfl) ?_
    by_cases h2 : 120 < (s.size : Int)
    · refine s_move (v := .bool true) (vb (ev_t rfl rfl) (decide_eq_true h2)) (w0 rfl) ?_
      refine s_skip (wn rfl rfl rfl rfl rfl) ?_
      refine s_skip (wn rfl rfl rfl rfl rfl) ?_
      refine s_skip (wn rfl rfl rfl rfl rfl) ?_
      refine s_pick1 (v := .bool true) (ev_t rfl rfl) ev_c (w0 rfl) ?_
      refine s_move (v := .bool true) (ev_t rfl rfl) (w0 rfl) ?_
      refine s_skip (wn rfl rfl rfl rfl rfl) ?_
      refine s_skip (wn rfl rfl rfl rfl rfl) ?_
      refine s_skip (wn rfl rfl rfl rfl rfl) ?_
      refine s_pick1 (v := .bool true) (ev_t rfl rfl) ev_c (w0 rfl) ?_
      refine c_done ?_
      refine n_then ?_
      refine c_cond1 (ev_t rfl rfl) ?_
      refine c_seq ?_
      refine c_reg ?_
      refine s_assign (v := .bool false) ev_c (w0 rfl) ?_
      refine c_done ?_
      refine n_then ?_
      refine c_ret ?_
      refine r_then ?_
      refine ret1 (v := .bool false) rfl rfl rfl ?_
      refine ⟨_, rfl, ?_, (Ext.refl w)⟩
      (refine congrArg Value.bool (Eq.symm ?_); simp only [nameB, wordB, Bool.and_eq_false_iff, decide_eq_false_iff_not]; left; omega)
    · refine s_move (v := .bool false) (vb (ev_t rfl rfl) (decide_eq_false h2)) (w0 rfl) ?_
      refine s_move (v := .string s) (ev_t rfl rfl) (wy rfl rfl rfl rfl) ?_
      refine s_byte (j := 0) F_us9 (ev_t rfl rfl) ev_c rfl (by omega) (wy rfl rfl rfl rfl) ?_
      refine s_cmp (r := decide ((byteAt s 0 : Int) < 97)) (ev_t rfl rfl) ev_c rfl (wy rfl rfl rfl rfl) ?_
      refine s_pick0 (v := .bool (decide ((byteAt s 0 : Int) < 97))) (ev_t rfl rfl) (ev_t rfl rfl) (w0 rfl) ?_
      by_cases h3 : (byteAt s 0 : Int) < 97
      · refine s_move (v := .bool true) (vb (ev_t rfl rfl) (decide_eq_true h3)) (w0 rfl) ?_
        refine s_skip (wn rfl rfl rfl rfl rfl) ?_
        refine s_skip (wn rfl rfl rfl rfl rfl) ?_
        refine s_skip (wn rfl rfl rfl rfl rfl) ?_
        refine s_pick1 (v := .bool true) (ev_t rfl rfl) ev_c (w0 rfl) ?_
        refine c_done ?_
        refine n_then ?_
        refine c_cond1 (ev_t rfl rfl) ?_
        refine c_seq ?_
        refine c_reg ?_
        refine s_assign (v := .bool false) ev_c (w0 rfl) ?_
        refine c_done ?_
        refine n_then ?_
        refine c_ret ?_
        refine r_then ?_
        refine ret1 (v := .bool false) rfl rfl rfl ?_
        refine ⟨_, rfl, ?_, (Ext.refl w)⟩
        (refine congrArg Value.bool (Eq.symm ?_); simp only [nameB, wordB, Bool.and_eq_false_iff, decide_eq_false_iff_not]; left; omega)
      · refine s_move (v := .bool false) (vb (ev_t rfl rfl) (decide_eq_false h3)) (w0 rfl) ?_
        refine s_move (v := .string s) (ev_t rfl rfl) (wy rfl rfl rfl rfl) ?_
        refine s_byte (j := 0) F_us9 (ev_t rfl rfl) ev_c rfl (by omega) (wy rfl rfl rfl rfl) ?_
        refine s_cmp (r := decide (122 < (byteAt s 0 : Int))) (ev_t rfl rfl) ev_c rfl (wy rfl rfl rfl rfl) ?_
        refine s_pick0 (v := .bool (decide (122 < (byteAt s 0 : Int)))) (ev_t rfl rfl) (ev_t rfl rfl) (w0 rfl) ?_
        refine c_done ?_
        refine n_then ?_
        by_cases h4 : 122 < (byteAt s 0 : Int)
        · refine c_cond1 (vb (ev_t rfl rfl) (decide_eq_true h4)) ?_
          refine c_seq ?_
          refine c_reg ?_
          refine s_assign (v := .bool false) ev_c (w0 rfl) ?_
          refine c_done ?_
          refine n_then ?_
          refine c_ret ?_
          refine r_then ?_
          refine ret1 (v := .bool false) rfl rfl rfl ?_
          refine ⟨_, rfl, ?_, (Ext.refl w)⟩
          (refine congrArg Value.bool (Eq.symm ?_); simp only [nameB, wordB, Bool.and_eq_false_iff, decide_eq_false_iff_not]; left; omega)
        · refine c_cond0 (vb (ev_t rfl rfl) (decide_eq_false h4)) ?_
          refine c_skip ?_
          refine n_then ?_
          refine c_seq ?_
          refine c_seq ?_
          refine c_reg ?_
          refine s_move (v := .string s) (ev_t rfl rfl) (w0 rfl) ?_
          refine s_sbytes F_us9 F_ul81 F_ui5 (ev_t rfl rfl) (w0 rfl) ?_
          intro w7 g5 c6 sb8 x9
          refine s_lenL F_l81 (ev_t rfl rfl) (w0 rfl) ?_
          refine s_move (v := .int .i64 0) ev_c (w0 rfl) ?_
          refine c_done ?_
          refine n_then ?_
          refine c_block ?_
          refine c_loop (α := Nat) (fun (i : Nat) env_ w_ => Ext w7 w_ ∧ (∀ j, j < i → letterB (byteAt s j) = true) ∧ env_ 0 = .string s ∧ env_ 24 = .slice (some ⟨g5, 0, none⟩) s.size c6 ∧ env_ 25 = .int .i64 (s.size : Int) ∧ env_ 26 = .int .i64 ((i : Nat) : Int)) (fun i => s.size - i) (0) ⟨Ext.refl _, fun j hj => absurd hj (Nat.not_lt_zero j), rfl, rfl, rfl, rfl⟩ ?_
          rintro i env12 w10 ⟨x11, i13, e14, e15, e16, e17⟩
          refine c_seq ?_
          refine c_reg ?_
          refine s_cmp (r := decide (((i : Nat) : Int) < (s.size : Int))) (ev_t rfl e17) (ev_t rfl e16) rfl (w0 rfl) ?_
          refine c_done ?_
          refine n_then ?_
          refine c_seq ?_
          by_cases h18 : ((i : Nat) : Int) < (s.size : Int)
          · refine c_cond1 (vb (ev_t rfl rfl) (decide_eq_true h18)) ?_
            refine c_skip ?_
            refine n_then ?_
            refine c_seq ?_
            refine c_block ?_
            refine c_seq ?_
            refine c_reg ?_
            refine s_indexR (j := i) F_l81 (ev_t rfl e15) rfl (ev_t rfl e17) rfl (by omega) (w0 rfl) ?_
            refine s_load (v := .int .u8 (byteAt s i : Int)) F_o5 (ev_t rfl rfl) ((SB.ext sb8 x11) i (by omega)) (w0 rfl) ?_
            refine s_assign (v := .int .u8 (byteAt s i : Int)) (ev_t rfl rfl) (w0 rfl) ?_
            refine c_done ?_
            refine n_then ?_
            refine c_seq ?_
            refine c_reg ?_
            refine s_move (v := .int .u8 (byteAt s i : Int)) (ev_t rfl rfl) (w0 rfl) ?_
            refine s_cmp (r := decide ((byteAt s i : Int) < 97)) (ev_t rfl rfl) ev_c rfl (w0 rfl) ?_
            by_cases h19 : (byteAt s i : Int) < 97
            · refine s_move (v := .bool true) (vb (ev_t rfl rfl) (decide_eq_true h19)) (w0 rfl) ?_
              refine s_skip (wn rfl rfl rfl rfl rfl) ?_
              refine s_skip (wn rfl rfl rfl rfl rfl) ?_
              refine s_pick1 (v := .bool true) (ev_t rfl rfl) ev_c (w0 rfl) ?_
              refine s_move (v := .bool true) (ev_t rfl rfl) (w0 rfl) ?_
              refine s_move (v := .int .u8 (byteAt s i : Int)) (ev_t rfl rfl) (wy rfl rfl rfl rfl) ?_
              refine s_cmp (r := decide ((byteAt s i : Int) < 65)) (ev_t rfl rfl) ev_c rfl (wy rfl rfl rfl rfl) ?_
              by_cases h20 : (byteAt s i : Int) < 65
              · refine s_move (v := .bool true) (vb (ev_t rfl rfl) (decide_eq_true h20)) (wy rfl rfl rfl rfl) ?_
                refine s_skip (wn rfl rfl rfl rfl rfl) ?_
                refine s_skip (wn rfl rfl rfl rfl rfl) ?_
                refine s_pick1 (v := .bool true) (ev_t rfl rfl) ev_c (wy rfl rfl rfl rfl) ?_
                refine s_pick1 (v := .bool true) (ev_t rfl rfl) (ev_t rfl rfl) (w0 rfl) ?_
                refine s_move (v := .bool true) (ev_t rfl rfl) (w0 rfl) ?_
                refine s_move (v := .int .u8 (byteAt s i : Int)) (ev_t rfl rfl) (wy rfl rfl rfl rfl) ?_
                refine s_cmp (r := decide ((byteAt s i : Int) < 48)) (ev_t rfl rfl) ev_c rfl (wy rfl rfl rfl rfl) ?_
                by_cases h21 : (byteAt s i : Int) < 48
                · refine s_move (v := .bool true) (vb (ev_t rfl rfl) (decide_eq_true h21)) (wy rfl rfl rfl rfl) ?_
                  refine s_skip (wn rfl rfl rfl rfl rfl) ?_
                  refine s_skip (wn rfl rfl rfl rfl rfl) ?_
                  refine s_pick1 (v := .bool true) (ev_t rfl rfl) ev_c (wy rfl rfl rfl rfl) ?_
                  refine s_pick1 (v := .bool true) (ev_t rfl rfl) (ev_t rfl rfl) (w0 rfl) ?_
                  refine s_move (v := .bool true) (ev_t rfl rfl) (w0 rfl) ?_
                  refine s_move (v := .int .u8 (byteAt s i : Int)) (ev_t rfl rfl) (wy rfl rfl rfl rfl) ?_
                  refine s_cmp (r := !decide ((byteAt s i : Int) = 95)) (ev_t rfl rfl) ev_c rfl (wy rfl rfl rfl rfl) ?_
                  refine s_pick1 (v := .bool (!decide ((byteAt s i : Int) = 95))) (ev_t rfl rfl) (ev_t rfl rfl) (w0 rfl) ?_
                  refine c_done ?_
                  refine n_then ?_
                  by_cases h22 : (byteAt s i : Int) = 95
                  · refine c_cond0 (vb (ev_t rfl rfl) (nb0 h22)) ?_
                    refine c_skip ?_
                    refine n_block ?_
                    refine n_then ?_
                    refine c_reg ?_
                    refine s_add (r := ((i + 1 : Nat) : Int)) (ev_t rfl e17) ev_c (by omega) (by omega) (w0 rfl) ?_
                    refine s_move (v := .int .i64 ((i + 1 : Nat) : Int)) (ev_t rfl rfl) (w0 rfl) ?_
                    refine c_done ?_
                    exact ⟨(i + 1), _, rfl, ⟨x11, (step_all0 i13 (by simp [letterB]; omega)), e14, e15, e16, rfl⟩, (show s.size - (i + 1) < s.size - i by omega)⟩
                  · refine c_cond1 (vb (ev_t rfl rfl) (nb1 h22)) ?_
                    refine c_seq ?_
                    refine c_reg ?_
                    refine s_assign (v := .bool false) ev_c (w0 rfl) ?_
                    refine c_done ?_
                    refine n_then ?_
                    refine c_ret ?_
                    refine r_block ?_
                    refine r_then ?_
                    refine r_then ?_
                    refine r_block ?_
                    refine r_then ?_
                    refine ret1 (v := .bool false) rfl rfl rfl ?_
                    refine ⟨_, rfl, ?_, (Ext.trans x9 x11)⟩
                    (refine congrArg Value.bool (Eq.symm ?_); first | (simp [nameB, kwB, *]; done) | (simp only [nameB]; rw [wordB_no i (by omega) (by simp [letterB]; omega)]; rfl))
                · refine s_move (v := .bool false) (vb (ev_t rfl rfl) (decide_eq_false h21)) (wy rfl rfl rfl rfl) ?_
                  refine s_move (v := .int .u8 (byteAt s i : Int)) (ev_t rfl rfl) (wy rfl rfl rfl rfl) ?_
                  refine s_cmp (r := decide (57 < (byteAt s i : Int))) (ev_t rfl rfl) ev_c rfl (wy rfl rfl rfl rfl) ?_
                  refine s_pick0 (v := .bool (decide (57 < (byteAt s i : Int)))) (ev_t rfl rfl) (ev_t rfl rfl) (wy rfl rfl rfl rfl) ?_
                  refine s_pick1 (v := .bool (decide (57 < (byteAt s i : Int)))) (ev_t rfl rfl) (ev_t rfl rfl) (w0 rfl) ?_
                  by_cases h23 : 57 < (byteAt s i : Int)
                  · refine s_move (v := .bool true) (vb (ev_t rfl rfl) (decide_eq_true h23)) (w0 rfl) ?_
                    refine s_move (v := .int .u8 (byteAt s i : Int)) (ev_t rfl rfl) (wy rfl rfl rfl rfl) ?_
                    refine s_cmp (r := !decide ((byteAt s i : Int) = 95)) (ev_t rfl rfl) ev_c rfl (wy rfl rfl rfl rfl) ?_
                    refine s_pick1 (v := .bool (!decide ((byteAt s i : Int) = 95))) (ev_t rfl rfl) (ev_t rfl rfl) (w0 rfl) ?_
                    refine c_done ?_
                    refine n_then ?_
                    by_cases h24 : (byteAt s i : Int) = 95
                    · refine c_cond0 (vb (ev_t rfl rfl) (nb0 h24)) ?_
                      refine c_skip ?_
                      refine n_block ?_
                      refine n_then ?_
                      refine c_reg ?_
                      refine s_add (r := ((i + 1 : Nat) : Int)) (ev_t rfl e17) ev_c (by omega) (by omega) (w0 rfl) ?_
                      refine s_move (v := .int .i64 ((i + 1 : Nat) : Int)) (ev_t rfl rfl) (w0 rfl) ?_
                      refine c_done ?_
                      exact ⟨(i + 1), _, rfl, ⟨x11, (step_all0 i13 (by simp [letterB]; omega)), e14, e15, e16, rfl⟩, (show s.size - (i + 1) < s.size - i by omega)⟩
                    · refine c_cond1 (vb (ev_t rfl rfl) (nb1 h24)) ?_
                      refine c_seq ?_
                      refine c_reg ?_
                      refine s_assign (v := .bool false) ev_c (w0 rfl) ?_
                      refine c_done ?_
                      refine n_then ?_
                      refine c_ret ?_
                      refine r_block ?_
                      refine r_then ?_
                      refine r_then ?_
                      refine r_block ?_
                      refine r_then ?_
                      refine ret1 (v := .bool false) rfl rfl rfl ?_
                      refine ⟨_, rfl, ?_, (Ext.trans x9 x11)⟩
                      (refine congrArg Value.bool (Eq.symm ?_); first | (simp [nameB, kwB, *]; done) | (simp only [nameB]; rw [wordB_no i (by omega) (by simp [letterB]; omega)]; rfl))
                  · refine s_move (v := .bool false) (vb (ev_t rfl rfl) (decide_eq_false h23)) (w0 rfl) ?_
                    refine s_skip (wn rfl rfl rfl rfl rfl) ?_
                    refine s_skip (wn rfl rfl rfl rfl rfl) ?_
                    refine s_pick0 (v := .bool false) (ev_t rfl rfl) ev_c (w0 rfl) ?_
                    refine c_done ?_
                    refine n_then ?_
                    refine c_cond0 (ev_t rfl rfl) ?_
                    refine c_skip ?_
                    refine n_block ?_
                    refine n_then ?_
                    refine c_reg ?_
                    refine s_add (r := ((i + 1 : Nat) : Int)) (ev_t rfl e17) ev_c (by omega) (by omega) (w0 rfl) ?_
                    refine s_move (v := .int .i64 ((i + 1 : Nat) : Int)) (ev_t rfl rfl) (w0 rfl) ?_
                    refine c_done ?_
                    exact ⟨(i + 1), _, rfl, ⟨x11, (step_all0 i13 (by simp [letterB]; omega)), e14, e15, e16, rfl⟩, (show s.size - (i + 1) < s.size - i by omega)⟩
              · refine s_move (v := .bool false) (vb (ev_t rfl rfl) (decide_eq_false h20)) (wy rfl rfl rfl rfl) ?_
                refine s_move (v := .int .u8 (byteAt s i : Int)) (ev_t rfl rfl) (wy rfl rfl rfl rfl) ?_
                refine s_cmp (r := decide (90 < (byteAt s i : Int))) (ev_t rfl rfl) ev_c rfl (wy rfl rfl rfl rfl) ?_
                refine s_pick0 (v := .bool (decide (90 < (byteAt s i : Int)))) (ev_t rfl rfl) (ev_t rfl rfl) (wy rfl rfl rfl rfl) ?_
                refine s_pick1 (v := .bool (decide (90 < (byteAt s i : Int)))) (ev_t rfl rfl) (ev_t rfl rfl) (w0 rfl) ?_
                by_cases h25 : 90 < (byteAt s i : Int)
                · refine s_move (v := .bool true) (vb (ev_t rfl rfl) (decide_eq_true h25)) (w0 rfl) ?_
                  refine s_move (v := .int .u8 (byteAt s i : Int)) (ev_t rfl rfl) (wy rfl rfl rfl rfl) ?_
                  refine s_cmp (r := decide ((byteAt s i : Int) < 48)) (ev_t rfl rfl) ev_c rfl (wy rfl rfl rfl rfl) ?_
                  by_cases h26 : (byteAt s i : Int) < 48
                  · refine s_move (v := .bool true) (vb (ev_t rfl rfl) (decide_eq_true h26)) (wy rfl rfl rfl rfl) ?_
                    refine s_skip (wn rfl rfl rfl rfl rfl) ?_
                    refine s_skip (wn rfl rfl rfl rfl rfl) ?_
                    refine s_pick1 (v := .bool true) (ev_t rfl rfl) ev_c (wy rfl rfl rfl rfl) ?_
                    refine s_pick1 (v := .bool true) (ev_t rfl rfl) (ev_t rfl rfl) (w0 rfl) ?_
                    refine s_move (v := .bool true) (ev_t rfl rfl) (w0 rfl) ?_
                    refine s_move (v := .int .u8 (byteAt s i : Int)) (ev_t rfl rfl) (wy rfl rfl rfl rfl) ?_
                    refine s_cmp (r := !decide ((byteAt s i : Int) = 95)) (ev_t rfl rfl) ev_c rfl (wy rfl rfl rfl rfl) ?_
                    refine s_pick1 (v := .bool (!decide ((byteAt s i : Int) = 95))) (ev_t rfl rfl) (ev_t rfl rfl) (w0 rfl) ?_
                    refine c_done ?_
                    refine n_then ?_
                    by_cases h27 : (byteAt s i : Int) = 95
                    · refine c_cond0 (vb (ev_t rfl rfl) (nb0 h27)) ?_
                      refine c_skip ?_
                      refine n_block ?_
                      refine n_then ?_
                      refine c_reg ?_
                      refine s_add (r := ((i + 1 : Nat) : Int)) (ev_t rfl e17) ev_c (by omega) (by omega) (w0 rfl) ?_
                      refine s_move (v := .int .i64 ((i + 1 : Nat) : Int)) (ev_t rfl rfl) (w0 rfl) ?_
                      refine c_done ?_
                      exact ⟨(i + 1), _, rfl, ⟨x11, (step_all0 i13 (by simp [letterB]; omega)), e14, e15, e16, rfl⟩, (show s.size - (i + 1) < s.size - i by omega)⟩
                    · refine c_cond1 (vb (ev_t rfl rfl) (nb1 h27)) ?_
                      refine c_seq ?_
                      refine c_reg ?_
                      refine s_assign (v := .bool false) ev_c (w0 rfl) ?_
                      refine c_done ?_
                      refine n_then ?_
                      refine c_ret ?_
                      refine r_block ?_
                      refine r_then ?_
                      refine r_then ?_
                      refine r_block ?_
                      refine r_then ?_
                      refine ret1 (v := .bool false) rfl rfl rfl ?_
                      refine ⟨_, rfl, ?_, (Ext.trans x9 x11)⟩
                      (refine congrArg Value.bool (Eq.symm ?_); first | (simp [nameB, kwB, *]; done) | (simp only [nameB]; rw [wordB_no i (by omega) (by simp [letterB]; omega)]; rfl))
                  · refine s_move (v := .bool false) (vb (ev_t rfl rfl) (decide_eq_false h26)) (wy rfl rfl rfl rfl) ?_
                    refine s_move (v := .int .u8 (byteAt s i : Int)) (ev_t rfl rfl) (wy rfl rfl rfl rfl) ?_
                    refine s_cmp (r := decide (57 < (byteAt s i : Int))) (ev_t rfl rfl) ev_c rfl (wy rfl rfl rfl rfl) ?_
                    refine s_pick0 (v := .bool (decide (57 < (byteAt s i : Int)))) (ev_t rfl rfl) (ev_t rfl rfl) (wy rfl rfl rfl rfl) ?_
                    refine s_pick1 (v := .bool (decide (57 < (byteAt s i : Int)))) (ev_t rfl rfl) (ev_t rfl rfl) (w0 rfl) ?_
                    by_cases h28 : 57 < (byteAt s i : Int)
                    · refine s_move (v := .bool true) (vb (ev_t rfl rfl) (decide_eq_true h28)) (w0 rfl) ?_
                      refine s_move (v := .int .u8 (byteAt s i : Int)) (ev_t rfl rfl) (wy rfl rfl rfl rfl) ?_
                      refine s_cmp (r := !decide ((byteAt s i : Int) = 95)) (ev_t rfl rfl) ev_c rfl (wy rfl rfl rfl rfl) ?_
                      refine s_pick1 (v := .bool (!decide ((byteAt s i : Int) = 95))) (ev_t rfl rfl) (ev_t rfl rfl) (w0 rfl) ?_
                      refine c_done ?_
                      refine n_then ?_
                      by_cases h29 : (byteAt s i : Int) = 95
                      · refine c_cond0 (vb (ev_t rfl rfl) (nb0 h29)) ?_
                        refine c_skip ?_
                        refine n_block ?_
                        refine n_then ?_
                        refine c_reg ?_
                        refine s_add (r := ((i + 1 : Nat) : Int)) (ev_t rfl e17) ev_c (by omega) (by omega) (w0 rfl) ?_
                        refine s_move (v := .int .i64 ((i + 1 : Nat) : Int)) (ev_t rfl rfl) (w0 rfl) ?_
                        refine c_done ?_
                        exact ⟨(i + 1), _, rfl, ⟨x11, (step_all0 i13 (by simp [letterB]; omega)), e14, e15, e16, rfl⟩, (show s.size - (i + 1) < s.size - i by omega)⟩
                      · refine c_cond1 (vb (ev_t rfl rfl) (nb1 h29)) ?_
                        refine c_seq ?_
                        refine c_reg ?_
                        refine s_assign (v := .bool false) ev_c (w0 rfl) ?_
                        refine c_done ?_
                        refine n_then ?_
                        refine c_ret ?_
                        refine r_block ?_
                        refine r_then ?_
                        refine r_then ?_
                        refine r_block ?_
                        refine r_then ?_
                        refine ret1 (v := .bool false) rfl rfl rfl ?_
                        refine ⟨_, rfl, ?_, (Ext.trans x9 x11)⟩
                        (refine congrArg Value.bool (Eq.symm ?_); first | (simp [nameB, kwB, *]; done) | (simp only [nameB]; rw [wordB_no i (by omega) (by simp [letterB]; omega)]; rfl))
                    · refine s_move (v := .bool false) (vb (ev_t rfl rfl) (decide_eq_false h28)) (w0 rfl) ?_
                      refine s_skip (wn rfl rfl rfl rfl rfl) ?_
                      refine s_skip (wn rfl rfl rfl rfl rfl) ?_
                      refine s_pick0 (v := .bool false) (ev_t rfl rfl) ev_c (w0 rfl) ?_
                      refine c_done ?_
                      refine n_then ?_
                      refine c_cond0 (ev_t rfl rfl) ?_
                      refine c_skip ?_
                      refine n_block ?_
                      refine n_then ?_
                      refine c_reg ?_
                      refine s_add (r := ((i + 1 : Nat) : Int)) (ev_t rfl e17) ev_c (by omega) (by omega) (w0 rfl) ?_
                      refine s_move (v := .int .i64 ((i + 1 : Nat) : Int)) (ev_t rfl rfl) (w0 rfl) ?_
                      refine c_done ?_
                      exact ⟨(i + 1), _, rfl, ⟨x11, (step_all0 i13 (by simp [letterB]; omega)), e14, e15, e16, rfl⟩, (show s.size - (i + 1) < s.size - i by omega)⟩
                · refine s_move (v := .bool false) (vb (ev_t rfl rfl) (decide_eq_false h25)) (w0 rfl) ?_
                  refine s_skip (wn rfl rfl rfl rfl rfl) ?_
                  refine s_skip (wn rfl rfl rfl rfl rfl) ?_
                  refine s_skip (wn rfl rfl rfl rfl rfl) ?_
                  refine s_skip (wu rfl rfl rfl rfl) ?_
                  refine s_skip (wu rfl rfl rfl rfl) ?_
                  refine s_skip (wn rfl rfl rfl rfl rfl) ?_
                  refine s_pick0 (v := .bool false) (ev_t rfl rfl) ev_c (w0 rfl) ?_
                  refine s_move (v := .bool false) (ev_t rfl rfl) (w0 rfl) ?_
                  refine s_skip (wn rfl rfl rfl rfl rfl) ?_
                  refine s_skip (wn rfl rfl rfl rfl rfl) ?_
                  refine s_pick0 (v := .bool false) (ev_t rfl rfl) ev_c (w0 rfl) ?_
                  refine c_done ?_
                  refine n_then ?_
                  refine c_cond0 (ev_t rfl rfl) ?_
                  refine c_skip ?_
                  refine n_block ?_
                  refine n_then ?_
                  refine c_reg ?_
                  refine s_add (r := ((i + 1 : Nat) : Int)) (ev_t rfl e17) ev_c (by omega) (by omega) (w0 rfl) ?_
                  refine s_move (v := .int .i64 ((i + 1 : Nat) : Int)) (ev_t rfl rfl) (w0 rfl) ?_
                  refine c_done ?_
                  exact ⟨(i + 1), _, rfl, ⟨x11, (step_all0 i13 (by simp [letterB]; omega)), e14, e15, e16, rfl⟩, (show s.size - (i + 1) < s.size - i by omega)⟩
            · refine s_move (v := .bool false) (vb (ev_t rfl rfl) (decide_eq_false h19)) (w0 rfl) ?_
              refine s_move (v := .int .u8 (byteAt s i : Int)) (ev_t rfl rfl) (wy rfl rfl rfl rfl) ?_
              refine s_cmp (r := decide (122 < (byteAt s i : Int))) (ev_t rfl rfl) ev_c rfl (wy rfl rfl rfl rfl) ?_
              refine s_pick0 (v := .bool (decide (122 < (byteAt s i : Int)))) (ev_t rfl rfl) (ev_t rfl rfl) (w0 rfl) ?_
              by_cases h30 : 122 < (byteAt s i : Int)
              · refine s_move (v := .bool true) (vb (ev_t rfl rfl) (decide_eq_true h30)) (w0 rfl) ?_
                refine s_move (v := .int .u8 (byteAt s i : Int)) (ev_t rfl rfl) (wy rfl rfl rfl rfl) ?_
                refine s_cmp (r := decide ((byteAt s i : Int) < 65)) (ev_t rfl rfl) ev_c rfl (wy rfl rfl rfl rfl) ?_
                by_cases h31 : (byteAt s i : Int) < 65
                · refine s_move (v := .bool true) (vb (ev_t rfl rfl) (decide_eq_true h31)) (wy rfl rfl rfl rfl) ?_
                  refine s_skip (wn rfl rfl rfl rfl rfl) ?_
                  refine s_skip (wn rfl rfl rfl rfl rfl) ?_
                  refine s_pick1 (v := .bool true) (ev_t rfl rfl) ev_c (wy rfl rfl rfl rfl) ?_
                  refine s_pick1 (v := .bool true) (ev_t rfl rfl) (ev_t rfl rfl) (w0 rfl) ?_
                  refine s_move (v := .bool true) (ev_t rfl rfl) (w0 rfl) ?_
                  refine s_move (v := .int .u8 (byteAt s i : Int)) (ev_t rfl rfl) (wy rfl rfl rfl rfl) ?_
                  refine s_cmp (r := decide ((byteAt s i : Int) < 48)) (ev_t rfl rfl) ev_c rfl (wy rfl rfl rfl rfl) ?_
                  by_cases h32 : (byteAt s i : Int) < 48
                  · refine s_move (v := .bool true) (vb (ev_t rfl rfl) (decide_eq_true h32)) (wy rfl rfl rfl rfl) ?_
                    refine s_skip (wn rfl rfl rfl rfl rfl) ?_
                    refine s_skip (wn rfl rfl rfl rfl rfl) ?_
                    refine s_pick1 (v := .bool true) (ev_t rfl rfl) ev_c (wy rfl rfl rfl rfl) ?_
                    refine s_pick1 (v := .bool true) (ev_t rfl rfl) (ev_t rfl rfl) (w0 rfl) ?_
                    refine s_move (v := .bool true) (ev_t rfl rfl) (w0 rfl) ?_
                    refine s_move (v := .int .u8 (byteAt s i : Int)) (ev_t rfl rfl) (wy rfl rfl rfl rfl) ?_
                    refine s_cmp (r := !decide ((byteAt s i : Int) = 95)) (ev_t rfl rfl) ev_c rfl (wy rfl rfl rfl rfl) ?_
                    refine s_pick1 (v := .bool (!decide ((byteAt s i : Int) = 95))) (ev_t rfl rfl) (ev_t rfl rfl) (w0 rfl) ?_
                    refine c_done ?_
                    refine n_then ?_
                    by_cases h33 : (byteAt s i : Int) = 95
                    · refine c_cond0 (vb (ev_t rfl rfl) (nb0 h33)) ?_
                      refine c_skip ?_
                      refine n_block ?_
                      refine n_then ?_
                      refine c_reg ?_
                      refine s_add (r := ((i + 1 : Nat) : Int)) (ev_t rfl e17) ev_c (by omega) (by omega) (w0 rfl) ?_
                      refine s_move (v := .int .i64 ((i + 1 : Nat) : Int)) (ev_t rfl rfl) (w0 rfl) ?_
                      refine c_done ?_
                      exact ⟨(i + 1), _, rfl, ⟨x11, (step_all0 i13 (by simp [letterB]; omega)), e14, e15, e16, rfl⟩, (show s.size - (i + 1) < s.size - i by omega)⟩
                    · refine c_cond1 (vb (ev_t rfl rfl) (nb1 h33)) ?_
                      refine c_seq ?_
                      refine c_reg ?_
                      refine s_assign (v := .bool false) ev_c (w0 rfl) ?_
                      refine c_done ?_
                      refine n_then ?_
                      refine c_ret ?_
                      refine r_block ?_
                      refine r_then ?_
                      refine r_then ?_
                      refine r_block ?_
                      refine r_then ?_
                      refine ret1 (v := .bool false) rfl rfl rfl ?_
                      refine ⟨_, rfl, ?_, (Ext.trans x9 x11)⟩
                      (refine congrArg Value.bool (Eq.symm ?_); first | (simp [nameB, kwB, *]; done) | (simp only [nameB]; rw [wordB_no i (by omega) (by simp [letterB]; omega)]; rfl))
                  · refine s_move (v := .bool false) (vb (ev_t rfl rfl) (decide_eq_false h32)) (wy rfl rfl rfl rfl) ?_
                    refine s_move (v := .int .u8 (byteAt s i : Int)) (ev_t rfl rfl) (wy rfl rfl rfl rfl) ?_
                    refine s_cmp (r := decide (57 < (byteAt s i : Int))) (ev_t rfl rfl) ev_c rfl (wy rfl rfl rfl rfl) ?_
                    refine s_pick0 (v := .bool (decide (57 < (byteAt s i : Int)))) (ev_t rfl rfl) (ev_t rfl rfl) (wy rfl rfl rfl rfl) ?_
                    refine s_pick1 (v := .bool (decide (57 < (byteAt s i : Int)))) (ev_t rfl rfl) (ev_t rfl rfl) (w0 rfl) ?_
                    by_cases h34 : 57 < (byteAt s i : Int)
                    · refine s_move (v := .bool true) (vb (ev_t rfl rfl) (decide_eq_true h34)) (w0 rfl) ?_
                      refine s_move (v := .int .u8 (byteAt s i : Int)) (ev_t rfl rfl) (wy rfl rfl rfl rfl) ?_
                      refine s_cmp (r := !decide ((byteAt s i : Int) = 95)) (ev_t rfl rfl) ev_c rfl (wy rfl rfl rfl rfl) ?_
                      refine s_pick1 (v := .bool (!decide ((byteAt s i : Int) = 95))) (ev_t rfl rfl) (ev_t rfl rfl) (w0 rfl) ?_
                      refine c_done ?_
                      refine n_then ?_
                      by_cases h35 : (byteAt s i : Int) = 95
                      · refine c_cond0 (vb (ev_t rfl rfl) (nb0 h35)) ?_
                        refine c_skip ?_
                        refine n_block ?_
                        refine n_then ?_
                        refine c_reg ?_
                        refine s_add (r := ((i + 1 : Nat) : Int)) (ev_t rfl e17) ev_c (by omega) (by omega) (w0 rfl) ?_
                        refine s_move (v := .int .i64 ((i + 1 : Nat) : Int)) (ev_t rfl rfl) (w0 rfl) ?_
                        refine c_done ?_
                        exact ⟨(i + 1), _, rfl, ⟨x11, (step_all0 i13 (by simp [letterB]; omega)), e14, e15, e16, rfl⟩, (show s.size - (i + 1) < s.size - i by omega)⟩
                      · refine c_cond1 (vb (ev_t rfl rfl) (nb1 h35)) ?_
                        refine c_seq ?_
                        refine c_reg ?_
                        refine s_assign (v := .bool false) ev_c (w0 rfl) ?_
                        refine c_done ?_
                        refine n_then ?_
                        refine c_ret ?_
                        refine r_block ?_
                        refine r_then ?_
                        refine r_then ?_
                        refine r_block ?_
                        refine r_then ?_
                        refine ret1 (v := .bool false) rfl rfl rfl ?_
                        refine ⟨_, rfl, ?_, (Ext.trans x9 x11)⟩
                        (refine congrArg Value.bool (Eq.symm ?_); first | (simp [nameB, kwB, *]; done) | (simp only [nameB]; rw [wordB_no i (by omega) (by simp [letterB]; omega)]; rfl))
                    · refine s_move (v := .bool false) (vb (ev_t rfl rfl) (decide_eq_false h34)) (w0 rfl) ?_
                      refine s_skip (wn rfl rfl rfl rfl rfl) ?_
                      refine s_skip (wn rfl rfl rfl rfl rfl) ?_
                      refine s_pick0 (v := .bool false) (ev_t rfl rfl) ev_c (w0 rfl) ?_
                      refine c_done ?_
                      refine n_then ?_
                      refine c_cond0 (ev_t rfl rfl) ?_
                      refine c_skip ?_
                      refine n_block ?_
                      refine n_then ?_
                      refine c_reg ?_
                      refine s_add (r := ((i + 1 : Nat) : Int)) (ev_t rfl e17) ev_c (by omega) (by omega) (w0 rfl) ?_
                      refine s_move (v := .int .i64 ((i + 1 : Nat) : Int)) (ev_t rfl rfl) (w0 rfl) ?_
                      refine c_done ?_
                      exact ⟨(i + 1), _, rfl, ⟨x11, (step_all0 i13 (by simp [letterB]; omega)), e14, e15, e16, rfl⟩, (show s.size - (i + 1) < s.size - i by omega)⟩
                · refine s_move (v := .bool false) (vb (ev_t rfl rfl) (decide_eq_false h31)) (wy rfl rfl rfl rfl) ?_
                  refine s_move (v := .int .u8 (byteAt s i : Int)) (ev_t rfl rfl) (wy rfl rfl rfl rfl) ?_
                  refine s_cmp (r := decide (90 < (byteAt s i : Int))) (ev_t rfl rfl) ev_c rfl (wy rfl rfl rfl rfl) ?_
                  refine s_pick0 (v := .bool (decide (90 < (byteAt s i : Int)))) (ev_t rfl rfl) (ev_t rfl rfl) (wy rfl rfl rfl rfl) ?_
                  refine s_pick1 (v := .bool (decide (90 < (byteAt s i : Int)))) (ev_t rfl rfl) (ev_t rfl rfl) (w0 rfl) ?_
                  by_cases h36 : 90 < (byteAt s i : Int)
                  · refine s_move (v := .bool true) (vb (ev_t rfl rfl) (decide_eq_true h36)) (w0 rfl) ?_
                    refine s_move (v := .int .u8 (byteAt s i : Int)) (ev_t rfl rfl) (wy rfl rfl rfl rfl) ?_
                    refine s_cmp (r := decide ((byteAt s i : Int) < 48)) (ev_t rfl rfl) ev_c rfl (wy rfl rfl rfl rfl) ?_
                    by_cases h37 : (byteAt s i : Int) < 48
                    · refine s_move (v := .bool true) (vb (ev_t rfl rfl) (decide_eq_true h37)) (wy rfl rfl rfl rfl) ?_
                      refine s_skip (wn rfl rfl rfl rfl rfl) ?_
                      refine s_skip (wn rfl rfl rfl rfl rfl) ?_
                      refine s_pick1 (v := .bool true) (ev_t rfl rfl) ev_c (wy rfl rfl rfl rfl) ?_
                      refine s_pick1 (v := .bool true) (ev_t rfl rfl) (ev_t rfl rfl) (w0 rfl) ?_
                      refine s_move (v := .bool true) (ev_t rfl rfl) (w0 rfl) ?_
                      refine s_move (v := .int .u8 (byteAt s i : Int)) (ev_t rfl rfl) (wy rfl rfl rfl rfl) ?_
                      refine s_cmp (r := !decide ((byteAt s i : Int) = 95)) (ev_t rfl rfl) ev_c rfl (wy rfl rfl rfl rfl) ?_
                      refine s_pick1 (v := .bool (!decide ((byteAt s i : Int) = 95))) (ev_t rfl rfl) (ev_t rfl rfl) (w0 rfl) ?_
                      refine c_done ?_
                      refine n_then ?_
                      by_cases h38 : (byteAt s i : Int) = 95
                      · refine c_cond0 (vb (ev_t rfl rfl) (nb0 h38)) ?_
                        refine c_skip ?_
                        refine n_block ?_
                        refine n_then ?_
                        refine c_reg ?_
                        refine s_add (r := ((i + 1 : Nat) : Int)) (ev_t rfl e17) ev_c (by omega) (by omega) (w0 rfl) ?_
                        refine s_move (v := .int .i64 ((i + 1 : Nat) : Int)) (ev_t rfl rfl) (w0 rfl) ?_
                        refine c_done ?_
                        exact ⟨(i + 1), _, rfl, ⟨x11, (step_all0 i13 (by simp [letterB]; omega)), e14, e15, e16, rfl⟩, (show s.size - (i + 1) < s.size - i by omega)⟩
                      · refine c_cond1 (vb (ev_t rfl rfl) (nb1 h38)) ?_
                        refine c_seq ?_
                        refine c_reg ?_
                        refine s_assign (v := .bool false) ev_c (w0 rfl) ?_
                        refine c_done ?_
                        refine n_then ?_
                        refine c_ret ?_
                        refine r_block ?_
                        refine r_then ?_
                        refine r_then ?_
                        refine r_block ?_
                        refine r_then ?_
                        refine ret1 (v := .bool false) rfl rfl rfl ?_
                        refine ⟨_, rfl, ?_, (Ext.trans x9 x11)⟩
                        (refine congrArg Value.bool (Eq.symm ?_); first | (simp [nameB, kwB, *]; done) | (simp only [nameB]; rw [wordB_no i (by omega) (by simp [letterB]; omega)]; rfl))
                    · refine s_move (v := .bool false) (vb (ev_t rfl rfl) (decide_eq_false h37)) (wy rfl rfl rfl rfl) ?_
                      refine s_move (v := .int .u8 (byteAt s i : Int)) (ev_t rfl rfl) (wy rfl rfl rfl rfl) ?_
                      refine s_cmp (r := decide (57 < (byteAt s i : Int))) (ev_t rfl rfl) ev_c rfl (wy rfl rfl rfl rfl) ?_
                      refine s_pick0 (v := .bool (decide (57 < (byteAt s i : Int)))) (ev_t rfl rfl) (ev_t rfl rfl) (wy rfl rfl rfl rfl) ?_
                      refine s_pick1 (v := .bool (decide (57 < (byteAt s i : Int)))) (ev_t rfl rfl) (ev_t rfl rfl) (w0 rfl) ?_
                      by_cases h39 : 57 < (byteAt s i : Int)
                      · refine s_move (v := .bool true) (vb (ev_t rfl rfl) (decide_eq_true h39)) (w0 rfl) ?_
                        refine s_move (v := .int .u8 (byteAt s i : Int)) (ev_t rfl rfl) (wy rfl rfl rfl rfl) ?_
                        refine s_cmp (r := !decide ((byteAt s i : Int) = 95)) (ev_t rfl rfl) ev_c rfl (wy rfl rfl rfl rfl) ?_
                        refine s_pick1 (v := .bool (!decide ((byteAt s i : Int) = 95))) (ev_t rfl rfl) (ev_t rfl rfl) (w0 rfl) ?_
                        refine c_done ?_
                        refine n_then ?_
                        by_cases h40 : (byteAt s i : Int) = 95
                        · refine c_cond0 (vb (ev_t rfl rfl) (nb0 h40)) ?_
                          refine c_skip ?_
                          refine n_block ?_
                          refine n_then ?_
                          refine c_reg ?_
                          refine s_add (r := ((i + 1 : Nat) : Int)) (ev_t rfl e17) ev_c (by omega) (by omega) (w0 rfl) ?_
                          refine s_move (v := .int .i64 ((i + 1 : Nat) : Int)) (ev_t rfl rfl) (w0 rfl) ?_
                          refine c_done ?_
                          exact ⟨(i + 1), _, rfl, ⟨x11, (step_all0 i13 (by simp [letterB]; omega)), e14, e15, e16, rfl⟩, (show s.size - (i + 1) < s.size - i by omega)⟩
                        · refine c_cond1 (vb (ev_t rfl rfl) (nb1 h40)) ?_
                          refine c_seq ?_
                          refine c_reg ?_
                          refine s_assign (v := .bool false) ev_c (w0 rfl) ?_
                          refine c_done ?_
                          refine n_then ?_
                          refine c_ret ?_
                          refine r_block ?_
                          refine r_then ?_
                          refine r_then ?_
                          refine r_block ?_
                          refine r_then ?_
                          refine ret1 (v := .bool false) rfl rfl rfl ?_
                          refine ⟨_, rfl, ?_, (Ext.trans x9 x11)⟩
                          (refine congrArg Value.bool (Eq.symm ?_); first | (simp [nameB, kwB, *]; done) | (simp only [nameB]; rw [wordB_no i (by omega) (by simp [letterB]; omega)]; rfl))
                      · refine s_move (v := .bool false) (vb (ev_t rfl rfl) (decide_eq_false h39)) (w0 rfl) ?_
                        refine s_skip (wn rfl rfl rfl rfl rfl) ?_
                        refine s_skip (wn rfl rfl rfl rfl rfl) ?_
                        refine s_pick0 (v := .bool false) (ev_t rfl rfl) ev_c (w0 rfl) ?_
                        refine c_done ?_
                        refine n_then ?_
                        refine c_cond0 (ev_t rfl rfl) ?_
                        refine c_skip ?_
                        refine n_block ?_
                        refine n_then ?_
                        refine c_reg ?_
                        refine s_add (r := ((i + 1 : Nat) : Int)) (ev_t rfl e17) ev_c (by omega) (by omega) (w0 rfl) ?_
                        refine s_move (v := .int .i64 ((i + 1 : Nat) : Int)) (ev_t rfl rfl) (w0 rfl) ?_
                        refine c_done ?_
                        exact ⟨(i + 1), _, rfl, ⟨x11, (step_all0 i13 (by simp [letterB]; omega)), e14, e15, e16, rfl⟩, (show s.size - (i + 1) < s.size - i by omega)⟩
                  · refine s_move (v := .bool false) (vb (ev_t rfl rfl) (decide_eq_false h36)) (w0 rfl) ?_
                    refine s_skip (wn rfl rfl rfl rfl rfl) ?_
                    refine s_skip (wn rfl rfl rfl rfl rfl) ?_
                    refine s_skip (wn rfl rfl rfl rfl rfl) ?_
                    refine s_skip (wu rfl rfl rfl rfl) ?_
                    refine s_skip (wu rfl rfl rfl rfl) ?_
                    refine s_skip (wn rfl rfl rfl rfl rfl) ?_
                    refine s_pick0 (v := .bool false) (ev_t rfl rfl) ev_c (w0 rfl) ?_
                    refine s_move (v := .bool false) (ev_t rfl rfl) (w0 rfl) ?_
                    refine s_skip (wn rfl rfl rfl rfl rfl) ?_
                    refine s_skip (wn rfl rfl rfl rfl rfl) ?_
                    refine s_pick0 (v := .bool false) (ev_t rfl rfl) ev_c (w0 rfl) ?_
                    refine c_done ?_
                    refine n_then ?_
                    refine c_cond0 (ev_t rfl rfl) ?_
                    refine c_skip ?_
                    refine n_block ?_
                    refine n_then ?_
                    refine c_reg ?_
                    refine s_add (r := ((i + 1 : Nat) : Int)) (ev_t rfl e17) ev_c (by omega) (by omega) (w0 rfl) ?_
                    refine s_move (v := .int .i64 ((i + 1 : Nat) : Int)) (ev_t rfl rfl) (w0 rfl) ?_
                    refine c_done ?_
                    exact ⟨(i + 1), _, rfl, ⟨x11, (step_all0 i13 (by simp [letterB]; omega)), e14, e15, e16, rfl⟩, (show s.size - (i + 1) < s.size - i by omega)⟩
              · refine s_move (v := .bool false) (vb (ev_t rfl rfl) (decide_eq_false h30)) (w0 rfl) ?_
                refine s_skip (wn rfl rfl rfl rfl rfl) ?_
                refine s_skip (wn rfl rfl rfl rfl rfl) ?_
                refine s_skip (wn rfl rfl rfl rfl rfl) ?_
                refine s_skip (wu rfl rfl rfl rfl) ?_
                refine s_skip (wu rfl rfl rfl rfl) ?_
                refine s_skip (wn rfl rfl rfl rfl rfl) ?_
                refine s_pick0 (v := .bool false) (ev_t rfl rfl) ev_c (w0 rfl) ?_
                refine s_move (v := .bool false) (ev_t rfl rfl) (w0 rfl) ?_
                refine s_skip (wn rfl rfl rfl rfl rfl) ?_
                refine s_skip (wn rfl rfl rfl rfl rfl) ?_
                refine s_skip (wn rfl rfl rfl rfl rfl) ?_
                refine s_skip (wu rfl rfl rfl rfl) ?_
                refine s_skip (wu rfl rfl rfl rfl) ?_
                refine s_skip (wn rfl rfl rfl rfl rfl) ?_
                refine s_pick0 (v := .bool false) (ev_t rfl rfl) ev_c (w0 rfl) ?_
                refine s_move (v := .bool false) (ev_t rfl rfl) (w0 rfl) ?_
                refine s_skip (wn rfl rfl rfl rfl rfl) ?_
                refine s_skip (wn rfl rfl rfl rfl rfl) ?_
                refine s_pick0 (v := .bool false) (ev_t rfl rfl) ev_c (w0 rfl) ?_
                refine c_done ?_
                refine n_then ?_
                refine c_cond0 (ev_t rfl rfl) ?_
                refine c_skip ?_
                refine n_block ?_
                refine n_then ?_
                refine c_reg ?_
                refine s_add (r := ((i + 1 : Nat) : Int)) (ev_t rfl e17) ev_c (by omega) (by omega) (w0 rfl) ?_
                refine s_move (v := .int .i64 ((i + 1 : Nat) : Int)) (ev_t rfl rfl) (w0 rfl) ?_
                refine c_done ?_
                exact ⟨(i + 1), _, rfl, ⟨x11, (step_all0 i13 (by simp [letterB]; omega)), e14, e15, e16, rfl⟩, (show s.size - (i + 1) < s.size - i by omega)⟩
          · refine c_cond0 (vb (ev_t rfl rfl) (decide_eq_false h18)) ?_
            refine c_exit ?_
            refine e_then ?_
            refine e_then ?_
            refine e_hit ?_
            refine n_then ?_
            refine c_seq ?_
            refine c_seq ?_
            refine c_reg ?_
            refine s_move (v := .string s) (ev_t rfl e14) (w0 rfl) ?_
            refine c_done ?_
            refine n_then ?_
            refine c_block ?_
            refine c_seq ?_
            refine c_seq ?_
            refine c_reg ?_
            refine s_cmpS (r := decide (s = (⟨#[110, 111, 116]⟩ : ByteArray))) (ev_t rfl rfl) ev_c rfl (w0 rfl) ?_
            refine s_assign (v := .bool (decide (s = (⟨#[110, 111, 116]⟩ : ByteArray)))) (ev_t rfl rfl) (w0 rfl) ?_
            refine c_done ?_
            refine n_then ?_
            by_cases h41 : s = (⟨#[110, 111, 116]⟩ : ByteArray)
            · refine c_cond1 (vb (ev_t rfl rfl) (decide_eq_true h41)) ?_
              refine c_skip ?_
              refine n_then ?_
              refine c_cond1 (vb (ev_t rfl rfl) (decide_eq_true h41)) ?_
              refine c_seq ?_
              refine c_reg ?_
              refine s_assign (v := .bool false) ev_c (w0 rfl) ?_
              refine c_done ?_
              refine n_then ?_
              refine c_ret ?_
              refine r_block ?_
              refine r_then ?_
              refine ret1 (v := .bool false) rfl rfl rfl ?_
              refine ⟨_, rfl, ?_, (Ext.trans x9 x11)⟩
              (refine congrArg Value.bool (Eq.symm ?_); first | (simp [nameB, kwB, *]; done) | (simp only [nameB]; rw [wordB_no i (by omega) (by simp [letterB]; omega)]; rfl))
            · refine c_cond0 (vb (ev_t rfl rfl) (decide_eq_false h41)) ?_
              refine c_seq ?_
              refine c_reg ?_
              refine s_cmpS (r := decide (s = (⟨#[99, 111, 117, 110, 116]⟩ : ByteArray))) (ev_t rfl rfl) ev_c rfl (w0 rfl) ?_
              refine s_assign (v := .bool (decide (s = (⟨#[99, 111, 117, 110, 116]⟩ : ByteArray)))) (ev_t rfl rfl) (w0 rfl) ?_
              refine c_done ?_
              refine n_then ?_
              by_cases h42 : s = (⟨#[99, 111, 117, 110, 116]⟩ : ByteArray)
              · refine c_cond1 (vb (ev_t rfl rfl) (decide_eq_true h42)) ?_
                refine c_skip ?_
                refine n_then ?_
                refine c_cond1 (vb (ev_t rfl rfl) (decide_eq_true h42)) ?_
                refine c_seq ?_
                refine c_reg ?_
                refine s_assign (v := .bool false) ev_c (w0 rfl) ?_
                refine c_done ?_
                refine n_then ?_
                refine c_ret ?_
                refine r_block ?_
                refine r_then ?_
                refine ret1 (v := .bool false) rfl rfl rfl ?_
                refine ⟨_, rfl, ?_, (Ext.trans x9 x11)⟩
                (refine congrArg Value.bool (Eq.symm ?_); first | (simp [nameB, kwB, *]; done) | (simp only [nameB]; rw [wordB_no i (by omega) (by simp [letterB]; omega)]; rfl))
              · refine c_cond0 (vb (ev_t rfl rfl) (decide_eq_false h42)) ?_
                refine c_seq ?_
                refine c_reg ?_
                refine s_cmpS (r := decide (s = (⟨#[115, 117, 109]⟩ : ByteArray))) (ev_t rfl rfl) ev_c rfl (w0 rfl) ?_
                refine s_assign (v := .bool (decide (s = (⟨#[115, 117, 109]⟩ : ByteArray)))) (ev_t rfl rfl) (w0 rfl) ?_
                refine c_done ?_
                refine n_then ?_
                by_cases h43 : s = (⟨#[115, 117, 109]⟩ : ByteArray)
                · refine c_cond1 (vb (ev_t rfl rfl) (decide_eq_true h43)) ?_
                  refine c_skip ?_
                  refine n_then ?_
                  refine c_cond1 (vb (ev_t rfl rfl) (decide_eq_true h43)) ?_
                  refine c_seq ?_
                  refine c_reg ?_
                  refine s_assign (v := .bool false) ev_c (w0 rfl) ?_
                  refine c_done ?_
                  refine n_then ?_
                  refine c_ret ?_
                  refine r_block ?_
                  refine r_then ?_
                  refine ret1 (v := .bool false) rfl rfl rfl ?_
                  refine ⟨_, rfl, ?_, (Ext.trans x9 x11)⟩
                  (refine congrArg Value.bool (Eq.symm ?_); first | (simp [nameB, kwB, *]; done) | (simp only [nameB]; rw [wordB_no i (by omega) (by simp [letterB]; omega)]; rfl))
                · refine c_cond0 (vb (ev_t rfl rfl) (decide_eq_false h43)) ?_
                  refine c_seq ?_
                  refine c_reg ?_
                  refine s_cmpS (r := decide (s = (⟨#[109, 105, 110]⟩ : ByteArray))) (ev_t rfl rfl) ev_c rfl (w0 rfl) ?_
                  refine s_assign (v := .bool (decide (s = (⟨#[109, 105, 110]⟩ : ByteArray)))) (ev_t rfl rfl) (w0 rfl) ?_
                  refine c_done ?_
                  refine n_then ?_
                  by_cases h44 : s = (⟨#[109, 105, 110]⟩ : ByteArray)
                  · refine c_cond1 (vb (ev_t rfl rfl) (decide_eq_true h44)) ?_
                    refine c_skip ?_
                    refine n_then ?_
                    refine c_cond1 (vb (ev_t rfl rfl) (decide_eq_true h44)) ?_
                    refine c_seq ?_
                    refine c_reg ?_
                    refine s_assign (v := .bool false) ev_c (w0 rfl) ?_
                    refine c_done ?_
                    refine n_then ?_
                    refine c_ret ?_
                    refine r_block ?_
                    refine r_then ?_
                    refine ret1 (v := .bool false) rfl rfl rfl ?_
                    refine ⟨_, rfl, ?_, (Ext.trans x9 x11)⟩
                    (refine congrArg Value.bool (Eq.symm ?_); first | (simp [nameB, kwB, *]; done) | (simp only [nameB]; rw [wordB_no i (by omega) (by simp [letterB]; omega)]; rfl))
                  · refine c_cond0 (vb (ev_t rfl rfl) (decide_eq_false h44)) ?_
                    refine c_seq ?_
                    refine c_reg ?_
                    refine s_cmpS (r := decide (s = (⟨#[109, 97, 120]⟩ : ByteArray))) (ev_t rfl rfl) ev_c rfl (w0 rfl) ?_
                    refine s_assign (v := .bool (decide (s = (⟨#[109, 97, 120]⟩ : ByteArray)))) (ev_t rfl rfl) (w0 rfl) ?_
                    refine c_done ?_
                    refine n_then ?_
                    by_cases h45 : s = (⟨#[109, 97, 120]⟩ : ByteArray)
                    · refine c_cond1 (vb (ev_t rfl rfl) (decide_eq_true h45)) ?_
                      refine c_skip ?_
                      refine n_then ?_
                      refine c_cond1 (vb (ev_t rfl rfl) (decide_eq_true h45)) ?_
                      refine c_seq ?_
                      refine c_reg ?_
                      refine s_assign (v := .bool false) ev_c (w0 rfl) ?_
                      refine c_done ?_
                      refine n_then ?_
                      refine c_ret ?_
                      refine r_block ?_
                      refine r_then ?_
                      refine ret1 (v := .bool false) rfl rfl rfl ?_
                      refine ⟨_, rfl, ?_, (Ext.trans x9 x11)⟩
                      (refine congrArg Value.bool (Eq.symm ?_); first | (simp [nameB, kwB, *]; done) | (simp only [nameB]; rw [wordB_no i (by omega) (by simp [letterB]; omega)]; rfl))
                    · refine c_cond0 (vb (ev_t rfl rfl) (decide_eq_false h45)) ?_
                      refine c_seq ?_
                      refine c_reg ?_
                      refine s_cmpS (r := decide (s = (⟨#[108, 101, 110]⟩ : ByteArray))) (ev_t rfl rfl) ev_c rfl (w0 rfl) ?_
                      refine s_assign (v := .bool (decide (s = (⟨#[108, 101, 110]⟩ : ByteArray)))) (ev_t rfl rfl) (w0 rfl) ?_
                      refine c_done ?_
                      refine n_then ?_
                      by_cases h46 : s = (⟨#[108, 101, 110]⟩ : ByteArray)
                      · refine c_cond1 (vb (ev_t rfl rfl) (decide_eq_true h46)) ?_
                        refine c_skip ?_
                        refine n_then ?_
                        refine c_cond1 (vb (ev_t rfl rfl) (decide_eq_true h46)) ?_
                        refine c_seq ?_
                        refine c_reg ?_
                        refine s_assign (v := .bool false) ev_c (w0 rfl) ?_
                        refine c_done ?_
                        refine n_then ?_
                        refine c_ret ?_
                        refine r_block ?_
                        refine r_then ?_
                        refine ret1 (v := .bool false) rfl rfl rfl ?_
                        refine ⟨_, rfl, ?_, (Ext.trans x9 x11)⟩
                        (refine congrArg Value.bool (Eq.symm ?_); first | (simp [nameB, kwB, *]; done) | (simp only [nameB]; rw [wordB_no i (by omega) (by simp [letterB]; omega)]; rfl))
                      · refine c_cond0 (vb (ev_t rfl rfl) (decide_eq_false h46)) ?_
                        refine c_seq ?_
                        refine c_reg ?_
                        refine s_cmpS (r := decide (s = (⟨#[99, 104, 97, 114, 115]⟩ : ByteArray))) (ev_t rfl rfl) ev_c rfl (w0 rfl) ?_
                        refine s_assign (v := .bool (decide (s = (⟨#[99, 104, 97, 114, 115]⟩ : ByteArray)))) (ev_t rfl rfl) (w0 rfl) ?_
                        refine c_done ?_
                        refine n_then ?_
                        by_cases h47 : s = (⟨#[99, 104, 97, 114, 115]⟩ : ByteArray)
                        · refine c_cond1 (vb (ev_t rfl rfl) (decide_eq_true h47)) ?_
                          refine c_skip ?_
                          refine n_then ?_
                          refine c_cond1 (vb (ev_t rfl rfl) (decide_eq_true h47)) ?_
                          refine c_seq ?_
                          refine c_reg ?_
                          refine s_assign (v := .bool false) ev_c (w0 rfl) ?_
                          refine c_done ?_
                          refine n_then ?_
                          refine c_ret ?_
                          refine r_block ?_
                          refine r_then ?_
                          refine ret1 (v := .bool false) rfl rfl rfl ?_
                          refine ⟨_, rfl, ?_, (Ext.trans x9 x11)⟩
                          (refine congrArg Value.bool (Eq.symm ?_); first | (simp [nameB, kwB, *]; done) | (simp only [nameB]; rw [wordB_no i (by omega) (by simp [letterB]; omega)]; rfl))
                        · refine c_cond0 (vb (ev_t rfl rfl) (decide_eq_false h47)) ?_
                          refine c_reg ?_
                          refine s_cmpS (r := decide (s = (⟨#[98, 97, 99, 107]⟩ : ByteArray))) (ev_t rfl rfl) ev_c rfl (w0 rfl) ?_
                          refine s_assign (v := .bool (decide (s = (⟨#[98, 97, 99, 107]⟩ : ByteArray)))) (ev_t rfl rfl) (w0 rfl) ?_
                          refine c_done ?_
                          refine n_then ?_
                          by_cases h48 : s = (⟨#[98, 97, 99, 107]⟩ : ByteArray)
                          · refine c_cond1 (vb (ev_t rfl rfl) (decide_eq_true h48)) ?_
                            refine c_seq ?_
                            refine c_reg ?_
                            refine s_assign (v := .bool false) ev_c (w0 rfl) ?_
                            refine c_done ?_
                            refine n_then ?_
                            refine c_ret ?_
                            refine r_block ?_
                            refine r_then ?_
                            refine ret1 (v := .bool false) rfl rfl rfl ?_
                            refine ⟨_, rfl, ?_, (Ext.trans x9 x11)⟩
                            (refine congrArg Value.bool (Eq.symm ?_); first | (simp [nameB, kwB, *]; done) | (simp only [nameB]; rw [wordB_no i (by omega) (by simp [letterB]; omega)]; rfl))
                          · refine c_cond0 (vb (ev_t rfl rfl) (decide_eq_false h48)) ?_
                            refine c_skip ?_
                            refine n_block ?_
                            refine n_then ?_
                            refine c_seq ?_
                            refine c_reg ?_
                            refine s_assign (v := .bool true) ev_c (w0 rfl) ?_
                            refine c_done ?_
                            refine n_then ?_
                            refine c_ret ?_
                            refine ret1 (v := .bool true) rfl rfl rfl ?_
                            refine ⟨_, rfl, ?_, (Ext.trans x9 x11)⟩
                            (refine congrArg Value.bool (Eq.symm ?_); simp only [nameB]; rw [wordB_yes0 (by omega) (by omega) (by omega) (by omega) (by assumption) i13]; simp [kwB, *])
set_option maxHeartbeats 4000000 in
theorem t_name (s : ByteArray) (w : World) (hs : s.size ≤ 140737488351232) :
    Rt Tryd.prog 62 #[.string s] w fun v w' => v = .bool (nameB s) ∧ Ext w w' := by
  refine enter Tryd.func62 rfl (l := [.string s]) rfl Tryd.ntmps62 (Nat.le_of_ble_eq_true rfl) ?_
  refine c_seq ?_
  refine c_reg ?_
  refine s_assign (v := .bool false) ev_c (w0 rfl) ?_
  refine c_done ?_
  refine n_then ?_
  refine c_seq ?_
  refine c_seq ?_
  refine c_reg ?_
  refine s_move (v := .string s) (ev_t rfl rfl) (w0 rfl) ?_
  refine c_done ?_
  refine n_then ?_
  refine c_block ?_
  refine c_seq ?_
  refine c_seq ?_
  refine c_reg ?_
  refine s_cmpS (r := decide (s = (⟨#[110, 111, 116]⟩ : ByteArray))) (ev_t rfl rfl) ev_c rfl (w0 rfl) ?_
  refine s_assign (v := .bool (decide (s = (⟨#[110, 111, 116]⟩ : ByteArray)))) (ev_t rfl rfl) (w0 rfl) ?_
  refine c_done ?_
  refine n_then ?_
  by_cases h1 : s = (⟨#[110, 111, 116]⟩ : ByteArray)
  · refine c_cond1 (vb (ev_t rfl rfl) (decide_eq_true h1)) ?_
    refine c_skip ?_
    refine n_then ?_
    refine c_cond1 (vb (ev_t rfl rfl) (decide_eq_true h1)) ?_
    refine c_seq ?_
    refine c_reg ?_
    refine s_assign (v := .bool false) ev_c (w0 rfl) ?_
    refine c_done ?_
    refine n_then ?_
    refine c_ret ?_
    refine r_block ?_
    refine r_then ?_
    refine ret1 (v := .bool false) rfl rfl rfl ?_
    refine ⟨_, rfl, ?_, (Ext.refl w)⟩
    (simp [nameB, kwB, *])
  · refine c_cond0 (vb (ev_t rfl rfl) (decide_eq_false h1)) ?_
    refine c_seq ?_
    refine c_reg ?_
    refine s_cmpS (r := decide (s = (⟨#[99, 111, 117, 110, 116]⟩ : ByteArray))) (ev_t rfl rfl) ev_c rfl (w0 rfl) ?_
    refine s_assign (v := .bool (decide (s = (⟨#[99, 111, 117, 110, 116]⟩ : ByteArray)))) (ev_t rfl rfl) (w0 rfl) ?_
    refine c_done ?_
    refine n_then ?_
    by_cases h2 : s = (⟨#[99, 111, 117, 110, 116]⟩ : ByteArray)
    · refine c_cond1 (vb (ev_t rfl rfl) (decide_eq_true h2)) ?_
      refine c_skip ?_
      refine n_then ?_
      refine c_cond1 (vb (ev_t rfl rfl) (decide_eq_true h2)) ?_
      refine c_seq ?_
      refine c_reg ?_
      refine s_assign (v := .bool false) ev_c (w0 rfl) ?_
      refine c_done ?_
      refine n_then ?_
      refine c_ret ?_
      refine r_block ?_
      refine r_then ?_
      refine ret1 (v := .bool false) rfl rfl rfl ?_
      refine ⟨_, rfl, ?_, (Ext.refl w)⟩
      (simp [nameB, kwB, *])
    · refine c_cond0 (vb (ev_t rfl rfl) (decide_eq_false h2)) ?_
      refine c_seq ?_
      refine c_reg ?_
      refine s_cmpS (r := decide (s = (⟨#[115, 117, 109]⟩ : ByteArray))) (ev_t rfl rfl) ev_c rfl (w0 rfl) ?_
      refine s_assign (v := .bool (decide (s = (⟨#[115, 117, 109]⟩ : ByteArray)))) (ev_t rfl rfl) (w0 rfl) ?_
      refine c_done ?_
      refine n_then ?_
      by_cases h3 : s = (⟨#[115, 117, 109]⟩ : ByteArray)
      · refine c_cond1 (vb (ev_t rfl rfl) (decide_eq_true h3)) ?_
        refine c_skip ?_
        refine n_then ?_
        refine c_cond1 (vb (ev_t rfl rfl) (decide_eq_true h3)) ?_
        refine c_seq ?_
        refine c_reg ?_
        refine s_assign (v := .bool false) ev_c (w0 rfl) ?_
        refine c_done ?_
        refine n_then ?_
        refine c_ret ?_
        refine r_block ?_
        refine r_then ?_
        refine ret1 (v := .bool false) rfl rfl rfl ?_
        refine ⟨_, rfl, ?_, (Ext.refl w)⟩
        (simp [nameB, kwB, *])
      · refine c_cond0 (vb (ev_t rfl rfl) (decide_eq_false h3)) ?_
        refine c_seq ?_
        refine c_reg ?_
        refine s_cmpS (r := decide (s = (⟨#[109, 105, 110]⟩ : ByteArray))) (ev_t rfl rfl) ev_c rfl (w0 rfl) ?_
        refine s_assign (v := .bool (decide (s = (⟨#[109, 105, 110]⟩ : ByteArray)))) (ev_t rfl rfl) (w0 rfl) ?_
        refine c_done ?_
        refine n_then ?_
        by_cases h4 : s = (⟨#[109, 105, 110]⟩ : ByteArray)
        · refine c_cond1 (vb (ev_t rfl rfl) (decide_eq_true h4)) ?_
          refine c_skip ?_
          refine n_then ?_
          refine c_cond1 (vb (ev_t rfl rfl) (decide_eq_true h4)) ?_
          refine c_seq ?_
          refine c_reg ?_
          refine s_assign (v := .bool false) ev_c (w0 rfl) ?_
          refine c_done ?_
          refine n_then ?_
          refine c_ret ?_
          refine r_block ?_
          refine r_then ?_
          refine ret1 (v := .bool false) rfl rfl rfl ?_
          refine ⟨_, rfl, ?_, (Ext.refl w)⟩
          (simp [nameB, kwB, *])
        · refine c_cond0 (vb (ev_t rfl rfl) (decide_eq_false h4)) ?_
          refine c_seq ?_
          refine c_reg ?_
          refine s_cmpS (r := decide (s = (⟨#[109, 97, 120]⟩ : ByteArray))) (ev_t rfl rfl) ev_c rfl (w0 rfl) ?_
          refine s_assign (v := .bool (decide (s = (⟨#[109, 97, 120]⟩ : ByteArray)))) (ev_t rfl rfl) (w0 rfl) ?_
          refine c_done ?_
          refine n_then ?_
          by_cases h5 : s = (⟨#[109, 97, 120]⟩ : ByteArray)
          · refine c_cond1 (vb (ev_t rfl rfl) (decide_eq_true h5)) ?_
            refine c_skip ?_
            refine n_then ?_
            refine c_cond1 (vb (ev_t rfl rfl) (decide_eq_true h5)) ?_
            refine c_seq ?_
            refine c_reg ?_
            refine s_assign (v := .bool false) ev_c (w0 rfl) ?_
            refine c_done ?_
            refine n_then ?_
            refine c_ret ?_
            refine r_block ?_
            refine r_then ?_
            refine ret1 (v := .bool false) rfl rfl rfl ?_
            refine ⟨_, rfl, ?_, (Ext.refl w)⟩
            (simp [nameB, kwB, *])
          · refine c_cond0 (vb (ev_t rfl rfl) (decide_eq_false h5)) ?_
            refine c_seq ?_
            refine c_reg ?_
            refine s_cmpS (r := decide (s = (⟨#[108, 101, 110]⟩ : ByteArray))) (ev_t rfl rfl) ev_c rfl (w0 rfl) ?_
            refine s_assign (v := .bool (decide (s = (⟨#[108, 101, 110]⟩ : ByteArray)))) (ev_t rfl rfl) (w0 rfl) ?_
            refine c_done ?_
            refine n_then ?_
            by_cases h6 : s = (⟨#[108, 101, 110]⟩ : ByteArray)
            · refine c_cond1 (vb (ev_t rfl rfl) (decide_eq_true h6)) ?_
              refine c_skip ?_
              refine n_then ?_
              refine c_cond1 (vb (ev_t rfl rfl) (decide_eq_true h6)) ?_
              refine c_seq ?_
              refine c_reg ?_
              refine s_assign (v := .bool false) ev_c (w0 rfl) ?_
              refine c_done ?_
              refine n_then ?_
              refine c_ret ?_
              refine r_block ?_
              refine r_then ?_
              refine ret1 (v := .bool false) rfl rfl rfl ?_
              refine ⟨_, rfl, ?_, (Ext.refl w)⟩
              (simp [nameB, kwB, *])
            · refine c_cond0 (vb (ev_t rfl rfl) (decide_eq_false h6)) ?_
              refine c_seq ?_
              refine c_reg ?_
              refine s_cmpS (r := decide (s = (⟨#[99, 104, 97, 114, 115]⟩ : ByteArray))) (ev_t rfl rfl) ev_c rfl (w0 rfl) ?_
              refine s_assign (v := .bool (decide (s = (⟨#[99, 104, 97, 114, 115]⟩ : ByteArray)))) (ev_t rfl rfl) (w0 rfl) ?_
              refine c_done ?_
              refine n_then ?_
              by_cases h7 : s = (⟨#[99, 104, 97, 114, 115]⟩ : ByteArray)
              · refine c_cond1 (vb (ev_t rfl rfl) (decide_eq_true h7)) ?_
                refine c_skip ?_
                refine n_then ?_
                refine c_cond1 (vb (ev_t rfl rfl) (decide_eq_true h7)) ?_
                refine c_seq ?_
                refine c_reg ?_
                refine s_assign (v := .bool false) ev_c (w0 rfl) ?_
                refine c_done ?_
                refine n_then ?_
                refine c_ret ?_
                refine r_block ?_
                refine r_then ?_
                refine ret1 (v := .bool false) rfl rfl rfl ?_
                refine ⟨_, rfl, ?_, (Ext.refl w)⟩
                (simp [nameB, kwB, *])
              · refine c_cond0 (vb (ev_t rfl rfl) (decide_eq_false h7)) ?_
                refine c_reg ?_
                refine s_cmpS (r := decide (s = (⟨#[98, 97, 99, 107]⟩ : ByteArray))) (ev_t rfl rfl) ev_c rfl (w0 rfl) ?_
                refine s_assign (v := .bool (decide (s = (⟨#[98, 97, 99, 107]⟩ : ByteArray)))) (ev_t rfl rfl) (w0 rfl) ?_
                refine c_done ?_
                refine n_then ?_
                by_cases h8 : s = (⟨#[98, 97, 99, 107]⟩ : ByteArray)
                · refine c_cond1 (vb (ev_t rfl rfl) (decide_eq_true h8)) ?_
                  refine c_seq ?_
                  refine c_reg ?_
                  refine s_assign (v := .bool false) ev_c (w0 rfl) ?_
                  refine c_done ?_
                  refine n_then ?_
                  refine c_ret ?_
                  refine r_block ?_
                  refine r_then ?_
                  refine ret1 (v := .bool false) rfl rfl rfl ?_
                  refine ⟨_, rfl, ?_, (Ext.refl w)⟩
                  (simp [nameB, kwB, *])
                · refine c_cond0 (vb (ev_t rfl rfl) (decide_eq_false h8)) ?_
                  refine c_skip ?_
                  refine n_block ?_
                  refine n_then ?_
                  refine c_seq ?_
                  refine c_reg ?_
                  refine s_move (v := .string s) (ev_t rfl rfl) (w0 rfl) ?_
                  refine s_call F_e89 (w0 rfl) ev_f (m3 (ev_t rfl rfl) ev_c ev_c) (args := #[.string s, .int .u8 97, .int .u8 122]) rfl (t_word s 97 122 _ (by omega)) ?_
                  rintro _ w10 ⟨rfl, x9⟩
                  refine s_assign (v := .bool (wordB s 97 122)) (ev_t rfl rfl) (w0 rfl) ?_
                  refine c_done ?_
                  refine n_then ?_
                  refine c_ret ?_
                  refine ret1 (v := .bool (wordB s 97 122)) rfl rfl rfl ?_
                  refine ⟨_, rfl, ?_, x9⟩
                  (simp [nameB, kwB, *])
set_option maxHeartbeats 4000000 in
theorem t_CheckTerm (x : Tm) (w : World) (hx : x.wf) :
    Rt Tryd.prog 84 #[.agg #[.string x.v, .int .i8 x.l.k, .int .i64 x.l.n, .string x.l.s]] w fun v w' => v = .int .i64 (code (tmB x)) ∧ Ext w w' := by
  refine enter Tryd.func84 rfl (l := [.agg #[.string x.v, .int .i8 x.l.k, .int .i64 x.l.n, .string x.l.s]]) rfl Tryd.ntmps84 (Nat.le_of_ble_eq_true rfl) ?_
  refine c_seq ?_
  refine c_reg ?_
  refine s_box (v := .agg #[.string x.v, .int .i8 x.l.k, .int .i64 x.l.n, .string x.l.s]) (cs := #[.string x.v, .int .i8 x.l.k, .int .i64 x.l.n, .string x.l.s]) (w0 rfl) (ev_t rfl rfl) rfl ?_
  intro w2 g1 n3
  refine s_assign (v := .int .i64 0) ev_c (w0 rfl) ?_
  refine c_done ?_
  refine n_then ?_
  refine c_seq ?_
  refine c_seq ?_
  refine c_reg ?_
  refine s_field (off := 0) (o' := 0) F_f28_0 (ev_t rfl rfl) rfl (w0 rfl) ?_
  refine s_load (v := .string x.v) F_o9 (ev_t rfl rfl) (cell_of_blk (i := 0) (NewB.blk n3) rfl) (w0 rfl) ?_
  refine s_cmpS (r := decide (x.v = (⟨#[]⟩ : ByteArray))) (ev_t rfl rfl) ev_c rfl (w0 rfl) ?_
  refine c_done ?_
  refine n_then ?_
  by_cases h4 : x.v = (⟨#[]⟩ : ByteArray)
  · refine c_cond1 (vb (ev_t rfl rfl) (decide_eq_true h4)) ?_
    refine c_seq ?_
    refine c_reg ?_
    refine s_field (off := 1) (o' := 1) F_f28_1 (ev_t rfl rfl) rfl (w0 rfl) ?_
    refine s_loadL (cs := [.int .i8 x.l.k, .int .i64 x.l.n, .string x.l.s]) (ca := #[.int .i8 x.l.k, .int .i64 x.l.n, .string x.l.s]) F_m26 (ev_t rfl rfl) rfl rfl (blk_cells (NewB.blk n3) 1 (cs := [.int .i8 x.l.k, .int .i64 x.l.n, .string x.l.s]) rfl) (w0 rfl) ?_
    refine s_call F_e70 (w0 rfl) ev_f (m1 (ev_t rfl rfl)) (args := #[.agg #[.int .i8 x.l.k, .int .i64 x.l.n, .string x.l.s]]) rfl (v_Check x.l _) ?_
    rintro _ w6 ⟨rfl, x5⟩
    refine s_cmp (r := okV x.l) (ev_t rfl rfl) ev_c (ci_t (b := (okV x.l)) (by decide)) (w0 rfl) ?_
    refine s_call F_e50 (w0 rfl) ev_f (m1 (ev_t rfl rfl)) (args := #[.bool (okV x.l)]) rfl (t_code (okV x.l) _) ?_
    rintro _ w8 ⟨rfl, x7⟩
    refine s_assign (v := .int .i64 (code (okV x.l))) (ev_t rfl rfl) (w0 rfl) ?_
    refine c_done ?_
    refine n_then ?_
    refine c_ret ?_
    refine r_then ?_
    refine ret1 (v := .int .i64 (code (okV x.l))) rfl rfl rfl ?_
    refine ⟨_, rfl, ?_, (Ext.trans (Ext.trans (NewB.ext n3) x5) x7)⟩
    (refine congrArg (Value.int .i64) (congrArg code ?_); first | (simp [tmB, *]; done) | (simp [tmB, varB, *]; done) | (simp [tmB, varB, *]; (repeat' split) <;> simp_all [varB]; done))
  · refine c_cond0 (vb (ev_t rfl rfl) (decide_eq_false h4)) ?_
    refine c_skip ?_
    refine n_then ?_
    refine c_seq ?_
    refine c_reg ?_
    refine s_field (off := 1) (o' := 1) F_f28_1 (ev_t rfl rfl) rfl (w0 rfl) ?_
    refine s_loadL (cs := [.int .i8 x.l.k, .int .i64 x.l.n, .string x.l.s]) (ca := #[.int .i8 x.l.k, .int .i64 x.l.n, .string x.l.s]) F_m26 (ev_t rfl rfl) rfl rfl (blk_cells (NewB.blk n3) 1 (cs := [.int .i8 x.l.k, .int .i64 x.l.n, .string x.l.s]) rfl) (w0 rfl) ?_
    refine s_build (v := .agg #[.int .i8 0, .int .i64 0, .string (⟨#[]⟩ : ByteArray)]) (vs := []) b0 (bd26) (w0 rfl) ?_
    refine s_cmpG (r := zV x.l) (ev_t rfl rfl) (ev_t rfl rfl) ((fun w_ => eqzV26eql x.l _ _ w_)) (w0 rfl) ?_
    rcases Bool.eq_false_or_eq_true (zV x.l) with h9 | h9
    · refine s_move (v := .bool true) (vb (ev_t rfl rfl) h9) (w0 rfl) ?_
      refine s_field (off := 0) (o' := 0) F_f28_0 (ev_t rfl rfl) rfl (wy rfl rfl rfl rfl) ?_
      refine s_load (v := .string x.v) F_o9 (ev_t rfl rfl) (cell_of_blk (i := 0) (NewB.blk n3) rfl) (wy rfl rfl rfl rfl) ?_
      refine s_cmpS (r := decide (x.v = (⟨#[95]⟩ : ByteArray))) (ev_t rfl rfl) ev_c rfl (wy rfl rfl rfl rfl) ?_
      by_cases h10 : x.v = (⟨#[95]⟩ : ByteArray)
      · refine s_move (v := .bool true) (vb (ev_t rfl rfl) (decide_eq_true h10)) (wy rfl rfl rfl rfl) ?_
        refine s_skip (wn rfl rfl rfl rfl rfl) ?_
        refine s_skip (wn rfl rfl rfl rfl rfl) ?_
        refine s_skip (wn rfl rfl rfl rfl rfl) ?_
        refine s_pick1 (v := .bool true) (ev_t rfl rfl) ev_c (wy rfl rfl rfl rfl) ?_
        refine s_pick1 (v := .bool true) (ev_t rfl rfl) (ev_t rfl rfl) (w0 rfl) ?_
        refine s_call F_e50 (w0 rfl) ev_f (m1 (ev_t rfl rfl)) (args := #[.bool true]) rfl (t_code true _) ?_
        rintro _ w12 ⟨rfl, x11⟩
        refine s_assign (v := .int .i64 (code true)) (ev_t rfl rfl) (w0 rfl) ?_
        refine c_done ?_
        refine n_then ?_
        refine c_ret ?_
        refine ret1 (v := .int .i64 (code true)) rfl rfl rfl ?_
        refine ⟨_, rfl, ?_, (Ext.trans (NewB.ext n3) x11)⟩
        (refine congrArg (Value.int .i64) (congrArg code ?_); first | (simp [tmB, *]; done) | (simp [tmB, varB, *]; done) | (simp [tmB, varB, *]; (repeat' split) <;> simp_all [varB]; done))
      · refine s_move (v := .bool false) (vb (ev_t rfl rfl) (decide_eq_false h10)) (wy rfl rfl rfl rfl) ?_
        refine s_field (off := 0) (o' := 0) F_f28_0 (ev_t rfl rfl) rfl (wy rfl rfl rfl rfl) ?_
        refine s_load (v := .string x.v) F_o9 (ev_t rfl rfl) (cell_of_blk (i := 0) (NewB.blk n3) rfl) (wy rfl rfl rfl rfl) ?_
        refine s_call F_e89 (wy rfl rfl rfl rfl) ev_f (m3 (ev_t rfl rfl) ev_c ev_c) (args := #[.string x.v, .int .u8 65, .int .u8 90]) rfl (t_word x.v 65 90 _ (Tm.wf.v hx)) ?_
        rintro _ w14 ⟨rfl, x13⟩
        refine s_pick0 (v := .bool (wordB x.v 65 90)) (ev_t rfl rfl) (ev_t rfl rfl) (wy rfl rfl rfl rfl) ?_
        refine s_pick1 (v := .bool (wordB x.v 65 90)) (ev_t rfl rfl) (ev_t rfl rfl) (w0 rfl) ?_
        refine s_call F_e50 (w0 rfl) ev_f (m1 (ev_t rfl rfl)) (args := #[.bool (wordB x.v 65 90)]) rfl (t_code (wordB x.v 65 90) _) ?_
        rintro _ w16 ⟨rfl, x15⟩
        refine s_assign (v := .int .i64 (code (wordB x.v 65 90))) (ev_t rfl rfl) (w0 rfl) ?_
        refine c_done ?_
        refine n_then ?_
        refine c_ret ?_
        refine ret1 (v := .int .i64 (code (wordB x.v 65 90))) rfl rfl rfl ?_
        refine ⟨_, rfl, ?_, (Ext.trans (Ext.trans (NewB.ext n3) x13) x15)⟩
        (refine congrArg (Value.int .i64) (congrArg code ?_); first | (simp [tmB, *]; done) | (simp [tmB, varB, *]; done) | (simp [tmB, varB, *]; (repeat' split) <;> simp_all [varB]; done))
    · refine s_move (v := .bool false) (vb (ev_t rfl rfl) h9) (w0 rfl) ?_
      refine s_skip (wn rfl rfl rfl rfl rfl) ?_
      refine s_skip (wn rfl rfl rfl rfl rfl) ?_
      refine s_skip (wn rfl rfl rfl rfl rfl) ?_
      refine s_skip (wn rfl rfl rfl rfl rfl) ?_
      refine s_skip (wu rfl rfl rfl rfl) ?_
      refine s_skip (wu rfl rfl rfl rfl) ?_
      refine s_skip (wu rfl rfl rfl rfl) ?_
      refine s_skip (wn rfl rfl rfl rfl rfl) ?_
      refine s_pick0 (v := .bool false) (ev_t rfl rfl) ev_c (w0 rfl) ?_
      refine s_call F_e50 (w0 rfl) ev_f (m1 (ev_t rfl rfl)) (args := #[.bool false]) rfl (t_code false _) ?_
      rintro _ w18 ⟨rfl, x17⟩
      refine s_assign (v := .int .i64 (code false)) (ev_t rfl rfl) (w0 rfl) ?_
      refine c_done ?_
      refine n_then ?_
      refine c_ret ?_
      refine ret1 (v := .int .i64 (code false)) rfl rfl rfl ?_
      refine ⟨_, rfl, ?_, (Ext.trans (NewB.ext n3) x17)⟩
      (refine congrArg (Value.int .i64) (congrArg code ?_); first | (simp [tmB, *]; done) | (simp [tmB, varB, *]; done) | (simp [tmB, varB, *]; (repeat' split) <;> simp_all [varB]; done))
set_option maxHeartbeats 4000000 in
theorem t_solid (x : Tm) (w : World) (hx : x.wf) :
    Rt Tryd.prog 77 #[.agg #[.string x.v, .int .i8 x.l.k, .int .i64 x.l.n, .string x.l.s]] w fun v w' => v = .bool (!decide (x.v = ⟨#[95]⟩) && tmB x) ∧ Ext w w' := by
  refine enter Tryd.func77 rfl (l := [.agg #[.string x.v, .int .i8 x.l.k, .int .i64 x.l.n, .string x.l.s]]) rfl Tryd.ntmps77 (Nat.le_of_ble_eq_true rfl) ?_
  refine c_seq ?_
  refine c_reg ?_
  refine s_box (v := .agg #[.string x.v, .int .i8 x.l.k, .int .i64 x.l.n, .string x.l.s]) (cs := #[.string x.v, .int .i8 x.l.k, .int .i64 x.l.n, .string x.l.s]) (w0 rfl) (ev_t rfl rfl) rfl ?_
  intro w2 g1 n3
  refine s_assign (v := .bool false) ev_c (w0 rfl) ?_
  refine c_done ?_
  refine n_then ?_
  refine c_seq ?_
  refine c_reg ?_
  refine s_field (off := 0) (o' := 0) F_f28_0 (ev_t rfl rfl) rfl (w0 rfl) ?_
  refine s_load (v := .string x.v) F_o9 (ev_t rfl rfl) (cell_of_blk (i := 0) (NewB.blk n3) rfl) (w0 rfl) ?_
  refine s_cmpS (r := !decide (x.v = (⟨#[95]⟩ : ByteArray))) (ev_t rfl rfl) ev_c rfl (w0 rfl) ?_
  by_cases h4 : x.v = (⟨#[95]⟩ : ByteArray)
  · refine s_move (v := .bool false) (vb (ev_t rfl rfl) (nb0 h4)) (w0 rfl) ?_
    refine s_skip (wn rfl rfl rfl rfl rfl) ?_
    refine s_skip (wn rfl rfl rfl rfl rfl) ?_
    refine s_skip (wn rfl rfl rfl rfl rfl) ?_
    refine s_pick0 (v := .bool false) (ev_t rfl rfl) ev_c (w0 rfl) ?_
    refine s_assign (v := .bool false) (ev_t rfl rfl) (w0 rfl) ?_
    refine c_done ?_
    refine n_then ?_
    refine c_ret ?_
    refine ret1 (v := .bool false) rfl rfl rfl ?_
    refine ⟨_, rfl, ?_, (NewB.ext n3)⟩
    (simp [*])
  · refine s_move (v := .bool true) (vb (ev_t rfl rfl) (nb1 h4)) (w0 rfl) ?_
    refine s_loadL (cs := [.string x.v, .int .i8 x.l.k, .int .i64 x.l.n, .string x.l.s]) (ca := #[.string x.v, .int .i8 x.l.k, .int .i64 x.l.n, .string x.l.s]) F_m28 (ev_t rfl rfl) rfl rfl (blk_cells (NewB.blk n3) 0 (cs := [.string x.v, .int .i8 x.l.k, .int .i64 x.l.n, .string x.l.s]) rfl) (wy rfl rfl rfl rfl) ?_
    refine s_call F_e84 (wy rfl rfl rfl rfl) ev_f (m1 (ev_t rfl rfl)) (args := #[.agg #[.string x.v, .int .i8 x.l.k, .int .i64 x.l.n, .string x.l.s]]) rfl (t_CheckTerm x _ hx) ?_
    rintro _ w6 ⟨rfl, x5⟩
    refine s_cmp (r := tmB x) (ev_t rfl rfl) ev_c (ci_t (b := (tmB x)) (by decide)) (wy rfl rfl rfl rfl) ?_
    refine s_pick1 (v := .bool (tmB x)) (ev_t rfl rfl) (ev_t rfl rfl) (w0 rfl) ?_
    refine s_assign (v := .bool (tmB x)) (ev_t rfl rfl) (w0 rfl) ?_
    refine c_done ?_
    refine n_then ?_
    refine c_ret ?_
    refine ret1 (v := .bool (tmB x)) rfl rfl rfl ?_
    refine ⟨_, rfl, ?_, (Ext.trans (NewB.ext n3) x5)⟩
    (simp [*])
end Go.Proofs.Dw
