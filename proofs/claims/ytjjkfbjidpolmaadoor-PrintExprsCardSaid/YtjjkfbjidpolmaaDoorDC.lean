/- YtjjkfbjidpolmaaDoorDC: part of the proof of this seat, by an AI agent: walks of the functions that the law reaches. No condition of its own but those that its theorems state. -/
import Derived.Test.YtjjkfbjidpolmaaDoorDB
set_option linter.unusedVariables false
set_option linter.unusedSimpArgs false
set_option maxRecDepth 10000
namespace Go.Proofs.Dw
open Go Go.Wk Go.Proofs Go.Lib
attribute [local irreducible] Go.wpList Go.wpStill Go.wpQuiet Go.Code.wp Go.Calls
theorem F_e44 : enterable Tryd.prog 44 = true := by kernel_rfl
theorem F_e74 : enterable Tryd.prog 74 = true := by kernel_rfl
theorem F_e75 : enterable Tryd.prog 75 = true := by kernel_rfl
theorem F_f31_1 : fieldAt Tryd.prog 31 1 1 = true := by kernel_rfl
theorem F_f31_2 : fieldAt Tryd.prog 31 2 5 = true := by kernel_rfl
theorem F_l29 : sliceT Tryd.prog 29 6 = true := by kernel_rfl
theorem F_m28 : many Tryd.prog 28 4 = true := by kernel_rfl
theorem F_m31 : many Tryd.prog 31 6 = true := by kernel_rfl
theorem F_o29 : one Tryd.prog 29 = true := by kernel_rfl
theorem F_sz28 : (Tryd.prog.info? 28).map (·.size) = some 4 := by kernel_rfl
theorem F_z28 : (Tryd.prog.info? 28).bind (·.zero) = some (.agg #[.string (⟨#[]⟩ : ByteArray), .int .i8 0, .int .i64 0, .string (⟨#[]⟩ : ByteArray)]) := by kernel_rfl
theorem bd28 : ∀ w : World, (Instr.build 28 [].toArray).run Tryd.prog w = .ok (.agg #[.string (⟨#[]⟩ : ByteArray), .int .i8 0, .int .i64 0, .string (⟨#[]⟩ : ByteArray)]) w := by
  intros
  kernel_rfl
theorem eqzT28neq (x : Tm) (a b : Operand) (w : World) : (do eqGuard .neq 28 a b (.agg #[.string x.v, .int .i8 x.l.k, .int .i64 x.l.n, .string x.l.s]) (.agg #[.string ⟨#[]⟩, .int .i8 0, .int .i64 0, .string ⟨#[]⟩]); binOp .neq 28 (.agg #[.string x.v, .int .i8 x.l.k, .int .i64 x.l.n, .string x.l.s]) (.agg #[.string ⟨#[]⟩, .int .i8 0, .int .i64 0, .string ⟨#[]⟩]) : Sem Value).run Tryd.prog w = .ok (.bool (!(zT x))) w := by
  have hu := Tryd.underlying28
  go_simp
  simp only [toList_nil_iff]
  (first | (by_cases h0 : x.v = (⟨#[]⟩ : ByteArray)) | skip) <;> (first | (by_cases h1 : x.k = 0 <;> by_cases h2 : x.n = 0 <;> by_cases h3 : x.s = (⟨#[]⟩ : ByteArray)) | (by_cases h1 : x.l.k = 0 <;> by_cases h2 : x.l.n = 0 <;> by_cases h3 : x.l.s = (⟨#[]⟩ : ByteArray))) <;> simp [zV, zT, *]
set_option maxHeartbeats 4000000 in
theorem r4_expr_step (d : Nat) (x : Ex) (A : Option Addr) (c : Nat) (w : World) (ho : x.okc c) (hr : Row RE 6 w A x.kids) (hd : d ≤ 100) (ih : d ≠ 0 → ∀ (x : Ex) (A : Option Addr) (c : Nat) (w : World), x.okc c → Row RE 6 w A x.kids → Rt Tryd.prog 44 #[.agg #[.int .i8 x.op, .string x.t.v, .int .i8 x.t.l.k, .int .i64 x.t.l.n, .string x.t.l.s, .slice A x.kids.length c], .int .i64 ((d - 1 : Nat) : Int)] w fun v w' => v = .bool (exB (d - 1) x) ∧ Ext w w') :
    Rt Tryd.prog 44 #[.agg #[.int .i8 x.op, .string x.t.v, .int .i8 x.t.l.k, .int .i64 x.t.l.n, .string x.t.l.s, .slice A x.kids.length c], .int .i64 ((d : Nat) : Int)] w fun v w' => v = .bool (exB d x) ∧ Ext w w' := by
  refine enter Tryd.func44 rfl (l := [.agg #[.int .i8 x.op, .string x.t.v, .int .i8 x.t.l.k, .int .i64 x.t.l.n, .string x.t.l.s, .slice A x.kids.length c], .int .i64 ((d : Nat) : Int)]) rfl Tryd.ntmps44 (Nat.le_of_ble_eq_true rfl) ?_
  have hl_ := Ex.okc.l ho
  have hc_ := Ex.okc.c ho
  refine c_seq ?_
  refine c_reg ?_
  refine s_box (v := .agg #[.int .i8 x.op, .string x.t.v, .int .i8 x.t.l.k, .int .i64 x.t.l.n, .string x.t.l.s, .slice A x.kids.length c]) (cs := #[.int .i8 x.op, .string x.t.v, .int .i8 x.t.l.k, .int .i64 x.t.l.n, .string x.t.l.s, .slice A x.kids.length c]) (w0 rfl) (ev_t rfl rfl) rfl ?_
  intro w2 g1 n3
  refine s_assign (v := .bool false) ev_c (w0 rfl) ?_
  refine c_done ?_
  refine n_then ?_
  refine c_seq ?_
  refine c_seq ?_
  refine c_reg ?_
  refine s_move (v := .int .i64 ((d : Nat) : Int)) (ev_t rfl rfl) (w0 rfl) ?_
  refine s_cmp (r := decide (((d : Nat) : Int) = 0)) (ev_t rfl rfl) ev_c rfl (w0 rfl) ?_
  refine c_done ?_
  refine n_then ?_
  by_cases h4 : ((d : Nat) : Int) = 0
  · refine c_cond1 (vb (ev_t rfl rfl) (decide_eq_true h4)) ?_
    refine c_seq ?_
    refine c_reg ?_
    refine s_assign (v := .bool false) ev_c (w0 rfl) ?_
    refine c_done ?_
    refine n_then ?_
    refine c_ret ?_
    refine r_then ?_
    refine ret1 (v := .bool false) rfl rfl rfl ?_
    refine ⟨_, rfl, ?_, (NewB.ext n3)⟩
    (first | (have z_ : d = 0 := by omega); subst z_; rfl | (refine congrArg Value.bool ?_; rw [exB_pos (by omega)]; simp only [*, decide_true, decide_false, if_true, if_false, Bool.and_true, Bool.true_and, Bool.false_and, Bool.and_false, Bool.not_true, Bool.not_false, Bool.false_eq_true, reduceIte, not_true_eq_false, not_false_eq_true]))
  · refine c_cond0 (vb (ev_t rfl rfl) (decide_eq_false h4)) ?_
    refine c_skip ?_
    refine n_then ?_
    refine c_seq ?_
    refine c_seq ?_
    refine c_reg ?_
    refine s_field (off := 0) (o' := 0) F_f31_0 (ev_t rfl rfl) rfl (w0 rfl) ?_
    refine s_load (v := .int .i8 x.op) F_o23 (ev_t rfl rfl) (cell_of_blk (i := 0) (NewB.blk n3) rfl) (w0 rfl) ?_
    refine s_cmp (r := decide (x.op = 0)) (ev_t rfl rfl) ev_c rfl (w0 rfl) ?_
    refine c_done ?_
    refine n_then ?_
    by_cases h5 : x.op = 0
    · refine c_cond1 (vb (ev_t rfl rfl) (decide_eq_true h5)) ?_
      refine c_seq ?_
      refine c_reg ?_
      refine s_field (off := 5) (o' := 5) F_f31_2 (ev_t rfl rfl) rfl (w0 rfl) ?_
      refine s_load (v := .slice A x.kids.length c) F_o29 (ev_t rfl rfl) (cell_of_blk (i := 5) (NewB.blk n3) rfl) (w0 rfl) ?_
      refine s_lenL F_l29 (ev_t rfl rfl) (w0 rfl) ?_
      refine s_cmp (r := decide ((x.kids.length : Int) = 0)) (ev_t rfl rfl) ev_c rfl (w0 rfl) ?_
      by_cases h6 : (x.kids.length : Int) = 0
      · refine s_move (v := .bool true) (vb (ev_t rfl rfl) (decide_eq_true h6)) (w0 rfl) ?_
        refine s_field (off := 1) (o' := 1) F_f31_1 (ev_t rfl rfl) rfl (wy rfl rfl rfl rfl) ?_
        refine s_field (off := 0) (o' := 1) F_f28_0 (ev_t rfl rfl) rfl (wy rfl rfl rfl rfl) ?_
        refine s_load (v := .string x.t.v) F_o9 (ev_t rfl rfl) (cell_of_blk (i := 1) (NewB.blk n3) rfl) (wy rfl rfl rfl rfl) ?_
        refine s_cmpS (r := !decide (x.t.v = (⟨#[95]⟩ : ByteArray))) (ev_t rfl rfl) ev_c rfl (wy rfl rfl rfl rfl) ?_
        refine s_pick1 (v := .bool (!decide (x.t.v = (⟨#[95]⟩ : ByteArray)))) (ev_t rfl rfl) (ev_t rfl rfl) (w0 rfl) ?_
        by_cases h7 : x.t.v = (⟨#[95]⟩ : ByteArray)
        · refine s_move (v := .bool false) (vb (ev_t rfl rfl) (nb0 h7)) (w0 rfl) ?_
          refine s_skip (wn rfl rfl rfl rfl rfl) ?_
          refine s_skip (wn rfl rfl rfl rfl rfl) ?_
          refine s_skip (wn rfl rfl rfl rfl rfl) ?_
          refine s_pick0 (v := .bool false) (ev_t rfl rfl) ev_c (w0 rfl) ?_
          refine s_assign (v := .bool false) (ev_t rfl rfl) (w0 rfl) ?_
          refine c_done ?_
          refine n_then ?_
          refine c_ret ?_
          refine r_then ?_
          refine ret1 (v := .bool false) rfl rfl rfl ?_
          refine ⟨_, rfl, ?_, (NewB.ext n3)⟩
          (first | (have z_ : d = 0 := by omega); subst z_; rfl | (refine congrArg Value.bool ?_; rw [exB_pos (by omega)]; simp only [*, decide_true, decide_false, if_true, if_false, Bool.and_true, Bool.true_and, Bool.false_and, Bool.and_false, Bool.not_true, Bool.not_false, Bool.false_eq_true, reduceIte, not_true_eq_false, not_false_eq_true]))
        · refine s_move (v := .bool true) (vb (ev_t rfl rfl) (nb1 h7)) (w0 rfl) ?_
          refine s_field (off := 1) (o' := 1) F_f31_1 (ev_t rfl rfl) rfl (wy rfl rfl rfl rfl) ?_
          refine s_loadL (cs := [.string x.t.v, .int .i8 x.t.l.k, .int .i64 x.t.l.n, .string x.t.l.s]) (ca := #[.string x.t.v, .int .i8 x.t.l.k, .int .i64 x.t.l.n, .string x.t.l.s]) F_m28 (ev_t rfl rfl) rfl rfl (blk_cells (NewB.blk n3) 1 (cs := [.string x.t.v, .int .i8 x.t.l.k, .int .i64 x.t.l.n, .string x.t.l.s]) rfl) (wy rfl rfl rfl rfl) ?_
          refine s_call F_e74 (wy rfl rfl rfl rfl) ev_f (m1 (ev_t rfl rfl)) (args := #[.agg #[.string x.t.v, .int .i8 x.t.l.k, .int .i64 x.t.l.n, .string x.t.l.s]]) rfl (r4_term x.t _ (Ex.okc.t ho)) ?_
          rintro _ w9 ⟨rfl, x8⟩
          refine s_pick1 (v := .bool (tmB x.t)) (ev_t rfl rfl) (ev_t rfl rfl) (w0 rfl) ?_
          refine s_assign (v := .bool (tmB x.t)) (ev_t rfl rfl) (w0 rfl) ?_
          refine c_done ?_
          refine n_then ?_
          refine c_ret ?_
          refine r_then ?_
          refine ret1 (v := .bool (tmB x.t)) rfl rfl rfl ?_
          refine ⟨_, rfl, ?_, (Ext.trans (NewB.ext n3) x8)⟩
          (first | (have z_ : d = 0 := by omega); subst z_; rfl | (refine congrArg Value.bool ?_; rw [exB_pos (by omega)]; simp only [*, decide_true, decide_false, if_true, if_false, Bool.and_true, Bool.true_and, Bool.false_and, Bool.and_false, Bool.not_true, Bool.not_false, Bool.false_eq_true, reduceIte, not_true_eq_false, not_false_eq_true]))
      · refine s_move (v := .bool false) (vb (ev_t rfl rfl) (decide_eq_false h6)) (w0 rfl) ?_
        refine s_skip (wn rfl rfl rfl rfl rfl) ?_
        refine s_skip (wn rfl rfl rfl rfl rfl) ?_
        refine s_skip (wn rfl rfl rfl rfl rfl) ?_
        refine s_skip (wn rfl rfl rfl rfl rfl) ?_
        refine s_pick0 (v := .bool false) (ev_t rfl rfl) ev_c (w0 rfl) ?_
        refine s_move (v := .bool false) (ev_t rfl rfl) (w0 rfl) ?_
        refine s_skip (wn rfl rfl rfl rfl rfl) ?_
        refine s_skip (wn rfl rfl rfl rfl rfl) ?_
        refine s_skip (wn rfl rfl rfl rfl rfl) ?_
        refine s_pick0 (v := .bool false) (ev_t rfl rfl) ev_c (w0 rfl) ?_
        refine s_assign (v := .bool false) (ev_t rfl rfl) (w0 rfl) ?_
        refine c_done ?_
        refine n_then ?_
        refine c_ret ?_
        refine r_then ?_
        refine ret1 (v := .bool false) rfl rfl rfl ?_
        refine ⟨_, rfl, ?_, (NewB.ext n3)⟩
        (first | (have z_ : d = 0 := by omega); subst z_; rfl | (refine congrArg Value.bool ?_; rw [exB_pos (by omega)]; simp only [*, decide_true, decide_false, if_true, if_false, Bool.and_true, Bool.true_and, Bool.false_and, Bool.and_false, Bool.not_true, Bool.not_false, Bool.false_eq_true, reduceIte, not_true_eq_false, not_false_eq_true]))
    · refine c_cond0 (vb (ev_t rfl rfl) (decide_eq_false h5)) ?_
      refine c_skip ?_
      refine n_then ?_
      refine c_seq ?_
      refine c_reg ?_
      refine s_build (v := .agg #[.string (⟨#[]⟩ : ByteArray), .int .i8 0, .int .i64 0, .string (⟨#[]⟩ : ByteArray)]) (vs := []) b0 (bd28) (w0 rfl) ?_
      refine s_alloc (cs := #[.string (⟨#[]⟩ : ByteArray), .int .i8 0, .int .i64 0, .string (⟨#[]⟩ : ByteArray)]) (w0 rfl) F_z28 rfl ?_
      intro w11 g10 n12
      refine s_store (cs' := #[.string (⟨#[]⟩ : ByteArray), .int .i8 0, .int .i64 0, .string (⟨#[]⟩ : ByteArray)]) F_sz28 (ev_t rfl rfl) (ev_t rfl rfl) (l := [.string (⟨#[]⟩ : ByteArray), .int .i8 0, .int .i64 0, .string (⟨#[]⟩ : ByteArray)]) rfl rfl rfl (NewB.blk n12) (Nat.le_of_ble_eq_true rfl) rfl (w0 rfl) ?_
      intro w13 k14
      refine c_done ?_
      refine n_then ?_
      refine c_seq ?_
      refine c_seq ?_
      refine c_quiet mixed (by kernel_rfl) ?_
      refine q_val (v := .pointer (some ⟨g1, 1, none⟩)) (w0 rfl) (fun w_ c_ => r_field (off := 1) (o' := 1) F_f31_1 (ev_t rfl rfl) rfl) ?_
      refine q_val (v := .agg #[.string x.t.v, .int .i8 x.t.l.k, .int .i64 x.t.l.n, .string x.t.l.s]) (w0 rfl) (fun w_ c_ => r_loadL (cs := [.string x.t.v, .int .i8 x.t.l.k, .int .i64 x.t.l.n, .string x.t.l.s]) (ca := #[.string x.t.v, .int .i8 x.t.l.k, .int .i64 x.t.l.n, .string x.t.l.s]) F_m28 (ev_t rfl rfl) rfl rfl (blk_cells (Ext.blk (Ext.trans (Keep.then_ (NewB.ext n12) (Wrote.keep k14) (fun i_ hi_ h_ => by have a_ := NewB.eq n12; have b_ := Keep.size (Ext.refl w2); omega)) c_) (NewB.blk n3)) 1 (cs := [.string x.t.v, .int .i8 x.t.l.k, .int .i64 x.t.l.n, .string x.t.l.s]) rfl)) ?_
      refine q_val (v := .agg #[.string (⟨#[]⟩ : ByteArray), .int .i8 0, .int .i64 0, .string (⟨#[]⟩ : ByteArray)]) (w0 rfl) (fun w_ c_ => r_loadL (cs := [.string (⟨#[]⟩ : ByteArray), .int .i8 0, .int .i64 0, .string (⟨#[]⟩ : ByteArray)]) (ca := #[.string (⟨#[]⟩ : ByteArray), .int .i8 0, .int .i64 0, .string (⟨#[]⟩ : ByteArray)]) F_m28 (ev_t rfl rfl) rfl rfl (blk_cells (Ext.blk c_ (Wrote.blk k14)) 0 (cs := [.string (⟨#[]⟩ : ByteArray), .int .i8 0, .int .i64 0, .string (⟨#[]⟩ : ByteArray)]) rfl)) ?_
      refine q_val (v := .bool (!(zT x.t))) (w0 rfl) (fun w_ c_ => r_cmpG (r := !(zT x.t)) (ev_t rfl rfl) (ev_t rfl rfl) ((fun w_ => eqzT28neq x.t _ _ w_))) ?_
      rcases Bool.eq_false_or_eq_true (zT x.t) with h15 | h15
      · refine q_val (v := .bool false) (w0 rfl) (fun w_ c_ => r_move (v := .bool false) (vb (ev_t rfl rfl) (nbt h15))) ?_
        refine q_val (v := .pointer (some ⟨g1, 5, none⟩)) (wy rfl rfl rfl rfl) (fun w_ c_ => r_field (off := 5) (o' := 5) F_f31_2 (ev_t rfl rfl) rfl) ?_
        refine q_val (v := .slice A x.kids.length c) (wy rfl rfl rfl rfl) (fun w_ c_ => r_load (v := .slice A x.kids.length c) F_o29 (ev_t rfl rfl) (cell_of_blk (i := 5) (Ext.blk (Ext.trans (Keep.then_ (NewB.ext n12) (Wrote.keep k14) (fun i_ hi_ h_ => by have a_ := NewB.eq n12; have b_ := Keep.size (Ext.refl w2); omega)) c_) (NewB.blk n3)) rfl)) ?_
        refine q_val (v := .int .i64 (x.kids.length : Int)) (wy rfl rfl rfl rfl) (fun w_ c_ => r_lenL F_l29 (ev_t rfl rfl)) ?_
        refine q_val (v := .pointer (some ⟨g1, 0, none⟩)) (wy rfl rfl rfl rfl) (fun w_ c_ => r_field (off := 0) (o' := 0) F_f31_0 (ev_t rfl rfl) rfl) ?_
        refine q_val (v := .int .i8 x.op) (wy rfl rfl rfl rfl) (fun w_ c_ => r_load (v := .int .i8 x.op) F_o23 (ev_t rfl rfl) (cell_of_blk (i := 0) (Ext.blk (Ext.trans (Keep.then_ (NewB.ext n12) (Wrote.keep k14) (fun i_ hi_ h_ => by have a_ := NewB.eq n12; have b_ := Keep.size (Ext.refl w2); omega)) c_) (NewB.blk n3)) rfl)) ?_
        refine q_call (v := .int .i64 (kidsN x.op)) F_e75 (wy rfl rfl rfl rfl) ev_f (m1 (ev_t rfl rfl)) (args := #[.int .i8 x.op]) rfl (fun w_ c_ => Rt.mono (r4_kids x.op _) (fun v_ w2_ h_ => ⟨h_.1, Ext.trans c_ h_.2⟩)) ?_
        refine q_val (v := .bool (!decide ((x.kids.length : Int) = kidsN x.op))) (wy rfl rfl rfl rfl) (fun w_ c_ => r_cmp (r := !decide ((x.kids.length : Int) = kidsN x.op)) (ev_t rfl rfl) (ev_t rfl rfl) rfl) ?_
        refine q_val (v := .bool (!decide ((x.kids.length : Int) = kidsN x.op))) (w0 rfl) (fun w_ c_ => r_pick0 (v := .bool (!decide ((x.kids.length : Int) = kidsN x.op))) (ev_t rfl rfl) (ev_t rfl rfl)) ?_
        refine q_done ?_
        intro w16 x17
        refine n_then ?_
        by_cases h18 : (x.kids.length : Int) = kidsN x.op
        · refine c_cond0 (vb (ev_t rfl rfl) (nb0 h18)) ?_
          refine c_skip ?_
          refine n_then ?_
          refine c_seq ?_
          refine c_seq ?_
          refine c_reg ?_
          refine s_assign (v := .int .i64 0) ev_c (w0 rfl) ?_
          refine c_done ?_
          refine n_then ?_
          refine c_block ?_
          refine c_loop (α := Nat) (fun (i : Nat) env_ w_ => Ext w16 w_ ∧ i ≤ x.kids.length ∧ (∀ j y, j < i → x.kids[j]? = some y → exB (d - 1) y = true) ∧ env_ 1 = .int .i64 ((d : Nat) : Int) ∧ env_ 2 = .pointer (some ⟨g1, 0, none⟩) ∧ env_ 6 = .int .i64 ((i : Nat) : Int)) (fun i => x.kids.length - i) (0) ⟨Ext.refl _, Nat.zero_le _, (fun j y h => absurd h (Nat.not_lt_zero j)), rfl, rfl, rfl⟩ ?_
          rintro i env21 w19 ⟨x20, i22, i23, e24, e25, e26⟩
          refine c_seq ?_
          refine c_seq ?_
          refine c_reg ?_
          refine s_move (v := .int .i64 ((i : Nat) : Int)) (ev_t rfl e26) (w0 rfl) ?_
          refine s_field (off := 5) (o' := 5) F_f31_2 (ev_t rfl e25) rfl (w0 rfl) ?_
          refine s_load (v := .slice A x.kids.length c) F_o29 (ev_t rfl rfl) (cell_of_blk (i := 5) (Ext.blk (Ext.trans (Ext.trans (Keep.then_ (NewB.ext n12) (Wrote.keep k14) (fun i_ hi_ h_ => by have a_ := NewB.eq n12; have b_ := Keep.size (Ext.refl w2); omega)) x17) x20) (NewB.blk n3)) rfl) (w0 rfl) ?_
          refine s_lenL F_l29 (ev_t rfl rfl) (w0 rfl) ?_
          refine s_cmp (r := decide (((i : Nat) : Int) < (x.kids.length : Int))) (ev_t rfl rfl) (ev_t rfl rfl) rfl (w0 rfl) ?_
          refine c_done ?_
          refine n_then ?_
          by_cases h27 : ((i : Nat) : Int) < (x.kids.length : Int)
          · refine c_cond1 (vb (ev_t rfl rfl) (decide_eq_true h27)) ?_
            refine c_skip ?_
            refine n_then ?_
            refine c_seq ?_
            refine c_block ?_
            refine c_seq ?_
            refine c_reg ?_
            refine s_field (off := 5) (o' := 5) F_f31_2 (ev_t rfl e25) rfl (w0 rfl) ?_
            refine s_load (v := .slice A x.kids.length c) F_o29 (ev_t rfl rfl) (cell_of_blk (i := 5) (Ext.blk (Ext.trans (Ext.trans (Keep.then_ (NewB.ext n12) (Wrote.keep k14) (fun i_ hi_ h_ => by have a_ := NewB.eq n12; have b_ := Keep.size (Ext.refl w2); omega)) x17) x20) (NewB.blk n3)) rfl) (w0 rfl) ?_
            refine s_move (v := .int .i64 ((i : Nat) : Int)) (ev_t rfl e26) (w0 rfl) ?_
            obtain ⟨b28, o29, x30, csx30, hA31, hx32, hR33, hc34⟩ := Row.at_ hr i (by omega)
            obtain rfl := Ex.kid_of hx32
            obtain ⟨A35, c36, rfl, ho37, hr38⟩ := RE.open_ hR33
            refine s_indexR (j := i) F_l29 (ev_t rfl rfl) hA31 (ev_t rfl rfl) rfl (by omega) (w0 rfl) ?_
            refine s_loadL (cs := [.int .i8 ((x.kid i).op), .string ((x.kid i).t.v), .int .i8 ((x.kid i).t.l.k), .int .i64 ((x.kid i).t.l.n), .string ((x.kid i).t.l.s), .slice A35 ((x.kid i).kids.length) c36]) (ca := #[.int .i8 ((x.kid i).op), .string ((x.kid i).t.v), .int .i8 ((x.kid i).t.l.k), .int .i64 ((x.kid i).t.l.n), .string ((x.kid i).t.l.s), .slice A35 ((x.kid i).kids.length) c36]) F_m31 (ev_t rfl rfl) rfl rfl (sub_cells (cells_ext (Ext.trans (Ext.trans (Keep.then_ (Ext.trans (NewB.ext n3) (NewB.ext n12)) (Wrote.keep k14) (fun i_ hi_ h_ => by have a_ := NewB.eq n12; have b_ := Keep.size (NewB.ext n3); omega)) x17) x20) hc34) 0 (cs2 := [.int .i8 ((x.kid i).op), .string ((x.kid i).t.v), .int .i8 ((x.kid i).t.l.k), .int .i64 ((x.kid i).t.l.n), .string ((x.kid i).t.l.s), .slice A35 ((x.kid i).kids.length) c36]) rfl) (w0 rfl) ?_
            refine s_move (v := .int .i64 ((d : Nat) : Int)) (ev_t rfl e24) (w0 rfl) ?_
            refine s_sub (r := ((d - 1 : Nat) : Int)) (ev_t rfl rfl) ev_c (by omega) (by omega) (w0 rfl) ?_
            refine s_call F_e44 (w0 rfl) ev_f (m2 (ev_t rfl rfl) (ev_t rfl rfl)) (args := #[.agg #[.int .i8 ((x.kid i).op), .string ((x.kid i).t.v), .int .i8 ((x.kid i).t.l.k), .int .i64 ((x.kid i).t.l.n), .string ((x.kid i).t.l.s), .slice A35 ((x.kid i).kids.length) c36], .int .i64 ((d - 1 : Nat) : Int)]) rfl (ih (by omega) (x.kid i) A35 c36 _ ho37 (Row.extE hr38 (Ext.trans (Ext.trans (Keep.then_ (Ext.trans (NewB.ext n3) (NewB.ext n12)) (Wrote.keep k14) (fun i_ hi_ h_ => by have a_ := NewB.eq n12; have b_ := Keep.size (NewB.ext n3); omega)) x17) x20))) ?_
            rintro _ w40 ⟨rfl, x39⟩
            refine s_not (b := exB (d - 1) (x.kid i)) (ev_t rfl rfl) (w0 rfl) ?_
            refine c_done ?_
            refine n_then ?_
            rcases Bool.eq_false_or_eq_true (exB (d - 1) (x.kid i)) with h41 | h41
            · refine c_cond0 (vb (ev_t rfl rfl) (nbt h41)) ?_
              refine c_skip ?_
              refine n_block ?_
              refine n_then ?_
              refine c_reg ?_
              refine s_move (v := .int .i64 ((i : Nat) : Int)) (ev_t rfl e26) (w0 rfl) ?_
              refine s_add (r := ((i + 1 : Nat) : Int)) (ev_t rfl rfl) ev_c (by omega) (by omega) (w0 rfl) ?_
              refine s_assign (v := .int .i64 ((i + 1 : Nat) : Int)) (ev_t rfl rfl) (w0 rfl) ?_
              refine c_done ?_
              exact ⟨(i + 1), _, rfl, ⟨(Ext.trans x20 x39), by omega, (kids_step i23 (kid_there (by omega)) (by assumption)), e24, e25, rfl⟩, (show x.kids.length - (i + 1) < x.kids.length - i by omega)⟩
            · refine c_cond1 (vb (ev_t rfl rfl) (nbf h41)) ?_
              refine c_seq ?_
              refine c_reg ?_
              refine s_assign (v := .bool false) ev_c (w0 rfl) ?_
              refine c_done ?_
              refine n_then ?_
              refine c_ret ?_
              refine r_block ?_
              refine r_then ?_
              refine r_then ?_
              refine r_block ?_
              refine r_then ?_
              refine ret1 (v := .bool false) rfl rfl rfl ?_
              refine ⟨_, rfl, ?_, (Ext.trans (Ext.trans (Ext.trans (Keep.then_ (Ext.trans (NewB.ext n3) (NewB.ext n12)) (Wrote.keep k14) (fun i_ hi_ h_ => by have a_ := NewB.eq n12; have b_ := Keep.size (NewB.ext n3); omega)) x17) x20) x39)⟩
              (refine congrArg Value.bool ?_; rw [exB_pos (by omega), if_neg (by assumption), all_no (kid_there (x := x) (j := i) (by omega)) (by assumption)]; simp only [*, decide_true, decide_false, if_true, if_false, Bool.and_true, Bool.true_and, Bool.false_and, Bool.and_false, Bool.not_true, Bool.not_false, Bool.false_eq_true, reduceIte, not_true_eq_false, not_false_eq_true])
          · refine c_cond0 (vb (ev_t rfl rfl) (decide_eq_false h27)) ?_
            refine c_exit ?_
            refine e_then ?_
            refine e_then ?_
            refine e_hit ?_
            refine n_then ?_
            refine c_seq ?_
            refine c_reg ?_
            refine s_assign (v := .bool true) ev_c (w0 rfl) ?_
            refine c_done ?_
            refine n_then ?_
            refine c_ret ?_
            refine ret1 (v := .bool true) rfl rfl rfl ?_
            refine ⟨_, rfl, ?_, (Ext.trans (Ext.trans (Keep.then_ (Ext.trans (NewB.ext n3) (NewB.ext n12)) (Wrote.keep k14) (fun i_ hi_ h_ => by have a_ := NewB.eq n12; have b_ := Keep.size (NewB.ext n3); omega)) x17) x20)⟩
            (refine congrArg Value.bool ?_; rw [exB_pos (by omega), if_neg (by assumption)]; rw [all_yes (by assumption) i23]; simp only [*, decide_true, decide_false, if_true, if_false, Bool.and_true, Bool.true_and, Bool.false_and, Bool.and_false, Bool.not_true, Bool.not_false, Bool.false_eq_true, reduceIte, not_true_eq_false, not_false_eq_true])
        · refine c_cond1 (vb (ev_t rfl rfl) (nb1 h18)) ?_
          refine c_seq ?_
          refine c_reg ?_
          refine s_assign (v := .bool false) ev_c (w0 rfl) ?_
          refine c_done ?_
          refine n_then ?_
          refine c_ret ?_
          refine r_then ?_
          refine ret1 (v := .bool false) rfl rfl rfl ?_
          refine ⟨_, rfl, ?_, (Ext.trans (Keep.then_ (Ext.trans (NewB.ext n3) (NewB.ext n12)) (Wrote.keep k14) (fun i_ hi_ h_ => by have a_ := NewB.eq n12; have b_ := Keep.size (NewB.ext n3); omega)) x17)⟩
          (first | (have z_ : d = 0 := by omega); subst z_; rfl | (refine congrArg Value.bool ?_; rw [exB_pos (by omega)]; simp only [*, decide_true, decide_false, if_true, if_false, Bool.and_true, Bool.true_and, Bool.false_and, Bool.and_false, Bool.not_true, Bool.not_false, Bool.false_eq_true, reduceIte, not_true_eq_false, not_false_eq_true]))
      · refine q_val (v := .bool true) (w0 rfl) (fun w_ c_ => r_move (v := .bool true) (vb (ev_t rfl rfl) (nbf h15))) ?_
        refine q_skip (wn rfl rfl rfl rfl rfl) ?_
        refine q_skip (wn rfl rfl rfl rfl rfl) ?_
        refine q_skip (wn rfl rfl rfl rfl rfl) ?_
        refine q_skip (wn rfl rfl rfl rfl rfl) ?_
        refine q_skip (wn rfl rfl rfl rfl rfl) ?_
        refine q_skip (wn rfl rfl rfl rfl rfl) ?_
        refine q_skip (wn rfl rfl rfl rfl rfl) ?_
        refine q_val (v := .bool true) (w0 rfl) (fun w_ c_ => r_pick1 (v := .bool true) (ev_t rfl rfl) ev_c) ?_
        refine q_done ?_
        intro w42 x43
        refine n_then ?_
        refine c_cond1 (ev_t rfl rfl) ?_
        refine c_seq ?_
        refine c_reg ?_
        refine s_assign (v := .bool false) ev_c (w0 rfl) ?_
        refine c_done ?_
        refine n_then ?_
        refine c_ret ?_
        refine r_then ?_
        refine ret1 (v := .bool false) rfl rfl rfl ?_
        refine ⟨_, rfl, ?_, (Ext.trans (Keep.then_ (Ext.trans (NewB.ext n3) (NewB.ext n12)) (Wrote.keep k14) (fun i_ hi_ h_ => by have a_ := NewB.eq n12; have b_ := Keep.size (NewB.ext n3); omega)) x43)⟩
        (first | (have z_ : d = 0 := by omega); subst z_; rfl | (refine congrArg Value.bool ?_; rw [exB_pos (by omega)]; simp only [*, decide_true, decide_false, if_true, if_false, Bool.and_true, Bool.true_and, Bool.false_and, Bool.and_false, Bool.not_true, Bool.not_false, Bool.false_eq_true, reduceIte, not_true_eq_false, not_false_eq_true]))
theorem r4_expr : ∀ (d : Nat) (x : Ex) (A : Option Addr) (c : Nat) (w : World), d ≤ 100 → x.okc c → Row RE 6 w A x.kids → Rt Tryd.prog 44 #[.agg #[.int .i8 x.op, .string x.t.v, .int .i8 x.t.l.k, .int .i64 x.t.l.n, .string x.t.l.s, .slice A x.kids.length c], .int .i64 ((d : Nat) : Int)] w fun v w' => v = .bool (exB d x) ∧ Ext w w' := by
  intro d
  induction d with
  | zero =>
    intro x A c w hd ho hr
    exact r4_expr_step 0 x A c w ho hr hd (fun h => absurd rfl h)
  | succ d ih =>
    intro x A c w hd ho hr
    exact r4_expr_step (d + 1) x A c w ho hr hd (fun _ x A c w ho hr => ih x A c w (by omega) ho hr)
end Go.Proofs.Dw
