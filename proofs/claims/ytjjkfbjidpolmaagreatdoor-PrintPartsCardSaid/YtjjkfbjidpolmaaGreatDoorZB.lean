/- YtjjkfbjidpolmaaGreatDoorZB: part of the proof of this seat, by an AI agent: walks of the functions that the law reaches; bytes of a text, the first that fits; walks of the functions that the law reaches. No condition of its own but those that its theorems state. -/
import Derived.Test.YtjjkfbjidpolmaaGreatDoorZA
import Derived.Lib.ConvBytes
set_option linter.unusedVariables false
set_option linter.unusedSimpArgs false
set_option maxRecDepth 10000
namespace Go.Proofs.Zw
open Go Go.Wk Go.Proofs Go.Lib
attribute [local irreducible] Go.wpList Go.wpStill Go.wpQuiet Go.Code.wp Go.Calls
theorem F_e101 : enterable Tryz.prog 101 = true := by kernel_rfl
theorem F_e108 : enterable Tryz.prog 108 = true := by kernel_rfl
theorem F_e132 : enterable Tryz.prog 132 = true := by kernel_rfl
theorem F_f36_1 : fieldAt Tryz.prog 36 1 1 = true := by kernel_rfl
theorem F_f36_2 : fieldAt Tryz.prog 36 2 5 = true := by kernel_rfl
theorem F_l34 : sliceT Tryz.prog 34 6 = true := by kernel_rfl
theorem F_m33 : many Tryz.prog 33 4 = true := by kernel_rfl
theorem F_m36 : many Tryz.prog 36 6 = true := by kernel_rfl
theorem F_o34 : one Tryz.prog 34 = true := by kernel_rfl
theorem F_sz33 : (Tryz.prog.info? 33).map (·.size) = some 4 := by kernel_rfl
theorem F_z33 : (Tryz.prog.info? 33).bind (·.zero) = some (.agg #[.string (⟨#[]⟩ : ByteArray), .int .i8 0, .int .i64 0, .string (⟨#[]⟩ : ByteArray)]) := by kernel_rfl
theorem bd33 : ∀ w : World, (Instr.build 33 [].toArray).run Tryz.prog w = .ok (.agg #[.string (⟨#[]⟩ : ByteArray), .int .i8 0, .int .i64 0, .string (⟨#[]⟩ : ByteArray)]) w := by
  intros
  kernel_rfl
theorem eqzT33neq (x : Tm) (a b : Operand) (w : World) : (do eqGuard .neq 33 a b (.agg #[.string x.v, .int .i8 x.l.k, .int .i64 x.l.n, .string x.l.s]) (.agg #[.string ⟨#[]⟩, .int .i8 0, .int .i64 0, .string ⟨#[]⟩]); binOp .neq 33 (.agg #[.string x.v, .int .i8 x.l.k, .int .i64 x.l.n, .string x.l.s]) (.agg #[.string ⟨#[]⟩, .int .i8 0, .int .i64 0, .string ⟨#[]⟩]) : Sem Value).run Tryz.prog w = .ok (.bool (!(zT x))) w := by
  have hu := Tryz.underlying33
  go_simp
  simp only [toList_nil_iff]
  (first | (by_cases h0 : x.v = (⟨#[]⟩ : ByteArray)) | skip) <;> (first | (by_cases h1 : x.k = 0 <;> by_cases h2 : x.n = 0 <;> by_cases h3 : x.s = (⟨#[]⟩ : ByteArray)) | (by_cases h1 : x.l.k = 0 <;> by_cases h2 : x.l.n = 0 <;> by_cases h3 : x.l.s = (⟨#[]⟩ : ByteArray))) <;> simp [zV, zT, *]
set_option maxHeartbeats 4000000 in
theorem r4_expr_step (d : Nat) (x : Ex) (A : Option Addr) (c : Nat) (w : World) (ho : x.okc c) (hr : Row RE 6 w A x.kids) (hd : d ≤ 100) (ih : d ≠ 0 → ∀ (x : Ex) (A : Option Addr) (c : Nat) (w : World), x.okc c → Row RE 6 w A x.kids → Rt Tryz.prog 108 #[.agg #[.int .i8 x.op, .string x.t.v, .int .i8 x.t.l.k, .int .i64 x.t.l.n, .string x.t.l.s, .slice A x.kids.length c], .int .i64 ((d - 1 : Nat) : Int)] w fun v w' => v = .bool (exB (d - 1) x) ∧ Ext w w') :
    Rt Tryz.prog 108 #[.agg #[.int .i8 x.op, .string x.t.v, .int .i8 x.t.l.k, .int .i64 x.t.l.n, .string x.t.l.s, .slice A x.kids.length c], .int .i64 ((d : Nat) : Int)] w fun v w' => v = .bool (exB d x) ∧ Ext w w' := by
  refine enter Tryz.func108 rfl (l := [.agg #[.int .i8 x.op, .string x.t.v, .int .i8 x.t.l.k, .int .i64 x.t.l.n, .string x.t.l.s, .slice A x.kids.length c], .int .i64 ((d : Nat) : Int)]) rfl Tryz.ntmps108 (Nat.le_of_ble_eq_true rfl) ?_
  have hl_ := Ex.okc.l ho
  have hc_ := Ex.okc.c ho
  refine c_seq (c_reg ?_)
  refine s_box (v := .agg #[.int .i8 x.op, .string x.t.v, .int .i8 x.t.l.k, .int .i64 x.t.l.n, .string x.t.l.s, .slice A x.kids.length c]) (cs := #[.int .i8 x.op, .string x.t.v, .int .i8 x.t.l.k, .int .i64 x.t.l.n, .string x.t.l.s, .slice A x.kids.length c]) (w0 rfl) (ev_t rfl rfl) rfl ?_
  intro w2 g1 n3
  refine s_assign (v := .bool false) ev_c (w0 rfl) ?_
  refine c_done (n_then (c_seq (c_seq (c_reg ?_))))
  refine s_move (v := .int .i64 ((d : Nat) : Int)) (ev_t rfl rfl) (w0 rfl) ?_
  refine s_cmp (r := decide (((d : Nat) : Int) = 0)) (ev_t rfl rfl) ev_c rfl (w0 rfl) ?_
  refine c_done (n_then ?_)
  by_cases h4 : ((d : Nat) : Int) = 0
  · refine c_cond1 (vb (ev_t rfl rfl) (decide_eq_true h4)) ?_
    refine c_seq (c_reg ?_)
    refine s_assign (v := .bool false) ev_c (w0 rfl) ?_
    refine c_done (n_then (c_ret (r_then ?_)))
    refine ret1 (v := .bool false) rfl rfl rfl ?_
    refine ⟨_, rfl, ?_, (NewB.ext n3)⟩
    (first | (have z_ : d = 0 := by omega); subst z_; rfl | (refine congrArg Value.bool ?_; rw [exB_pos (by omega)]; simp only [*, decide_true, decide_false, if_true, if_false, Bool.and_true, Bool.true_and, Bool.false_and, Bool.and_false, Bool.not_true, Bool.not_false, Bool.false_eq_true, reduceIte, not_true_eq_false, not_false_eq_true]))
  · refine c_cond0 (vb (ev_t rfl rfl) (decide_eq_false h4)) ?_
    refine c_skip (n_then (c_seq (c_seq (c_reg ?_))))
    refine s_field (off := 0) (o' := 0) F_f36_0 (ev_t rfl rfl) rfl (w0 rfl) ?_
    refine s_load (v := .int .i8 x.op) F_o28 (ev_t rfl rfl) (cell_of_blk (i := 0) (NewB.blk n3) rfl) (w0 rfl) ?_
    refine s_cmp (r := decide (x.op = 0)) (ev_t rfl rfl) ev_c rfl (w0 rfl) ?_
    refine c_done (n_then ?_)
    by_cases h5 : x.op = 0
    · refine c_cond1 (vb (ev_t rfl rfl) (decide_eq_true h5)) ?_
      refine c_seq (c_reg ?_)
      refine s_field (off := 5) (o' := 5) F_f36_2 (ev_t rfl rfl) rfl (w0 rfl) ?_
      refine s_load (v := .slice A x.kids.length c) F_o34 (ev_t rfl rfl) (cell_of_blk (i := 5) (NewB.blk n3) rfl) (w0 rfl) ?_
      refine s_lenL F_l34 (ev_t rfl rfl) (w0 rfl) ?_
      refine s_cmp (r := decide ((x.kids.length : Int) = 0)) (ev_t rfl rfl) ev_c rfl (w0 rfl) ?_
      by_cases h6 : (x.kids.length : Int) = 0
      · refine s_move (v := .bool true) (vb (ev_t rfl rfl) (decide_eq_true h6)) (w0 rfl) ?_
        refine s_field (off := 1) (o' := 1) F_f36_1 (ev_t rfl rfl) rfl (wy rfl rfl rfl rfl) ?_
        refine s_field (off := 0) (o' := 1) F_f33_0 (ev_t rfl rfl) rfl (wy rfl rfl rfl rfl) ?_
        refine s_load (v := .string x.t.v) F_o9 (ev_t rfl rfl) (cell_of_blk (i := 1) (NewB.blk n3) rfl) (wy rfl rfl rfl rfl) ?_
        refine s_cmpS (r := !decide (x.t.v = (⟨#[95]⟩ : ByteArray))) (ev_t rfl rfl) ev_c rfl (wy rfl rfl rfl rfl) ?_
        refine s_pick1 (v := .bool (!decide (x.t.v = (⟨#[95]⟩ : ByteArray)))) (ev_t rfl rfl) (ev_t rfl rfl) (w0 rfl) ?_
        by_cases h7 : x.t.v = (⟨#[95]⟩ : ByteArray)
        · refine s_move (v := .bool false) (vb (ev_t rfl rfl) (nb0 h7)) (w0 rfl) ?_
          refine s_skip (wn rfl rfl rfl rfl rfl) ?_
          refine s_skip (wn rfl rfl rfl rfl rfl) ?_
          refine s_skip (wn rfl rfl rfl rfl rfl) ?_
          refine s_pick0 (v := .bool false) (ev_t rfl rfl) ev_c (w0 rfl) ?_
          refine s_assign (v := .bool false) (ev_t rfl rfl) (w0 rfl) ?_
          refine c_done (n_then (c_ret (r_then ?_)))
          refine ret1 (v := .bool false) rfl rfl rfl ?_
          refine ⟨_, rfl, ?_, (NewB.ext n3)⟩
          (first | (have z_ : d = 0 := by omega); subst z_; rfl | (refine congrArg Value.bool ?_; rw [exB_pos (by omega)]; simp only [*, decide_true, decide_false, if_true, if_false, Bool.and_true, Bool.true_and, Bool.false_and, Bool.and_false, Bool.not_true, Bool.not_false, Bool.false_eq_true, reduceIte, not_true_eq_false, not_false_eq_true]))
        · refine s_move (v := .bool true) (vb (ev_t rfl rfl) (nb1 h7)) (w0 rfl) ?_
          refine s_field (off := 1) (o' := 1) F_f36_1 (ev_t rfl rfl) rfl (wy rfl rfl rfl rfl) ?_
          refine s_loadL (cs := [.string x.t.v, .int .i8 x.t.l.k, .int .i64 x.t.l.n, .string x.t.l.s]) (ca := #[.string x.t.v, .int .i8 x.t.l.k, .int .i64 x.t.l.n, .string x.t.l.s]) F_m33 (ev_t rfl rfl) rfl rfl (blk_cells (NewB.blk n3) 1 (cs := [.string x.t.v, .int .i8 x.t.l.k, .int .i64 x.t.l.n, .string x.t.l.s]) rfl) (wy rfl rfl rfl rfl) ?_
          refine s_call F_e101 (wy rfl rfl rfl rfl) ev_f (m1 (ev_t rfl rfl)) (args := #[.agg #[.string x.t.v, .int .i8 x.t.l.k, .int .i64 x.t.l.n, .string x.t.l.s]]) rfl (r4_term x.t _ (Ex.okc.t ho)) ?_
          rintro _ w9 ⟨rfl, x8⟩
          refine s_pick1 (v := .bool (tmB x.t)) (ev_t rfl rfl) (ev_t rfl rfl) (w0 rfl) ?_
          refine s_assign (v := .bool (tmB x.t)) (ev_t rfl rfl) (w0 rfl) ?_
          refine c_done (n_then (c_ret (r_then ?_)))
          refine ret1 (v := .bool (tmB x.t)) rfl rfl rfl ?_
          refine ⟨_, rfl, ?_, (Ext.trans (NewB.ext n3) x8)⟩
          (first | (have z_ : d = 0 := by omega); subst z_; rfl | (refine congrArg Value.bool ?_; rw [exB_pos (by omega)]; simp only [*, decide_true, decide_false, if_true, if_false, Bool.and_true, Bool.true_and, Bool.false_and, Bool.and_false, Bool.not_true, Bool.not_false, Bool.false_eq_true, reduceIte, not_true_eq_false, not_false_eq_true]))
      · refine s_move (v := .bool false) (vb (ev_t rfl rfl) (decide_eq_false h6)) (w0 rfl) ?_
        refine s_skip (wn rfl rfl rfl rfl rfl) ?_
        refine s_skip (wn rfl rfl rfl rfl rfl) ?_
        refine s_skip (wn rfl rfl rfl rfl rfl) ?_
        refine s_skip (wn rfl rfl rfl rfl rfl) ?_
        refine s_pick0 (v := .bool false) (ev_t rfl rfl) ev_c (w0 rfl) ?_
        refine s_move (v := .bool false) (ev_t rfl rfl) (w0 rfl) ?_
        refine s_skip (wn rfl rfl rfl rfl rfl) ?_
        refine s_skip (wn rfl rfl rfl rfl rfl) ?_
        refine s_skip (wn rfl rfl rfl rfl rfl) ?_
        refine s_pick0 (v := .bool false) (ev_t rfl rfl) ev_c (w0 rfl) ?_
        refine s_assign (v := .bool false) (ev_t rfl rfl) (w0 rfl) ?_
        refine c_done (n_then (c_ret (r_then ?_)))
        refine ret1 (v := .bool false) rfl rfl rfl ?_
        refine ⟨_, rfl, ?_, (NewB.ext n3)⟩
        (first | (have z_ : d = 0 := by omega); subst z_; rfl | (refine congrArg Value.bool ?_; rw [exB_pos (by omega)]; simp only [*, decide_true, decide_false, if_true, if_false, Bool.and_true, Bool.true_and, Bool.false_and, Bool.and_false, Bool.not_true, Bool.not_false, Bool.false_eq_true, reduceIte, not_true_eq_false, not_false_eq_true]))
    · refine c_cond0 (vb (ev_t rfl rfl) (decide_eq_false h5)) ?_
      refine c_skip (n_then (c_seq (c_reg ?_)))
      refine s_build (v := .agg #[.string (⟨#[]⟩ : ByteArray), .int .i8 0, .int .i64 0, .string (⟨#[]⟩ : ByteArray)]) (vs := []) b0 (bd33) (w0 rfl) ?_
      refine s_alloc (cs := #[.string (⟨#[]⟩ : ByteArray), .int .i8 0, .int .i64 0, .string (⟨#[]⟩ : ByteArray)]) (w0 rfl) F_z33 rfl ?_
      intro w11 g10 n12
      refine s_store (cs' := #[.string (⟨#[]⟩ : ByteArray), .int .i8 0, .int .i64 0, .string (⟨#[]⟩ : ByteArray)]) F_sz33 (ev_t rfl rfl) (ev_t rfl rfl) (l := [.string (⟨#[]⟩ : ByteArray), .int .i8 0, .int .i64 0, .string (⟨#[]⟩ : ByteArray)]) rfl rfl rfl (NewB.blk n12) (Nat.le_of_ble_eq_true rfl) rfl (w0 rfl) ?_
      intro w13 k14
      refine c_done (n_then (c_seq (c_seq ?_)))
      refine c_quiet mixed (by kernel_rfl) ?_
      refine q_val (v := .pointer (some ⟨g1, 1, none⟩)) (w0 rfl) (fun w_ c_ => r_field (off := 1) (o' := 1) F_f36_1 (ev_t rfl rfl) rfl) ?_
      refine q_val (v := .agg #[.string x.t.v, .int .i8 x.t.l.k, .int .i64 x.t.l.n, .string x.t.l.s]) (w0 rfl) (fun w_ c_ => r_loadL (cs := [.string x.t.v, .int .i8 x.t.l.k, .int .i64 x.t.l.n, .string x.t.l.s]) (ca := #[.string x.t.v, .int .i8 x.t.l.k, .int .i64 x.t.l.n, .string x.t.l.s]) F_m33 (ev_t rfl rfl) rfl rfl (blk_cells (Ext.blk (Ext.trans (Keep.then_ (NewB.ext n12) (Wrote.keep k14) (fun i_ hi_ h_ => by have a_ := NewB.eq n12; have b_ := Keep.size (Ext.refl w2); omega)) c_) (NewB.blk n3)) 1 (cs := [.string x.t.v, .int .i8 x.t.l.k, .int .i64 x.t.l.n, .string x.t.l.s]) rfl)) ?_
      refine q_val (v := .agg #[.string (⟨#[]⟩ : ByteArray), .int .i8 0, .int .i64 0, .string (⟨#[]⟩ : ByteArray)]) (w0 rfl) (fun w_ c_ => r_loadL (cs := [.string (⟨#[]⟩ : ByteArray), .int .i8 0, .int .i64 0, .string (⟨#[]⟩ : ByteArray)]) (ca := #[.string (⟨#[]⟩ : ByteArray), .int .i8 0, .int .i64 0, .string (⟨#[]⟩ : ByteArray)]) F_m33 (ev_t rfl rfl) rfl rfl (blk_cells (Ext.blk c_ (Wrote.blk k14)) 0 (cs := [.string (⟨#[]⟩ : ByteArray), .int .i8 0, .int .i64 0, .string (⟨#[]⟩ : ByteArray)]) rfl)) ?_
      refine q_val (v := .bool (!(zT x.t))) (w0 rfl) (fun w_ c_ => r_cmpG (r := !(zT x.t)) (ev_t rfl rfl) (ev_t rfl rfl) ((fun w_ => eqzT33neq x.t _ _ w_))) ?_
      rcases Bool.eq_false_or_eq_true (zT x.t) with h15 | h15
      · refine q_val (v := .bool false) (w0 rfl) (fun w_ c_ => r_move (v := .bool false) (vb (ev_t rfl rfl) (nbt h15))) ?_
        refine q_val (v := .pointer (some ⟨g1, 5, none⟩)) (wy rfl rfl rfl rfl) (fun w_ c_ => r_field (off := 5) (o' := 5) F_f36_2 (ev_t rfl rfl) rfl) ?_
        refine q_val (v := .slice A x.kids.length c) (wy rfl rfl rfl rfl) (fun w_ c_ => r_load (v := .slice A x.kids.length c) F_o34 (ev_t rfl rfl) (cell_of_blk (i := 5) (Ext.blk (Ext.trans (Keep.then_ (NewB.ext n12) (Wrote.keep k14) (fun i_ hi_ h_ => by have a_ := NewB.eq n12; have b_ := Keep.size (Ext.refl w2); omega)) c_) (NewB.blk n3)) rfl)) ?_
        refine q_val (v := .int .i64 (x.kids.length : Int)) (wy rfl rfl rfl rfl) (fun w_ c_ => r_lenL F_l34 (ev_t rfl rfl)) ?_
        refine q_val (v := .pointer (some ⟨g1, 0, none⟩)) (wy rfl rfl rfl rfl) (fun w_ c_ => r_field (off := 0) (o' := 0) F_f36_0 (ev_t rfl rfl) rfl) ?_
        refine q_val (v := .int .i8 x.op) (wy rfl rfl rfl rfl) (fun w_ c_ => r_load (v := .int .i8 x.op) F_o28 (ev_t rfl rfl) (cell_of_blk (i := 0) (Ext.blk (Ext.trans (Keep.then_ (NewB.ext n12) (Wrote.keep k14) (fun i_ hi_ h_ => by have a_ := NewB.eq n12; have b_ := Keep.size (Ext.refl w2); omega)) c_) (NewB.blk n3)) rfl)) ?_
        refine q_call (v := .int .i64 (kidsN x.op)) F_e132 (wy rfl rfl rfl rfl) ev_f (m1 (ev_t rfl rfl)) (args := #[.int .i8 x.op]) rfl (fun w_ c_ => Rt.mono (r4_kids x.op _) (fun v_ w2_ h_ => ⟨h_.1, Ext.trans c_ h_.2⟩)) ?_
        refine q_val (v := .bool (!decide ((x.kids.length : Int) = kidsN x.op))) (wy rfl rfl rfl rfl) (fun w_ c_ => r_cmp (r := !decide ((x.kids.length : Int) = kidsN x.op)) (ev_t rfl rfl) (ev_t rfl rfl) rfl) ?_
        refine q_val (v := .bool (!decide ((x.kids.length : Int) = kidsN x.op))) (w0 rfl) (fun w_ c_ => r_pick0 (v := .bool (!decide ((x.kids.length : Int) = kidsN x.op))) (ev_t rfl rfl) (ev_t rfl rfl)) ?_
        refine q_done ?_
        intro w16 x17
        refine n_then ?_
        by_cases h18 : (x.kids.length : Int) = kidsN x.op
        · refine c_cond0 (vb (ev_t rfl rfl) (nb0 h18)) ?_
          refine c_skip (n_then (c_seq (c_seq (c_reg ?_))))
          refine s_assign (v := .int .i64 0) ev_c (w0 rfl) ?_
          refine c_done (n_then (c_block ?_))
          refine c_loop (α := Nat) (fun (i : Nat) env_ w_ => Ext w16 w_ ∧ i ≤ x.kids.length ∧ (∀ j y, j < i → x.kids[j]? = some y → exB (d - 1) y = true) ∧ env_ 1 = .int .i64 ((d : Nat) : Int) ∧ env_ 2 = .pointer (some ⟨g1, 0, none⟩) ∧ env_ 6 = .int .i64 ((i : Nat) : Int)) (fun i => x.kids.length - i) (0) ⟨Ext.refl _, Nat.zero_le _, (fun j y h => absurd h (Nat.not_lt_zero j)), rfl, rfl, rfl⟩ ?_
          rintro i env21 w19 ⟨x20, i22, i23, e24, e25, e26⟩
          refine c_seq (c_seq (c_reg ?_))
          refine s_move (v := .int .i64 ((i : Nat) : Int)) (ev_t rfl e26) (w0 rfl) ?_
          refine s_field (off := 5) (o' := 5) F_f36_2 (ev_t rfl e25) rfl (w0 rfl) ?_
          refine s_load (v := .slice A x.kids.length c) F_o34 (ev_t rfl rfl) (cell_of_blk (i := 5) (Ext.blk (Ext.trans (Ext.trans (Keep.then_ (NewB.ext n12) (Wrote.keep k14) (fun i_ hi_ h_ => by have a_ := NewB.eq n12; have b_ := Keep.size (Ext.refl w2); omega)) x17) x20) (NewB.blk n3)) rfl) (w0 rfl) ?_
          refine s_lenL F_l34 (ev_t rfl rfl) (w0 rfl) ?_
          refine s_cmp (r := decide (((i : Nat) : Int) < (x.kids.length : Int))) (ev_t rfl rfl) (ev_t rfl rfl) rfl (w0 rfl) ?_
          refine c_done (n_then ?_)
          by_cases h27 : ((i : Nat) : Int) < (x.kids.length : Int)
          · refine c_cond1 (vb (ev_t rfl rfl) (decide_eq_true h27)) ?_
            refine c_skip (n_then (c_seq (c_block (c_seq (c_reg ?_)))))
            refine s_field (off := 5) (o' := 5) F_f36_2 (ev_t rfl e25) rfl (w0 rfl) ?_
            refine s_load (v := .slice A x.kids.length c) F_o34 (ev_t rfl rfl) (cell_of_blk (i := 5) (Ext.blk (Ext.trans (Ext.trans (Keep.then_ (NewB.ext n12) (Wrote.keep k14) (fun i_ hi_ h_ => by have a_ := NewB.eq n12; have b_ := Keep.size (Ext.refl w2); omega)) x17) x20) (NewB.blk n3)) rfl) (w0 rfl) ?_
            refine s_move (v := .int .i64 ((i : Nat) : Int)) (ev_t rfl e26) (w0 rfl) ?_
            obtain ⟨b28, o29, x30, csx30, hA31, hx32, hR33, hc34⟩ := Row.at_ hr i (by omega)
            obtain rfl := Ex.kid_of hx32
            obtain ⟨A35, c36, rfl, ho37, hr38⟩ := RE.open_ hR33
            refine s_indexR (j := i) F_l34 (ev_t rfl rfl) hA31 (ev_t rfl rfl) rfl (by omega) (w0 rfl) ?_
            refine s_loadL (cs := [.int .i8 ((x.kid i).op), .string ((x.kid i).t.v), .int .i8 ((x.kid i).t.l.k), .int .i64 ((x.kid i).t.l.n), .string ((x.kid i).t.l.s), .slice A35 ((x.kid i).kids.length) c36]) (ca := #[.int .i8 ((x.kid i).op), .string ((x.kid i).t.v), .int .i8 ((x.kid i).t.l.k), .int .i64 ((x.kid i).t.l.n), .string ((x.kid i).t.l.s), .slice A35 ((x.kid i).kids.length) c36]) F_m36 (ev_t rfl rfl) rfl rfl (sub_cells (cells_ext (Ext.trans (Ext.trans (Keep.then_ (Ext.trans (NewB.ext n3) (NewB.ext n12)) (Wrote.keep k14) (fun i_ hi_ h_ => by have a_ := NewB.eq n12; have b_ := Keep.size (NewB.ext n3); omega)) x17) x20) hc34) 0 (cs2 := [.int .i8 ((x.kid i).op), .string ((x.kid i).t.v), .int .i8 ((x.kid i).t.l.k), .int .i64 ((x.kid i).t.l.n), .string ((x.kid i).t.l.s), .slice A35 ((x.kid i).kids.length) c36]) rfl) (w0 rfl) ?_
            refine s_move (v := .int .i64 ((d : Nat) : Int)) (ev_t rfl e24) (w0 rfl) ?_
            refine s_sub (r := ((d - 1 : Nat) : Int)) (ev_t rfl rfl) ev_c (by omega) (by omega) (w0 rfl) ?_
            refine s_call F_e108 (w0 rfl) ev_f (m2 (ev_t rfl rfl) (ev_t rfl rfl)) (args := #[.agg #[.int .i8 ((x.kid i).op), .string ((x.kid i).t.v), .int .i8 ((x.kid i).t.l.k), .int .i64 ((x.kid i).t.l.n), .string ((x.kid i).t.l.s), .slice A35 ((x.kid i).kids.length) c36], .int .i64 ((d - 1 : Nat) : Int)]) rfl (ih (by omega) (x.kid i) A35 c36 _ ho37 (Row.extE hr38 (Ext.trans (Ext.trans (Keep.then_ (Ext.trans (NewB.ext n3) (NewB.ext n12)) (Wrote.keep k14) (fun i_ hi_ h_ => by have a_ := NewB.eq n12; have b_ := Keep.size (NewB.ext n3); omega)) x17) x20))) ?_
            rintro _ w40 ⟨rfl, x39⟩
            refine s_not (b := exB (d - 1) (x.kid i)) (ev_t rfl rfl) (w0 rfl) ?_
            refine c_done (n_then ?_)
            rcases Bool.eq_false_or_eq_true (exB (d - 1) (x.kid i)) with h41 | h41
            · refine c_cond0 (vb (ev_t rfl rfl) (nbt h41)) ?_
              refine c_skip (n_block (n_then (c_reg ?_)))
              refine s_move (v := .int .i64 ((i : Nat) : Int)) (ev_t rfl e26) (w0 rfl) ?_
              refine s_add (r := ((i + 1 : Nat) : Int)) (ev_t rfl rfl) ev_c (by omega) (by omega) (w0 rfl) ?_
              refine s_assign (v := .int .i64 ((i + 1 : Nat) : Int)) (ev_t rfl rfl) (w0 rfl) ?_
              refine c_done ?_
              exact ⟨(i + 1), _, rfl, ⟨(Ext.trans x20 x39), by omega, (kids_step i23 (kid_there (by omega)) (by assumption)), e24, e25, rfl⟩, (show x.kids.length - (i + 1) < x.kids.length - i by omega)⟩
            · refine c_cond1 (vb (ev_t rfl rfl) (nbf h41)) ?_
              refine c_seq (c_reg ?_)
              refine s_assign (v := .bool false) ev_c (w0 rfl) ?_
              refine c_done (n_then (c_ret (r_block (r_then (r_then (r_block (r_then ?_)))))))
              refine ret1 (v := .bool false) rfl rfl rfl ?_
              refine ⟨_, rfl, ?_, (Ext.trans (Ext.trans (Ext.trans (Keep.then_ (Ext.trans (NewB.ext n3) (NewB.ext n12)) (Wrote.keep k14) (fun i_ hi_ h_ => by have a_ := NewB.eq n12; have b_ := Keep.size (NewB.ext n3); omega)) x17) x20) x39)⟩
              (refine congrArg Value.bool ?_; rw [exB_pos (by omega), if_neg (by assumption), all_no (kid_there (x := x) (j := i) (by omega)) (by assumption)]; simp only [*, decide_true, decide_false, if_true, if_false, Bool.and_true, Bool.true_and, Bool.false_and, Bool.and_false, Bool.not_true, Bool.not_false, Bool.false_eq_true, reduceIte, not_true_eq_false, not_false_eq_true])
          · refine c_cond0 (vb (ev_t rfl rfl) (decide_eq_false h27)) ?_
            refine c_exit (e_then (e_then (e_hit (n_then (c_seq (c_reg ?_))))))
            refine s_assign (v := .bool true) ev_c (w0 rfl) ?_
            refine c_done (n_then (c_ret ?_))
            refine ret1 (v := .bool true) rfl rfl rfl ?_
            refine ⟨_, rfl, ?_, (Ext.trans (Ext.trans (Keep.then_ (Ext.trans (NewB.ext n3) (NewB.ext n12)) (Wrote.keep k14) (fun i_ hi_ h_ => by have a_ := NewB.eq n12; have b_ := Keep.size (NewB.ext n3); omega)) x17) x20)⟩
            (refine congrArg Value.bool ?_; rw [exB_pos (by omega), if_neg (by assumption)]; rw [all_yes (by assumption) i23]; simp only [*, decide_true, decide_false, if_true, if_false, Bool.and_true, Bool.true_and, Bool.false_and, Bool.and_false, Bool.not_true, Bool.not_false, Bool.false_eq_true, reduceIte, not_true_eq_false, not_false_eq_true])
        · refine c_cond1 (vb (ev_t rfl rfl) (nb1 h18)) ?_
          refine c_seq (c_reg ?_)
          refine s_assign (v := .bool false) ev_c (w0 rfl) ?_
          refine c_done (n_then (c_ret (r_then ?_)))
          refine ret1 (v := .bool false) rfl rfl rfl ?_
          refine ⟨_, rfl, ?_, (Ext.trans (Keep.then_ (Ext.trans (NewB.ext n3) (NewB.ext n12)) (Wrote.keep k14) (fun i_ hi_ h_ => by have a_ := NewB.eq n12; have b_ := Keep.size (NewB.ext n3); omega)) x17)⟩
          (first | (have z_ : d = 0 := by omega); subst z_; rfl | (refine congrArg Value.bool ?_; rw [exB_pos (by omega)]; simp only [*, decide_true, decide_false, if_true, if_false, Bool.and_true, Bool.true_and, Bool.false_and, Bool.and_false, Bool.not_true, Bool.not_false, Bool.false_eq_true, reduceIte, not_true_eq_false, not_false_eq_true]))
      · refine q_val (v := .bool true) (w0 rfl) (fun w_ c_ => r_move (v := .bool true) (vb (ev_t rfl rfl) (nbf h15))) ?_
        refine q_skip (wn rfl rfl rfl rfl rfl) ?_
        refine q_skip (wn rfl rfl rfl rfl rfl) ?_
        refine q_skip (wn rfl rfl rfl rfl rfl) ?_
        refine q_skip (wn rfl rfl rfl rfl rfl) ?_
        refine q_skip (wn rfl rfl rfl rfl rfl) ?_
        refine q_skip (wn rfl rfl rfl rfl rfl) ?_
        refine q_skip (wn rfl rfl rfl rfl rfl) ?_
        refine q_val (v := .bool true) (w0 rfl) (fun w_ c_ => r_pick1 (v := .bool true) (ev_t rfl rfl) ev_c) ?_
        refine q_done ?_
        intro w42 x43
        refine n_then ?_
        refine c_cond1 (ev_t rfl rfl) ?_
        refine c_seq (c_reg ?_)
        refine s_assign (v := .bool false) ev_c (w0 rfl) ?_
        refine c_done (n_then (c_ret (r_then ?_)))
        refine ret1 (v := .bool false) rfl rfl rfl ?_
        refine ⟨_, rfl, ?_, (Ext.trans (Keep.then_ (Ext.trans (NewB.ext n3) (NewB.ext n12)) (Wrote.keep k14) (fun i_ hi_ h_ => by have a_ := NewB.eq n12; have b_ := Keep.size (NewB.ext n3); omega)) x43)⟩
        (first | (have z_ : d = 0 := by omega); subst z_; rfl | (refine congrArg Value.bool ?_; rw [exB_pos (by omega)]; simp only [*, decide_true, decide_false, if_true, if_false, Bool.and_true, Bool.true_and, Bool.false_and, Bool.and_false, Bool.not_true, Bool.not_false, Bool.false_eq_true, reduceIte, not_true_eq_false, not_false_eq_true]))
theorem r4_expr : ∀ (d : Nat) (x : Ex) (A : Option Addr) (c : Nat) (w : World), d ≤ 100 → x.okc c → Row RE 6 w A x.kids → Rt Tryz.prog 108 #[.agg #[.int .i8 x.op, .string x.t.v, .int .i8 x.t.l.k, .int .i64 x.t.l.n, .string x.t.l.s, .slice A x.kids.length c], .int .i64 ((d : Nat) : Int)] w fun v w' => v = .bool (exB d x) ∧ Ext w w' := by
  intro d
  induction d with
  | zero =>
    intro x A c w hd ho hr
    exact r4_expr_step 0 x A c w ho hr hd (fun h => absurd rfl h)
  | succ d ih =>
    intro x A c w hd ho hr
    exact r4_expr_step (d + 1) x A c w ho hr hd (fun _ x A c w ho hr => ih x A c w (by omega) ho hr)
end Go.Proofs.Zw

set_option linter.unusedVariables false
set_option linter.unusedSimpArgs false
set_option maxRecDepth 10000
namespace Go.Proofs.Zw
open Go Go.Wk Go.Proofs Go.Lib
attribute [local irreducible] Go.wpList Go.wpStill Go.wpQuiet Go.Code.wp Go.Calls
theorem F_e109 : enterable Tryz.prog 109 = true := by kernel_rfl
theorem F_e110 : enterable Tryz.prog 110 = true := by kernel_rfl
theorem F_e111 : enterable Tryz.prog 111 = true := by kernel_rfl
theorem F_e112 : enterable Tryz.prog 112 = true := by kernel_rfl
theorem F_e62 : enterable Tryz.prog 62 = true := by kernel_rfl
theorem F_e73 : enterable Tryz.prog 73 = true := by kernel_rfl
theorem F_sz36 : (Tryz.prog.info? 36).map (·.size) = some 6 := by kernel_rfl
theorem F_z36 : (Tryz.prog.info? 36).bind (·.zero) = some (.agg #[.int .i8 0, .string (⟨#[]⟩ : ByteArray), .int .i8 0, .int .i64 0, .string (⟨#[]⟩ : ByteArray), .slice none 0 0]) := by kernel_rfl
set_option maxHeartbeats 4000000 in
theorem r6_within (d : Nat) (x : Ex) (A : Option Addr) (c : Nat) (b : Bool) (w : World) (ho : x.okc c) (hr : Row RE 6 w A x.kids) (he : ∀ (A : Option Addr) (c : Nat) (w : World), x.okc c → Row RE 6 w A x.kids → Rt Tryz.prog 73 #[.agg #[.int .i8 x.op, .string x.t.v, .int .i8 x.t.l.k, .int .i64 x.t.l.n, .string x.t.l.s, .slice A x.kids.length c]] w fun v w' => v = .string (exW d x) ∧ Ext w w') (hz : (exW d x).size ≤ 230400) :
    Rt Tryz.prog 110 #[.agg #[.int .i8 x.op, .string x.t.v, .int .i8 x.t.l.k, .int .i64 x.t.l.n, .string x.t.l.s, .slice A x.kids.length c], .bool b] w fun v w' => v = .string (inB b (exW d x)) ∧ Ext w w' := by
  refine enter Tryz.func110 rfl (l := [.agg #[.int .i8 x.op, .string x.t.v, .int .i8 x.t.l.k, .int .i64 x.t.l.n, .string x.t.l.s, .slice A x.kids.length c], .bool b]) rfl Tryz.ntmps110 (Nat.le_of_ble_eq_true rfl) ?_
  have hl_ := Ex.okc.l ho
  have hc_ := Ex.okc.c ho
  refine c_seq (c_reg ?_)
  refine s_box (v := .agg #[.int .i8 x.op, .string x.t.v, .int .i8 x.t.l.k, .int .i64 x.t.l.n, .string x.t.l.s, .slice A x.kids.length c]) (cs := #[.int .i8 x.op, .string x.t.v, .int .i8 x.t.l.k, .int .i64 x.t.l.n, .string x.t.l.s, .slice A x.kids.length c]) (w0 rfl) (ev_t rfl rfl) rfl ?_
  intro w2 g1 n3
  refine s_assign (v := .string (⟨#[]⟩ : ByteArray)) ev_c (w0 rfl) ?_
  refine c_done (n_then (c_seq (c_seq (c_reg ?_))))
  refine s_move (v := .bool b) (ev_t rfl rfl) (w0 rfl) ?_
  refine c_done (n_then ?_)
  rcases Bool.eq_false_or_eq_true b with h4 | h4
  · refine c_cond1 (vb (ev_t rfl rfl) h4) ?_
    refine c_seq (c_reg ?_)
    refine s_loadL (cs := [.int .i8 x.op, .string x.t.v, .int .i8 x.t.l.k, .int .i64 x.t.l.n, .string x.t.l.s, .slice A x.kids.length c]) (ca := #[.int .i8 x.op, .string x.t.v, .int .i8 x.t.l.k, .int .i64 x.t.l.n, .string x.t.l.s, .slice A x.kids.length c]) F_m36 (ev_t rfl rfl) rfl rfl (blk_cells (NewB.blk n3) 0 (cs := [.int .i8 x.op, .string x.t.v, .int .i8 x.t.l.k, .int .i64 x.t.l.n, .string x.t.l.s, .slice A x.kids.length c]) rfl) (w0 rfl) ?_
    refine s_call F_e73 (w0 rfl) ev_f (m1 (ev_t rfl rfl)) (args := #[.agg #[.int .i8 x.op, .string x.t.v, .int .i8 x.t.l.k, .int .i64 x.t.l.n, .string x.t.l.s, .slice A x.kids.length c]]) rfl (he A c _ ho (Row.extE hr (NewB.ext n3))) ?_
    rintro _ w6 ⟨rfl, x5⟩
    refine s_cat ev_c (ev_t rfl rfl) (by simp only [ByteArray.size_append, z0, z1, z2, z3, z4, z5, z6]; omega) (w0 rfl) ?_
    refine s_cat (ev_t rfl rfl) ev_c (by simp only [ByteArray.size_append, z0, z1, z2, z3, z4, z5, z6]; omega) (w0 rfl) ?_
    refine s_assign (v := .string ((⟨#[40]⟩ : ByteArray) ++ (exW d x) ++ (⟨#[41]⟩ : ByteArray))) (ev_t rfl rfl) (w0 rfl) ?_
    refine c_done (n_then (c_ret (r_then ?_)))
    refine ret1 (v := .string ((⟨#[40]⟩ : ByteArray) ++ (exW d x) ++ (⟨#[41]⟩ : ByteArray))) rfl rfl rfl ?_
    refine ⟨_, rfl, ?_, (Ext.trans (NewB.ext n3) x5)⟩
    (simp only [inB, *, if_true, if_false, Bool.false_eq_true]; try rfl)
  · refine c_cond0 (vb (ev_t rfl rfl) h4) ?_
    refine c_skip (n_then (c_seq (c_reg ?_)))
    refine s_loadL (cs := [.int .i8 x.op, .string x.t.v, .int .i8 x.t.l.k, .int .i64 x.t.l.n, .string x.t.l.s, .slice A x.kids.length c]) (ca := #[.int .i8 x.op, .string x.t.v, .int .i8 x.t.l.k, .int .i64 x.t.l.n, .string x.t.l.s, .slice A x.kids.length c]) F_m36 (ev_t rfl rfl) rfl rfl (blk_cells (NewB.blk n3) 0 (cs := [.int .i8 x.op, .string x.t.v, .int .i8 x.t.l.k, .int .i64 x.t.l.n, .string x.t.l.s, .slice A x.kids.length c]) rfl) (w0 rfl) ?_
    refine s_call F_e73 (w0 rfl) ev_f (m1 (ev_t rfl rfl)) (args := #[.agg #[.int .i8 x.op, .string x.t.v, .int .i8 x.t.l.k, .int .i64 x.t.l.n, .string x.t.l.s, .slice A x.kids.length c]]) rfl (he A c _ ho (Row.extE hr (NewB.ext n3))) ?_
    rintro _ w8 ⟨rfl, x7⟩
    refine s_assign (v := .string (exW d x)) (ev_t rfl rfl) (w0 rfl) ?_
    refine c_done (n_then (c_ret ?_))
    refine ret1 (v := .string (exW d x)) rfl rfl rfl ?_
    refine ⟨_, rfl, ?_, (Ext.trans (NewB.ext n3) x7)⟩
    (simp only [inB, *, if_true, if_false, Bool.false_eq_true]; try rfl)
/-- A kid's index, and that it may be. -/
theorem exOp {d : Nat} {x : Ex} (h : exB d x = true) : (0 ≤ x.op ∧ x.op ≤ 10) ∧ (x.op = 1 ∨ 8 ≤ x.op ∧ x.op ≤ 10 → 0 < x.kids.length) ∧ (¬ x.op = 0 ∧ ¬ x.op = 1 ∧ ¬ (8 ≤ x.op ∧ x.op ≤ 10) → 1 < x.kids.length) := ⟨ex_ops h, fun h1 => (ex_one h h1).1, fun h1 => (ex_two h h1.1 h1.2.1 h1.2.2).1⟩
theorem exKid0 {d : Nat} {x : Ex} (h : exB d x = true) (h0 : ¬ x.op = 0) : exB (d - 1) (x.kid 0) = true := by
  by_cases h1 : x.op = 1 ∨ 8 ≤ x.op ∧ x.op ≤ 10
  · exact (ex_one h h1).2
  · exact (ex_two h h0 (by omega) (by omega)).2.1
set_option maxHeartbeats 4000000 in
theorem r6_expr_step (d : Nat) (x : Ex) (A : Option Addr) (c : Nat) (w : World) (ho : x.okc c) (hr : Row RE 6 w A x.kids) (hd : d ≤ 8) (hb : exB d x = true) (ih : d ≠ 0 → ∀ (j : Nat) (y : Ex), x.kids[j]? = some y → exB (d - 1) y = true → ∀ (A : Option Addr) (c : Nat) (w : World), y.okc c → Row RE 6 w A y.kids → Rt Tryz.prog 73 #[.agg #[.int .i8 y.op, .string y.t.v, .int .i8 y.t.l.k, .int .i64 y.t.l.n, .string y.t.l.s, .slice A y.kids.length c]] w fun v w' => v = .string (exW (d - 1) y) ∧ Ext w w') :
    Rt Tryz.prog 73 #[.agg #[.int .i8 x.op, .string x.t.v, .int .i8 x.t.l.k, .int .i64 x.t.l.n, .string x.t.l.s, .slice A x.kids.length c]] w fun v w' => v = .string (exW d x) ∧ Ext w w' := by
  refine enter Tryz.func73 rfl (l := [.agg #[.int .i8 x.op, .string x.t.v, .int .i8 x.t.l.k, .int .i64 x.t.l.n, .string x.t.l.s, .slice A x.kids.length c]]) rfl Tryz.ntmps73 (Nat.le_of_ble_eq_true rfl) ?_
  have hl_ := Ex.okc.l ho
  have hc_ := Ex.okc.c ho
  have hk_ := Go.Wk.Row.ok hr ho.t
  have ⟨hd0_, _, _⟩ := exB_parts hb
  obtain ⟨ho1_, ho2_, ho3_⟩ := exOp hb
  have hw1_ := wordW_size x.op
  have hw2_ := signW_size x.op
  refine c_seq (c_reg ?_)
  refine s_box (v := .agg #[.int .i8 x.op, .string x.t.v, .int .i8 x.t.l.k, .int .i64 x.t.l.n, .string x.t.l.s, .slice A x.kids.length c]) (cs := #[.int .i8 x.op, .string x.t.v, .int .i8 x.t.l.k, .int .i64 x.t.l.n, .string x.t.l.s, .slice A x.kids.length c]) (w0 rfl) (ev_t rfl rfl) rfl ?_
  intro w2 g1 n3
  refine s_assign (v := .string (⟨#[]⟩ : ByteArray)) ev_c (w0 rfl) ?_
  refine c_done (n_then (c_seq (c_seq (c_reg ?_))))
  refine s_field (off := 0) (o' := 0) F_f36_0 (ev_t rfl rfl) rfl (w0 rfl) ?_
  refine s_load (v := .int .i8 x.op) F_o28 (ev_t rfl rfl) (cell_of_blk (i := 0) (NewB.blk n3) rfl) (w0 rfl) ?_
  refine c_done (n_then (c_block (c_seq (c_reg ?_))))
  refine s_cmp (r := decide (x.op = 0)) (ev_t rfl rfl) ev_c rfl (w0 rfl) ?_
  refine s_assign (v := .bool (decide (x.op = 0))) (ev_t rfl rfl) (w0 rfl) ?_
  refine c_done (n_then ?_)
  by_cases h4 : x.op = 0
  · refine c_cond1 (vb (ev_t rfl rfl) (decide_eq_true h4)) ?_
    refine c_seq (c_reg ?_)
    refine s_field (off := 1) (o' := 1) F_f36_1 (ev_t rfl rfl) rfl (w0 rfl) ?_
    refine s_loadL (cs := [.string x.t.v, .int .i8 x.t.l.k, .int .i64 x.t.l.n, .string x.t.l.s]) (ca := #[.string x.t.v, .int .i8 x.t.l.k, .int .i64 x.t.l.n, .string x.t.l.s]) F_m33 (ev_t rfl rfl) rfl rfl (blk_cells (NewB.blk n3) 1 (cs := [.string x.t.v, .int .i8 x.t.l.k, .int .i64 x.t.l.n, .string x.t.l.s]) rfl) (w0 rfl) ?_
    refine s_call F_e62 (w0 rfl) ev_f (m1 (ev_t rfl rfl)) (args := #[.agg #[.string x.t.v, .int .i8 x.t.l.k, .int .i64 x.t.l.n, .string x.t.l.s]]) rfl (r6_term x.t _ (Ex.okc.t ho)) ?_
    rintro _ w6 ⟨rfl, x5⟩
    refine s_assign (v := .string (termW x.t)) (ev_t rfl rfl) (w0 rfl) ?_
    refine c_done (n_then (c_ret (r_block (r_then ?_))))
    refine ret1 (v := .string (termW x.t)) rfl rfl rfl ?_
    refine ⟨_, rfl, ?_, (Ext.trans (NewB.ext n3) x5)⟩
    (refine congrArg Value.string ?_; rw [exW_pos hd0_]; first | (rw [if_pos (by omega)]; done) | (rw [if_neg (by omega), if_pos (by omega)]; done) | (rw [if_neg (by omega), if_neg (by omega), if_pos (by omega)]; refine congrArg _ (congrArg (fun b => inB b _) ?_); simp [numB, *]; done) | (rw [if_neg (by omega), if_neg (by omega), if_neg (by omega)]; done))
  · refine c_cond0 (vb (ev_t rfl rfl) (decide_eq_false h4)) ?_
    refine c_seq (c_seq (c_reg ?_))
    refine s_cmp (r := decide (x.op = 8)) (ev_t rfl rfl) ev_c rfl (w0 rfl) ?_
    refine s_assign (v := .bool (decide (x.op = 8))) (ev_t rfl rfl) (w0 rfl) ?_
    refine c_done (n_then ?_)
    by_cases h7 : x.op = 8
    · refine c_cond1 (vb (ev_t rfl rfl) (decide_eq_true h7)) ?_
      refine c_skip (n_then ?_)
      refine c_cond1 (vb (ev_t rfl rfl) (decide_eq_true h7)) ?_
      refine c_seq ?_
      refine c_quiet mixed (by kernel_rfl) ?_
      refine q_val (v := .pointer (some ⟨g1, 0, none⟩)) (w0 rfl) (fun w_ c_ => r_field (off := 0) (o' := 0) F_f36_0 (ev_t rfl rfl) rfl) ?_
      refine q_val (v := .int .i8 x.op) (w0 rfl) (fun w_ c_ => r_load (v := .int .i8 x.op) F_o28 (ev_t rfl rfl) (cell_of_blk (i := 0) (Ext.blk c_ (NewB.blk n3)) rfl)) ?_
      refine q_call (v := .string (wordW x.op)) F_e109 (w0 rfl) ev_f (m1 (ev_t rfl rfl)) (args := #[.int .i8 x.op]) rfl (fun w_ c_ => Rt.mono (r6_word x.op _) (fun v_ w2_ h_ => ⟨h_.1, Ext.trans c_ h_.2⟩)) ?_
      refine q_val (v := .string (wordW x.op ++ (⟨#[40]⟩ : ByteArray))) (w0 rfl) (fun w_ c_ => r_cat (ev_t rfl rfl) ev_c (by simp only [ByteArray.size_append, z0, z1, z2, z3, z4, z5, z6]; omega)) ?_
      refine q_val (v := .pointer (some ⟨g1, 5, none⟩)) (w0 rfl) (fun w_ c_ => r_field (off := 5) (o' := 5) F_f36_2 (ev_t rfl rfl) rfl) ?_
      refine q_val (v := .slice A x.kids.length c) (w0 rfl) (fun w_ c_ => r_load (v := .slice A x.kids.length c) F_o34 (ev_t rfl rfl) (cell_of_blk (i := 5) (Ext.blk c_ (NewB.blk n3)) rfl)) ?_
      obtain ⟨b8, o9, x10, csx10, hA11, hx12, hR13, hc14⟩ := Row.at_ hr 0 (by omega)
      obtain rfl := Ex.kid_of hx12
      obtain ⟨A15, c16, rfl, ho17, hr18⟩ := RE.open_ hR13
      refine q_val (v := .pointer (some ⟨b8, o9 + 0 * 6, none⟩)) (w0 rfl) (fun w_ c_ => r_indexR (j := 0) F_l34 (ev_t rfl rfl) hA11 ev_c rfl (by omega)) ?_
      refine q_val (v := .agg #[.int .i8 ((x.kid 0).op), .string ((x.kid 0).t.v), .int .i8 ((x.kid 0).t.l.k), .int .i64 ((x.kid 0).t.l.n), .string ((x.kid 0).t.l.s), .slice A15 ((x.kid 0).kids.length) c16]) (w0 rfl) (fun w_ c_ => r_loadL (cs := [.int .i8 ((x.kid 0).op), .string ((x.kid 0).t.v), .int .i8 ((x.kid 0).t.l.k), .int .i64 ((x.kid 0).t.l.n), .string ((x.kid 0).t.l.s), .slice A15 ((x.kid 0).kids.length) c16]) (ca := #[.int .i8 ((x.kid 0).op), .string ((x.kid 0).t.v), .int .i8 ((x.kid 0).t.l.k), .int .i64 ((x.kid 0).t.l.n), .string ((x.kid 0).t.l.s), .slice A15 ((x.kid 0).kids.length) c16]) F_m36 (ev_t rfl rfl) rfl rfl (sub_cells (cells_ext c_ (cells_ext (NewB.ext n3) hc14)) 0 (cs2 := [.int .i8 ((x.kid 0).op), .string ((x.kid 0).t.v), .int .i8 ((x.kid 0).t.l.k), .int .i64 ((x.kid 0).t.l.n), .string ((x.kid 0).t.l.s), .slice A15 ((x.kid 0).kids.length) c16]) rfl)) ?_
      have hz19 := exW_le (d := d - 1) (by omega) (exKid0 hb (by omega)) (Ex.Ok.kid hk_ (kid_there (x := x) (j := 0) (by omega)))
      refine q_call (v := .string (exW (d - 1) (x.kid 0))) F_e73 (w0 rfl) ev_f (m1 (ev_t rfl rfl)) (args := #[.agg #[.int .i8 ((x.kid 0).op), .string ((x.kid 0).t.v), .int .i8 ((x.kid 0).t.l.k), .int .i64 ((x.kid 0).t.l.n), .string ((x.kid 0).t.l.s), .slice A15 ((x.kid 0).kids.length) c16]]) rfl (fun w_ c_ => Rt.mono (ih (by omega) 0 _ (kid_there (x := x) (j := 0) (by omega)) (exKid0 hb (by omega)) A15 c16 _ ho17 (Row.extE (Row.extE hr18 (NewB.ext n3)) c_)) (fun v_ w2_ h_ => ⟨h_.1, Ext.trans c_ h_.2⟩)) ?_
      refine q_val (v := .string (wordW x.op ++ (⟨#[40]⟩ : ByteArray) ++ (exW (d - 1) (x.kid 0)))) (w0 rfl) (fun w_ c_ => r_cat (ev_t rfl rfl) (ev_t rfl rfl) (by simp only [ByteArray.size_append, z0, z1, z2, z3, z4, z5, z6]; omega)) ?_
      refine q_val (v := .string (wordW x.op ++ (⟨#[40]⟩ : ByteArray) ++ (exW (d - 1) (x.kid 0)) ++ (⟨#[41]⟩ : ByteArray))) (w0 rfl) (fun w_ c_ => r_cat (ev_t rfl rfl) ev_c (by simp only [ByteArray.size_append, z0, z1, z2, z3, z4, z5, z6]; omega)) ?_
      refine q_val (v := .string (wordW x.op ++ (⟨#[40]⟩ : ByteArray) ++ (exW (d - 1) (x.kid 0)) ++ (⟨#[41]⟩ : ByteArray))) (w0 rfl) (fun w_ c_ => r_assign (v := .string (wordW x.op ++ (⟨#[40]⟩ : ByteArray) ++ (exW (d - 1) (x.kid 0)) ++ (⟨#[41]⟩ : ByteArray))) (ev_t rfl rfl)) ?_
      refine q_done ?_
      intro w20 x21
      refine n_then (c_ret (r_block (r_then ?_)))
      refine ret1 (v := .string (wordW x.op ++ (⟨#[40]⟩ : ByteArray) ++ (exW (d - 1) (x.kid 0)) ++ (⟨#[41]⟩ : ByteArray))) rfl rfl rfl ?_
      refine ⟨_, rfl, ?_, (Ext.trans (NewB.ext n3) x21)⟩
      (refine congrArg Value.string ?_; rw [exW_pos hd0_]; first | (rw [if_pos (by omega)]; done) | (rw [if_neg (by omega), if_pos (by omega)]; done) | (rw [if_neg (by omega), if_neg (by omega), if_pos (by omega)]; refine congrArg _ (congrArg (fun b => inB b _) ?_); simp [numB, *]; done) | (rw [if_neg (by omega), if_neg (by omega), if_neg (by omega)]; done))
    · refine c_cond0 (vb (ev_t rfl rfl) (decide_eq_false h7)) ?_
      refine c_seq (c_reg ?_)
      refine s_cmp (r := decide (x.op = 9)) (ev_t rfl rfl) ev_c rfl (w0 rfl) ?_
      refine s_assign (v := .bool (decide (x.op = 9))) (ev_t rfl rfl) (w0 rfl) ?_
      refine c_done (n_then ?_)
      by_cases h22 : x.op = 9
      · refine c_cond1 (vb (ev_t rfl rfl) (decide_eq_true h22)) ?_
        refine c_skip (n_then ?_)
        refine c_cond1 (vb (ev_t rfl rfl) (decide_eq_true h22)) ?_
        refine c_seq ?_
        refine c_quiet mixed (by kernel_rfl) ?_
        refine q_val (v := .pointer (some ⟨g1, 0, none⟩)) (w0 rfl) (fun w_ c_ => r_field (off := 0) (o' := 0) F_f36_0 (ev_t rfl rfl) rfl) ?_
        refine q_val (v := .int .i8 x.op) (w0 rfl) (fun w_ c_ => r_load (v := .int .i8 x.op) F_o28 (ev_t rfl rfl) (cell_of_blk (i := 0) (Ext.blk c_ (NewB.blk n3)) rfl)) ?_
        refine q_call (v := .string (wordW x.op)) F_e109 (w0 rfl) ev_f (m1 (ev_t rfl rfl)) (args := #[.int .i8 x.op]) rfl (fun w_ c_ => Rt.mono (r6_word x.op _) (fun v_ w2_ h_ => ⟨h_.1, Ext.trans c_ h_.2⟩)) ?_
        refine q_val (v := .string (wordW x.op ++ (⟨#[40]⟩ : ByteArray))) (w0 rfl) (fun w_ c_ => r_cat (ev_t rfl rfl) ev_c (by simp only [ByteArray.size_append, z0, z1, z2, z3, z4, z5, z6]; omega)) ?_
        refine q_val (v := .pointer (some ⟨g1, 5, none⟩)) (w0 rfl) (fun w_ c_ => r_field (off := 5) (o' := 5) F_f36_2 (ev_t rfl rfl) rfl) ?_
        refine q_val (v := .slice A x.kids.length c) (w0 rfl) (fun w_ c_ => r_load (v := .slice A x.kids.length c) F_o34 (ev_t rfl rfl) (cell_of_blk (i := 5) (Ext.blk c_ (NewB.blk n3)) rfl)) ?_
        obtain ⟨b23, o24, x25, csx25, hA26, hx27, hR28, hc29⟩ := Row.at_ hr 0 (by omega)
        obtain rfl := Ex.kid_of hx27
        obtain ⟨A30, c31, rfl, ho32, hr33⟩ := RE.open_ hR28
        refine q_val (v := .pointer (some ⟨b23, o24 + 0 * 6, none⟩)) (w0 rfl) (fun w_ c_ => r_indexR (j := 0) F_l34 (ev_t rfl rfl) hA26 ev_c rfl (by omega)) ?_
        refine q_val (v := .agg #[.int .i8 ((x.kid 0).op), .string ((x.kid 0).t.v), .int .i8 ((x.kid 0).t.l.k), .int .i64 ((x.kid 0).t.l.n), .string ((x.kid 0).t.l.s), .slice A30 ((x.kid 0).kids.length) c31]) (w0 rfl) (fun w_ c_ => r_loadL (cs := [.int .i8 ((x.kid 0).op), .string ((x.kid 0).t.v), .int .i8 ((x.kid 0).t.l.k), .int .i64 ((x.kid 0).t.l.n), .string ((x.kid 0).t.l.s), .slice A30 ((x.kid 0).kids.length) c31]) (ca := #[.int .i8 ((x.kid 0).op), .string ((x.kid 0).t.v), .int .i8 ((x.kid 0).t.l.k), .int .i64 ((x.kid 0).t.l.n), .string ((x.kid 0).t.l.s), .slice A30 ((x.kid 0).kids.length) c31]) F_m36 (ev_t rfl rfl) rfl rfl (sub_cells (cells_ext c_ (cells_ext (NewB.ext n3) hc29)) 0 (cs2 := [.int .i8 ((x.kid 0).op), .string ((x.kid 0).t.v), .int .i8 ((x.kid 0).t.l.k), .int .i64 ((x.kid 0).t.l.n), .string ((x.kid 0).t.l.s), .slice A30 ((x.kid 0).kids.length) c31]) rfl)) ?_
        have hz34 := exW_le (d := d - 1) (by omega) (exKid0 hb (by omega)) (Ex.Ok.kid hk_ (kid_there (x := x) (j := 0) (by omega)))
        refine q_call (v := .string (exW (d - 1) (x.kid 0))) F_e73 (w0 rfl) ev_f (m1 (ev_t rfl rfl)) (args := #[.agg #[.int .i8 ((x.kid 0).op), .string ((x.kid 0).t.v), .int .i8 ((x.kid 0).t.l.k), .int .i64 ((x.kid 0).t.l.n), .string ((x.kid 0).t.l.s), .slice A30 ((x.kid 0).kids.length) c31]]) rfl (fun w_ c_ => Rt.mono (ih (by omega) 0 _ (kid_there (x := x) (j := 0) (by omega)) (exKid0 hb (by omega)) A30 c31 _ ho32 (Row.extE (Row.extE hr33 (NewB.ext n3)) c_)) (fun v_ w2_ h_ => ⟨h_.1, Ext.trans c_ h_.2⟩)) ?_
        refine q_val (v := .string (wordW x.op ++ (⟨#[40]⟩ : ByteArray) ++ (exW (d - 1) (x.kid 0)))) (w0 rfl) (fun w_ c_ => r_cat (ev_t rfl rfl) (ev_t rfl rfl) (by simp only [ByteArray.size_append, z0, z1, z2, z3, z4, z5, z6]; omega)) ?_
        refine q_val (v := .string (wordW x.op ++ (⟨#[40]⟩ : ByteArray) ++ (exW (d - 1) (x.kid 0)) ++ (⟨#[41]⟩ : ByteArray))) (w0 rfl) (fun w_ c_ => r_cat (ev_t rfl rfl) ev_c (by simp only [ByteArray.size_append, z0, z1, z2, z3, z4, z5, z6]; omega)) ?_
        refine q_val (v := .string (wordW x.op ++ (⟨#[40]⟩ : ByteArray) ++ (exW (d - 1) (x.kid 0)) ++ (⟨#[41]⟩ : ByteArray))) (w0 rfl) (fun w_ c_ => r_assign (v := .string (wordW x.op ++ (⟨#[40]⟩ : ByteArray) ++ (exW (d - 1) (x.kid 0)) ++ (⟨#[41]⟩ : ByteArray))) (ev_t rfl rfl)) ?_
        refine q_done ?_
        intro w35 x36
        refine n_then (c_ret (r_block (r_then ?_)))
        refine ret1 (v := .string (wordW x.op ++ (⟨#[40]⟩ : ByteArray) ++ (exW (d - 1) (x.kid 0)) ++ (⟨#[41]⟩ : ByteArray))) rfl rfl rfl ?_
        refine ⟨_, rfl, ?_, (Ext.trans (NewB.ext n3) x36)⟩
        (refine congrArg Value.string ?_; rw [exW_pos hd0_]; first | (rw [if_pos (by omega)]; done) | (rw [if_neg (by omega), if_pos (by omega)]; done) | (rw [if_neg (by omega), if_neg (by omega), if_pos (by omega)]; refine congrArg _ (congrArg (fun b => inB b _) ?_); simp [numB, *]; done) | (rw [if_neg (by omega), if_neg (by omega), if_neg (by omega)]; done))
      · refine c_cond0 (vb (ev_t rfl rfl) (decide_eq_false h22)) ?_
        refine c_reg ?_
        refine s_cmp (r := decide (x.op = 10)) (ev_t rfl rfl) ev_c rfl (w0 rfl) ?_
        refine s_assign (v := .bool (decide (x.op = 10))) (ev_t rfl rfl) (w0 rfl) ?_
        refine c_done (n_then ?_)
        by_cases h37 : x.op = 10
        · refine c_cond1 (vb (ev_t rfl rfl) (decide_eq_true h37)) ?_
          refine c_seq ?_
          refine c_quiet mixed (by kernel_rfl) ?_
          refine q_val (v := .pointer (some ⟨g1, 0, none⟩)) (w0 rfl) (fun w_ c_ => r_field (off := 0) (o' := 0) F_f36_0 (ev_t rfl rfl) rfl) ?_
          refine q_val (v := .int .i8 x.op) (w0 rfl) (fun w_ c_ => r_load (v := .int .i8 x.op) F_o28 (ev_t rfl rfl) (cell_of_blk (i := 0) (Ext.blk c_ (NewB.blk n3)) rfl)) ?_
          refine q_call (v := .string (wordW x.op)) F_e109 (w0 rfl) ev_f (m1 (ev_t rfl rfl)) (args := #[.int .i8 x.op]) rfl (fun w_ c_ => Rt.mono (r6_word x.op _) (fun v_ w2_ h_ => ⟨h_.1, Ext.trans c_ h_.2⟩)) ?_
          refine q_val (v := .string (wordW x.op ++ (⟨#[40]⟩ : ByteArray))) (w0 rfl) (fun w_ c_ => r_cat (ev_t rfl rfl) ev_c (by simp only [ByteArray.size_append, z0, z1, z2, z3, z4, z5, z6]; omega)) ?_
          refine q_val (v := .pointer (some ⟨g1, 5, none⟩)) (w0 rfl) (fun w_ c_ => r_field (off := 5) (o' := 5) F_f36_2 (ev_t rfl rfl) rfl) ?_
          refine q_val (v := .slice A x.kids.length c) (w0 rfl) (fun w_ c_ => r_load (v := .slice A x.kids.length c) F_o34 (ev_t rfl rfl) (cell_of_blk (i := 5) (Ext.blk c_ (NewB.blk n3)) rfl)) ?_
          obtain ⟨b38, o39, x40, csx40, hA41, hx42, hR43, hc44⟩ := Row.at_ hr 0 (by omega)
          obtain rfl := Ex.kid_of hx42
          obtain ⟨A45, c46, rfl, ho47, hr48⟩ := RE.open_ hR43
          refine q_val (v := .pointer (some ⟨b38, o39 + 0 * 6, none⟩)) (w0 rfl) (fun w_ c_ => r_indexR (j := 0) F_l34 (ev_t rfl rfl) hA41 ev_c rfl (by omega)) ?_
          refine q_val (v := .agg #[.int .i8 ((x.kid 0).op), .string ((x.kid 0).t.v), .int .i8 ((x.kid 0).t.l.k), .int .i64 ((x.kid 0).t.l.n), .string ((x.kid 0).t.l.s), .slice A45 ((x.kid 0).kids.length) c46]) (w0 rfl) (fun w_ c_ => r_loadL (cs := [.int .i8 ((x.kid 0).op), .string ((x.kid 0).t.v), .int .i8 ((x.kid 0).t.l.k), .int .i64 ((x.kid 0).t.l.n), .string ((x.kid 0).t.l.s), .slice A45 ((x.kid 0).kids.length) c46]) (ca := #[.int .i8 ((x.kid 0).op), .string ((x.kid 0).t.v), .int .i8 ((x.kid 0).t.l.k), .int .i64 ((x.kid 0).t.l.n), .string ((x.kid 0).t.l.s), .slice A45 ((x.kid 0).kids.length) c46]) F_m36 (ev_t rfl rfl) rfl rfl (sub_cells (cells_ext c_ (cells_ext (NewB.ext n3) hc44)) 0 (cs2 := [.int .i8 ((x.kid 0).op), .string ((x.kid 0).t.v), .int .i8 ((x.kid 0).t.l.k), .int .i64 ((x.kid 0).t.l.n), .string ((x.kid 0).t.l.s), .slice A45 ((x.kid 0).kids.length) c46]) rfl)) ?_
          have hz49 := exW_le (d := d - 1) (by omega) (exKid0 hb (by omega)) (Ex.Ok.kid hk_ (kid_there (x := x) (j := 0) (by omega)))
          refine q_call (v := .string (exW (d - 1) (x.kid 0))) F_e73 (w0 rfl) ev_f (m1 (ev_t rfl rfl)) (args := #[.agg #[.int .i8 ((x.kid 0).op), .string ((x.kid 0).t.v), .int .i8 ((x.kid 0).t.l.k), .int .i64 ((x.kid 0).t.l.n), .string ((x.kid 0).t.l.s), .slice A45 ((x.kid 0).kids.length) c46]]) rfl (fun w_ c_ => Rt.mono (ih (by omega) 0 _ (kid_there (x := x) (j := 0) (by omega)) (exKid0 hb (by omega)) A45 c46 _ ho47 (Row.extE (Row.extE hr48 (NewB.ext n3)) c_)) (fun v_ w2_ h_ => ⟨h_.1, Ext.trans c_ h_.2⟩)) ?_
          refine q_val (v := .string (wordW x.op ++ (⟨#[40]⟩ : ByteArray) ++ (exW (d - 1) (x.kid 0)))) (w0 rfl) (fun w_ c_ => r_cat (ev_t rfl rfl) (ev_t rfl rfl) (by simp only [ByteArray.size_append, z0, z1, z2, z3, z4, z5, z6]; omega)) ?_
          refine q_val (v := .string (wordW x.op ++ (⟨#[40]⟩ : ByteArray) ++ (exW (d - 1) (x.kid 0)) ++ (⟨#[41]⟩ : ByteArray))) (w0 rfl) (fun w_ c_ => r_cat (ev_t rfl rfl) ev_c (by simp only [ByteArray.size_append, z0, z1, z2, z3, z4, z5, z6]; omega)) ?_
          refine q_val (v := .string (wordW x.op ++ (⟨#[40]⟩ : ByteArray) ++ (exW (d - 1) (x.kid 0)) ++ (⟨#[41]⟩ : ByteArray))) (w0 rfl) (fun w_ c_ => r_assign (v := .string (wordW x.op ++ (⟨#[40]⟩ : ByteArray) ++ (exW (d - 1) (x.kid 0)) ++ (⟨#[41]⟩ : ByteArray))) (ev_t rfl rfl)) ?_
          refine q_done ?_
          intro w50 x51
          refine n_then (c_ret (r_block (r_then ?_)))
          refine ret1 (v := .string (wordW x.op ++ (⟨#[40]⟩ : ByteArray) ++ (exW (d - 1) (x.kid 0)) ++ (⟨#[41]⟩ : ByteArray))) rfl rfl rfl ?_
          refine ⟨_, rfl, ?_, (Ext.trans (NewB.ext n3) x51)⟩
          (refine congrArg Value.string ?_; rw [exW_pos hd0_]; first | (rw [if_pos (by omega)]; done) | (rw [if_neg (by omega), if_pos (by omega)]; done) | (rw [if_neg (by omega), if_neg (by omega), if_pos (by omega)]; refine congrArg _ (congrArg (fun b => inB b _) ?_); simp [numB, *]; done) | (rw [if_neg (by omega), if_neg (by omega), if_neg (by omega)]; done))
        · refine c_cond0 (vb (ev_t rfl rfl) (decide_eq_false h37)) ?_
          refine c_seq (c_reg ?_)
          refine s_cmp (r := decide (x.op = 1)) (ev_t rfl rfl) ev_c rfl (w0 rfl) ?_
          refine s_assign (v := .bool (decide (x.op = 1))) (ev_t rfl rfl) (w0 rfl) ?_
          refine c_done (n_then ?_)
          by_cases h52 : x.op = 1
          · refine c_cond1 (vb (ev_t rfl rfl) (decide_eq_true h52)) ?_
            refine c_seq (c_reg ?_)
            refine s_field (off := 5) (o' := 5) F_f36_2 (ev_t rfl rfl) rfl (w0 rfl) ?_
            refine s_load (v := .slice A x.kids.length c) F_o34 (ev_t rfl rfl) (cell_of_blk (i := 5) (NewB.blk n3) rfl) (w0 rfl) ?_
            obtain ⟨b53, o54, x55, csx55, hA56, hx57, hR58, hc59⟩ := Row.at_ hr 0 (by omega)
            obtain rfl := Ex.kid_of hx57
            obtain ⟨A60, c61, rfl, ho62, hr63⟩ := RE.open_ hR58
            refine s_indexR (j := 0) F_l34 (ev_t rfl rfl) hA56 ev_c rfl (by omega) (w0 rfl) ?_
            refine s_loadL (cs := [.int .i8 ((x.kid 0).op), .string ((x.kid 0).t.v), .int .i8 ((x.kid 0).t.l.k), .int .i64 ((x.kid 0).t.l.n), .string ((x.kid 0).t.l.s), .slice A60 ((x.kid 0).kids.length) c61]) (ca := #[.int .i8 ((x.kid 0).op), .string ((x.kid 0).t.v), .int .i8 ((x.kid 0).t.l.k), .int .i64 ((x.kid 0).t.l.n), .string ((x.kid 0).t.l.s), .slice A60 ((x.kid 0).kids.length) c61]) F_m36 (ev_t rfl rfl) rfl rfl (sub_cells (cells_ext (NewB.ext n3) hc59) 0 (cs2 := [.int .i8 ((x.kid 0).op), .string ((x.kid 0).t.v), .int .i8 ((x.kid 0).t.l.k), .int .i64 ((x.kid 0).t.l.n), .string ((x.kid 0).t.l.s), .slice A60 ((x.kid 0).kids.length) c61]) rfl) (w0 rfl) ?_
            refine s_alloc (cs := #[.int .i8 0, .string (⟨#[]⟩ : ByteArray), .int .i8 0, .int .i64 0, .string (⟨#[]⟩ : ByteArray), .slice none 0 0]) (w0 rfl) F_z36 rfl ?_
            intro w65 g64 n66
            refine s_store (cs' := #[.int .i8 ((x.kid 0).op), .string ((x.kid 0).t.v), .int .i8 ((x.kid 0).t.l.k), .int .i64 ((x.kid 0).t.l.n), .string ((x.kid 0).t.l.s), .slice A60 ((x.kid 0).kids.length) c61]) F_sz36 (ev_t rfl rfl) (ev_t rfl rfl) (l := [.int .i8 ((x.kid 0).op), .string ((x.kid 0).t.v), .int .i8 ((x.kid 0).t.l.k), .int .i64 ((x.kid 0).t.l.n), .string ((x.kid 0).t.l.s), .slice A60 ((x.kid 0).kids.length) c61]) rfl rfl rfl (NewB.blk n66) (Nat.le_of_ble_eq_true rfl) rfl (w0 rfl) ?_
            intro w67 k68
            refine c_done (n_then (c_seq (c_reg ?_)))
            refine s_field (off := 0) (o' := 0) F_f36_0 (ev_t rfl rfl) rfl (w0 rfl) ?_
            refine s_load (v := .int .i8 ((x.kid 0).op)) F_o28 (ev_t rfl rfl) (cell_of_blk (i := 0) (Wrote.blk k68) rfl) (w0 rfl) ?_
            refine s_cmp (r := decide ((x.kid 0).op = 0)) (ev_t rfl rfl) ev_c rfl (w0 rfl) ?_
            by_cases h69 : (x.kid 0).op = 0
            · refine s_move (v := .bool true) (vb (ev_t rfl rfl) (decide_eq_true h69)) (w0 rfl) ?_
              refine s_field (off := 1) (o' := 1) F_f36_1 (ev_t rfl rfl) rfl (wy rfl rfl rfl rfl) ?_
              refine s_field (off := 0) (o' := 1) F_f33_0 (ev_t rfl rfl) rfl (wy rfl rfl rfl rfl) ?_
              refine s_load (v := .string ((x.kid 0).t.v)) F_o9 (ev_t rfl rfl) (cell_of_blk (i := 1) (Wrote.blk k68) rfl) (wy rfl rfl rfl rfl) ?_
              refine s_cmpS (r := decide ((x.kid 0).t.v = (⟨#[]⟩ : ByteArray))) (ev_t rfl rfl) ev_c rfl (wy rfl rfl rfl rfl) ?_
              refine s_pick1 (v := .bool (decide ((x.kid 0).t.v = (⟨#[]⟩ : ByteArray)))) (ev_t rfl rfl) (ev_t rfl rfl) (w0 rfl) ?_
              by_cases h70 : (x.kid 0).t.v = (⟨#[]⟩ : ByteArray)
              · refine s_move (v := .bool true) (vb (ev_t rfl rfl) (decide_eq_true h70)) (w0 rfl) ?_
                refine s_field (off := 1) (o' := 1) F_f36_1 (ev_t rfl rfl) rfl (wy rfl rfl rfl rfl) ?_
                refine s_field (off := 1) (o' := 2) F_f33_1 (ev_t rfl rfl) rfl (wy rfl rfl rfl rfl) ?_
                refine s_field (off := 0) (o' := 2) F_f31_0 (ev_t rfl rfl) rfl (wy rfl rfl rfl rfl) ?_
                refine s_load (v := .int .i8 ((x.kid 0).t.l.k)) F_o29 (ev_t rfl rfl) (cell_of_blk (i := 2) (Wrote.blk k68) rfl) (wy rfl rfl rfl rfl) ?_
                refine s_cmp (r := decide ((x.kid 0).t.l.k = 1)) (ev_t rfl rfl) ev_c rfl (wy rfl rfl rfl rfl) ?_
                refine s_pick1 (v := .bool (decide ((x.kid 0).t.l.k = 1))) (ev_t rfl rfl) (ev_t rfl rfl) (w0 rfl) ?_
                by_cases h71 : (x.kid 0).t.l.k = 1
                · refine s_move (v := .bool true) (vb (ev_t rfl rfl) (decide_eq_true h71)) (w0 rfl) ?_
                  refine s_field (off := 1) (o' := 1) F_f36_1 (ev_t rfl rfl) rfl (wy rfl rfl rfl rfl) ?_
                  refine s_field (off := 1) (o' := 2) F_f33_1 (ev_t rfl rfl) rfl (wy rfl rfl rfl rfl) ?_
                  refine s_field (off := 1) (o' := 3) F_f31_1 (ev_t rfl rfl) rfl (wy rfl rfl rfl rfl) ?_
                  refine s_load (v := .int .i64 ((x.kid 0).t.l.n)) F_o2 (ev_t rfl rfl) (cell_of_blk (i := 3) (Wrote.blk k68) rfl) (wy rfl rfl rfl rfl) ?_
                  refine s_cmp (r := decide (0 ≤ (x.kid 0).t.l.n)) (ev_t rfl rfl) ev_c rfl (wy rfl rfl rfl rfl) ?_
                  refine s_pick1 (v := .bool (decide (0 ≤ (x.kid 0).t.l.n))) (ev_t rfl rfl) (ev_t rfl rfl) (w0 rfl) ?_
                  refine s_assign (v := .bool (decide (0 ≤ (x.kid 0).t.l.n))) (ev_t rfl rfl) (w0 rfl) ?_
                  refine c_done (n_then (c_seq ?_))
                  refine c_quiet mixed (by kernel_rfl) ?_
                  refine q_val (v := .agg #[.int .i8 ((x.kid 0).op), .string ((x.kid 0).t.v), .int .i8 ((x.kid 0).t.l.k), .int .i64 ((x.kid 0).t.l.n), .string ((x.kid 0).t.l.s), .slice A60 ((x.kid 0).kids.length) c61]) (w0 rfl) (fun w_ c_ => r_loadL (cs := [.int .i8 ((x.kid 0).op), .string ((x.kid 0).t.v), .int .i8 ((x.kid 0).t.l.k), .int .i64 ((x.kid 0).t.l.n), .string ((x.kid 0).t.l.s), .slice A60 ((x.kid 0).kids.length) c61]) (ca := #[.int .i8 ((x.kid 0).op), .string ((x.kid 0).t.v), .int .i8 ((x.kid 0).t.l.k), .int .i64 ((x.kid 0).t.l.n), .string ((x.kid 0).t.l.s), .slice A60 ((x.kid 0).kids.length) c61]) F_m36 (ev_t rfl rfl) rfl rfl (blk_cells (Ext.blk c_ (Wrote.blk k68)) 0 (cs := [.int .i8 ((x.kid 0).op), .string ((x.kid 0).t.v), .int .i8 ((x.kid 0).t.l.k), .int .i64 ((x.kid 0).t.l.n), .string ((x.kid 0).t.l.s), .slice A60 ((x.kid 0).kids.length) c61]) rfl)) ?_
                  refine q_val (v := .agg #[.int .i8 ((x.kid 0).op), .string ((x.kid 0).t.v), .int .i8 ((x.kid 0).t.l.k), .int .i64 ((x.kid 0).t.l.n), .string ((x.kid 0).t.l.s), .slice A60 ((x.kid 0).kids.length) c61]) (w0 rfl) (fun w_ c_ => r_loadL (cs := [.int .i8 ((x.kid 0).op), .string ((x.kid 0).t.v), .int .i8 ((x.kid 0).t.l.k), .int .i64 ((x.kid 0).t.l.n), .string ((x.kid 0).t.l.s), .slice A60 ((x.kid 0).kids.length) c61]) (ca := #[.int .i8 ((x.kid 0).op), .string ((x.kid 0).t.v), .int .i8 ((x.kid 0).t.l.k), .int .i64 ((x.kid 0).t.l.n), .string ((x.kid 0).t.l.s), .slice A60 ((x.kid 0).kids.length) c61]) F_m36 (ev_t rfl rfl) rfl rfl (blk_cells (Ext.blk c_ (Wrote.blk k68)) 0 (cs := [.int .i8 ((x.kid 0).op), .string ((x.kid 0).t.v), .int .i8 ((x.kid 0).t.l.k), .int .i64 ((x.kid 0).t.l.n), .string ((x.kid 0).t.l.s), .slice A60 ((x.kid 0).kids.length) c61]) rfl)) ?_
                  refine q_call (v := .int .i64 (fast (x.kid 0))) F_e111 (w0 rfl) ev_f (m1 (ev_t rfl rfl)) (args := #[.agg #[.int .i8 ((x.kid 0).op), .string ((x.kid 0).t.v), .int .i8 ((x.kid 0).t.l.k), .int .i64 ((x.kid 0).t.l.n), .string ((x.kid 0).t.l.s), .slice A60 ((x.kid 0).kids.length) c61]]) rfl (fun w_ c_ => Rt.mono (r6_Fast (x.kid 0) A60 c61 _ ho62 (Row.extE hr63 (Ext.trans (Keep.then_ (Ext.trans (NewB.ext n3) (NewB.ext n66)) (Wrote.keep k68) (fun i_ hi_ h_ => by have a_ := NewB.eq n66; have b_ := Keep.size (NewB.ext n3); omega)) c_))) (fun v_ w2_ h_ => ⟨h_.1, Ext.trans c_ h_.2⟩)) ?_
                  refine q_val (v := .bool (decide (fast (x.kid 0) < 3))) (w0 rfl) (fun w_ c_ => r_cmp (r := decide (fast (x.kid 0) < 3)) (ev_t rfl rfl) ev_c rfl) ?_
                  by_cases h72 : fast (x.kid 0) < 3
                  · refine q_val (v := .bool true) (w0 rfl) (fun w_ c_ => r_move (v := .bool true) (vb (ev_t rfl rfl) (decide_eq_true h72))) ?_
                    refine q_skip (wn rfl rfl rfl rfl rfl) ?_
                    refine q_val (v := .bool true) (w0 rfl) (fun w_ c_ => r_pick1 (v := .bool true) (ev_t rfl rfl) ev_c) ?_
                    have hz73 := exW_le (d := d - 1) (by omega) (exKid0 hb (by omega)) (Ex.Ok.kid hk_ (kid_there (x := x) (j := 0) (by omega)))
                    have hz73_ := inB_size true (exW (d - 1) (x.kid 0))
                    refine q_call (v := .string (inB true (exW (d - 1) (x.kid 0)))) F_e110 (w0 rfl) ev_f (m2 (ev_t rfl rfl) (ev_t rfl rfl)) (args := #[.agg #[.int .i8 ((x.kid 0).op), .string ((x.kid 0).t.v), .int .i8 ((x.kid 0).t.l.k), .int .i64 ((x.kid 0).t.l.n), .string ((x.kid 0).t.l.s), .slice A60 ((x.kid 0).kids.length) c61], .bool true]) rfl (fun w_ c_ => Rt.mono (r6_within (d - 1) (x.kid 0) A60 c61 true _ ho62 (Row.extE hr63 (Ext.trans (Keep.then_ (Ext.trans (NewB.ext n3) (NewB.ext n66)) (Wrote.keep k68) (fun i_ hi_ h_ => by have a_ := NewB.eq n66; have b_ := Keep.size (NewB.ext n3); omega)) c_)) (ih (by omega) 0 _ (kid_there (x := x) (j := 0) (by omega)) (exKid0 hb (by omega))) hz73) (fun v_ w2_ h_ => ⟨h_.1, Ext.trans c_ h_.2⟩)) ?_
                    refine q_val (v := .string ((⟨#[45]⟩ : ByteArray) ++ (inB true (exW (d - 1) (x.kid 0))))) (w0 rfl) (fun w_ c_ => r_cat ev_c (ev_t rfl rfl) (by simp only [ByteArray.size_append, z0, z1, z2, z3, z4, z5, z6]; omega)) ?_
                    refine q_val (v := .string ((⟨#[45]⟩ : ByteArray) ++ (inB true (exW (d - 1) (x.kid 0))))) (w0 rfl) (fun w_ c_ => r_assign (v := .string ((⟨#[45]⟩ : ByteArray) ++ (inB true (exW (d - 1) (x.kid 0))))) (ev_t rfl rfl)) ?_
                    refine q_done ?_
                    intro w74 x75
                    refine n_then (c_ret (r_block (r_then ?_)))
                    refine ret1 (v := .string ((⟨#[45]⟩ : ByteArray) ++ (inB true (exW (d - 1) (x.kid 0))))) rfl rfl rfl ?_
                    refine ⟨_, rfl, ?_, (Ext.trans (Keep.then_ (Ext.trans (NewB.ext n3) (NewB.ext n66)) (Wrote.keep k68) (fun i_ hi_ h_ => by have a_ := NewB.eq n66; have b_ := Keep.size (NewB.ext n3); omega)) x75)⟩
                    (refine congrArg Value.string ?_; rw [exW_pos hd0_]; first | (rw [if_pos (by omega)]; done) | (rw [if_neg (by omega), if_pos (by omega)]; done) | (rw [if_neg (by omega), if_neg (by omega), if_pos (by omega)]; refine congrArg _ (congrArg (fun b => inB b _) ?_); simp [numB, *]; done) | (rw [if_neg (by omega), if_neg (by omega), if_neg (by omega)]; done))
                  · refine q_val (v := .bool false) (w0 rfl) (fun w_ c_ => r_move (v := .bool false) (vb (ev_t rfl rfl) (decide_eq_false h72))) ?_
                    refine q_val (v := .bool (decide (0 ≤ (x.kid 0).t.l.n))) (wy rfl rfl rfl rfl) (fun w_ c_ => r_move (v := .bool (decide (0 ≤ (x.kid 0).t.l.n))) (ev_t rfl rfl)) ?_
                    refine q_val (v := .bool (decide (0 ≤ (x.kid 0).t.l.n))) (w0 rfl) (fun w_ c_ => r_pick0 (v := .bool (decide (0 ≤ (x.kid 0).t.l.n))) (ev_t rfl rfl) (ev_t rfl rfl)) ?_
                    have hz76 := exW_le (d := d - 1) (by omega) (exKid0 hb (by omega)) (Ex.Ok.kid hk_ (kid_there (x := x) (j := 0) (by omega)))
                    have hz76_ := inB_size (decide (0 ≤ (x.kid 0).t.l.n)) (exW (d - 1) (x.kid 0))
                    refine q_call (v := .string (inB (decide (0 ≤ (x.kid 0).t.l.n)) (exW (d - 1) (x.kid 0)))) F_e110 (w0 rfl) ev_f (m2 (ev_t rfl rfl) (ev_t rfl rfl)) (args := #[.agg #[.int .i8 ((x.kid 0).op), .string ((x.kid 0).t.v), .int .i8 ((x.kid 0).t.l.k), .int .i64 ((x.kid 0).t.l.n), .string ((x.kid 0).t.l.s), .slice A60 ((x.kid 0).kids.length) c61], .bool (decide (0 ≤ (x.kid 0).t.l.n))]) rfl (fun w_ c_ => Rt.mono (r6_within (d - 1) (x.kid 0) A60 c61 (decide (0 ≤ (x.kid 0).t.l.n)) _ ho62 (Row.extE hr63 (Ext.trans (Keep.then_ (Ext.trans (NewB.ext n3) (NewB.ext n66)) (Wrote.keep k68) (fun i_ hi_ h_ => by have a_ := NewB.eq n66; have b_ := Keep.size (NewB.ext n3); omega)) c_)) (ih (by omega) 0 _ (kid_there (x := x) (j := 0) (by omega)) (exKid0 hb (by omega))) hz76) (fun v_ w2_ h_ => ⟨h_.1, Ext.trans c_ h_.2⟩)) ?_
                    refine q_val (v := .string ((⟨#[45]⟩ : ByteArray) ++ (inB (decide (0 ≤ (x.kid 0).t.l.n)) (exW (d - 1) (x.kid 0))))) (w0 rfl) (fun w_ c_ => r_cat ev_c (ev_t rfl rfl) (by simp only [ByteArray.size_append, z0, z1, z2, z3, z4, z5, z6]; omega)) ?_
                    refine q_val (v := .string ((⟨#[45]⟩ : ByteArray) ++ (inB (decide (0 ≤ (x.kid 0).t.l.n)) (exW (d - 1) (x.kid 0))))) (w0 rfl) (fun w_ c_ => r_assign (v := .string ((⟨#[45]⟩ : ByteArray) ++ (inB (decide (0 ≤ (x.kid 0).t.l.n)) (exW (d - 1) (x.kid 0))))) (ev_t rfl rfl)) ?_
                    refine q_done ?_
                    intro w77 x78
                    refine n_then (c_ret (r_block (r_then ?_)))
                    refine ret1 (v := .string ((⟨#[45]⟩ : ByteArray) ++ (inB (decide (0 ≤ (x.kid 0).t.l.n)) (exW (d - 1) (x.kid 0))))) rfl rfl rfl ?_
                    refine ⟨_, rfl, ?_, (Ext.trans (Keep.then_ (Ext.trans (NewB.ext n3) (NewB.ext n66)) (Wrote.keep k68) (fun i_ hi_ h_ => by have a_ := NewB.eq n66; have b_ := Keep.size (NewB.ext n3); omega)) x78)⟩
                    (refine congrArg Value.string ?_; rw [exW_pos hd0_]; first | (rw [if_pos (by omega)]; done) | (rw [if_neg (by omega), if_pos (by omega)]; done) | (rw [if_neg (by omega), if_neg (by omega), if_pos (by omega)]; refine congrArg _ (congrArg (fun b => inB b _) ?_); simp [numB, *]; done) | (rw [if_neg (by omega), if_neg (by omega), if_neg (by omega)]; done))
                · refine s_move (v := .bool false) (vb (ev_t rfl rfl) (decide_eq_false h71)) (w0 rfl) ?_
                  refine s_skip (wn rfl rfl rfl rfl rfl) ?_
                  refine s_skip (wn rfl rfl rfl rfl rfl) ?_
                  refine s_skip (wn rfl rfl rfl rfl rfl) ?_
                  refine s_skip (wn rfl rfl rfl rfl rfl) ?_
                  refine s_skip (wn rfl rfl rfl rfl rfl) ?_
                  refine s_pick0 (v := .bool false) (ev_t rfl rfl) ev_c (w0 rfl) ?_
                  refine s_assign (v := .bool false) (ev_t rfl rfl) (w0 rfl) ?_
                  refine c_done (n_then (c_seq ?_))
                  refine c_quiet mixed (by kernel_rfl) ?_
                  refine q_val (v := .agg #[.int .i8 ((x.kid 0).op), .string ((x.kid 0).t.v), .int .i8 ((x.kid 0).t.l.k), .int .i64 ((x.kid 0).t.l.n), .string ((x.kid 0).t.l.s), .slice A60 ((x.kid 0).kids.length) c61]) (w0 rfl) (fun w_ c_ => r_loadL (cs := [.int .i8 ((x.kid 0).op), .string ((x.kid 0).t.v), .int .i8 ((x.kid 0).t.l.k), .int .i64 ((x.kid 0).t.l.n), .string ((x.kid 0).t.l.s), .slice A60 ((x.kid 0).kids.length) c61]) (ca := #[.int .i8 ((x.kid 0).op), .string ((x.kid 0).t.v), .int .i8 ((x.kid 0).t.l.k), .int .i64 ((x.kid 0).t.l.n), .string ((x.kid 0).t.l.s), .slice A60 ((x.kid 0).kids.length) c61]) F_m36 (ev_t rfl rfl) rfl rfl (blk_cells (Ext.blk c_ (Wrote.blk k68)) 0 (cs := [.int .i8 ((x.kid 0).op), .string ((x.kid 0).t.v), .int .i8 ((x.kid 0).t.l.k), .int .i64 ((x.kid 0).t.l.n), .string ((x.kid 0).t.l.s), .slice A60 ((x.kid 0).kids.length) c61]) rfl)) ?_
                  refine q_val (v := .agg #[.int .i8 ((x.kid 0).op), .string ((x.kid 0).t.v), .int .i8 ((x.kid 0).t.l.k), .int .i64 ((x.kid 0).t.l.n), .string ((x.kid 0).t.l.s), .slice A60 ((x.kid 0).kids.length) c61]) (w0 rfl) (fun w_ c_ => r_loadL (cs := [.int .i8 ((x.kid 0).op), .string ((x.kid 0).t.v), .int .i8 ((x.kid 0).t.l.k), .int .i64 ((x.kid 0).t.l.n), .string ((x.kid 0).t.l.s), .slice A60 ((x.kid 0).kids.length) c61]) (ca := #[.int .i8 ((x.kid 0).op), .string ((x.kid 0).t.v), .int .i8 ((x.kid 0).t.l.k), .int .i64 ((x.kid 0).t.l.n), .string ((x.kid 0).t.l.s), .slice A60 ((x.kid 0).kids.length) c61]) F_m36 (ev_t rfl rfl) rfl rfl (blk_cells (Ext.blk c_ (Wrote.blk k68)) 0 (cs := [.int .i8 ((x.kid 0).op), .string ((x.kid 0).t.v), .int .i8 ((x.kid 0).t.l.k), .int .i64 ((x.kid 0).t.l.n), .string ((x.kid 0).t.l.s), .slice A60 ((x.kid 0).kids.length) c61]) rfl)) ?_
                  refine q_call (v := .int .i64 (fast (x.kid 0))) F_e111 (w0 rfl) ev_f (m1 (ev_t rfl rfl)) (args := #[.agg #[.int .i8 ((x.kid 0).op), .string ((x.kid 0).t.v), .int .i8 ((x.kid 0).t.l.k), .int .i64 ((x.kid 0).t.l.n), .string ((x.kid 0).t.l.s), .slice A60 ((x.kid 0).kids.length) c61]]) rfl (fun w_ c_ => Rt.mono (r6_Fast (x.kid 0) A60 c61 _ ho62 (Row.extE hr63 (Ext.trans (Keep.then_ (Ext.trans (NewB.ext n3) (NewB.ext n66)) (Wrote.keep k68) (fun i_ hi_ h_ => by have a_ := NewB.eq n66; have b_ := Keep.size (NewB.ext n3); omega)) c_))) (fun v_ w2_ h_ => ⟨h_.1, Ext.trans c_ h_.2⟩)) ?_
                  refine q_val (v := .bool (decide (fast (x.kid 0) < 3))) (w0 rfl) (fun w_ c_ => r_cmp (r := decide (fast (x.kid 0) < 3)) (ev_t rfl rfl) ev_c rfl) ?_
                  by_cases h79 : fast (x.kid 0) < 3
                  · refine q_val (v := .bool true) (w0 rfl) (fun w_ c_ => r_move (v := .bool true) (vb (ev_t rfl rfl) (decide_eq_true h79))) ?_
                    refine q_skip (wn rfl rfl rfl rfl rfl) ?_
                    refine q_val (v := .bool true) (w0 rfl) (fun w_ c_ => r_pick1 (v := .bool true) (ev_t rfl rfl) ev_c) ?_
                    have hz80 := exW_le (d := d - 1) (by omega) (exKid0 hb (by omega)) (Ex.Ok.kid hk_ (kid_there (x := x) (j := 0) (by omega)))
                    have hz80_ := inB_size true (exW (d - 1) (x.kid 0))
                    refine q_call (v := .string (inB true (exW (d - 1) (x.kid 0)))) F_e110 (w0 rfl) ev_f (m2 (ev_t rfl rfl) (ev_t rfl rfl)) (args := #[.agg #[.int .i8 ((x.kid 0).op), .string ((x.kid 0).t.v), .int .i8 ((x.kid 0).t.l.k), .int .i64 ((x.kid 0).t.l.n), .string ((x.kid 0).t.l.s), .slice A60 ((x.kid 0).kids.length) c61], .bool true]) rfl (fun w_ c_ => Rt.mono (r6_within (d - 1) (x.kid 0) A60 c61 true _ ho62 (Row.extE hr63 (Ext.trans (Keep.then_ (Ext.trans (NewB.ext n3) (NewB.ext n66)) (Wrote.keep k68) (fun i_ hi_ h_ => by have a_ := NewB.eq n66; have b_ := Keep.size (NewB.ext n3); omega)) c_)) (ih (by omega) 0 _ (kid_there (x := x) (j := 0) (by omega)) (exKid0 hb (by omega))) hz80) (fun v_ w2_ h_ => ⟨h_.1, Ext.trans c_ h_.2⟩)) ?_
                    refine q_val (v := .string ((⟨#[45]⟩ : ByteArray) ++ (inB true (exW (d - 1) (x.kid 0))))) (w0 rfl) (fun w_ c_ => r_cat ev_c (ev_t rfl rfl) (by simp only [ByteArray.size_append, z0, z1, z2, z3, z4, z5, z6]; omega)) ?_
                    refine q_val (v := .string ((⟨#[45]⟩ : ByteArray) ++ (inB true (exW (d - 1) (x.kid 0))))) (w0 rfl) (fun w_ c_ => r_assign (v := .string ((⟨#[45]⟩ : ByteArray) ++ (inB true (exW (d - 1) (x.kid 0))))) (ev_t rfl rfl)) ?_
                    refine q_done ?_
                    intro w81 x82
                    refine n_then (c_ret (r_block (r_then ?_)))
                    refine ret1 (v := .string ((⟨#[45]⟩ : ByteArray) ++ (inB true (exW (d - 1) (x.kid 0))))) rfl rfl rfl ?_
                    refine ⟨_, rfl, ?_, (Ext.trans (Keep.then_ (Ext.trans (NewB.ext n3) (NewB.ext n66)) (Wrote.keep k68) (fun i_ hi_ h_ => by have a_ := NewB.eq n66; have b_ := Keep.size (NewB.ext n3); omega)) x82)⟩
                    (refine congrArg Value.string ?_; rw [exW_pos hd0_]; first | (rw [if_pos (by omega)]; done) | (rw [if_neg (by omega), if_pos (by omega)]; done) | (rw [if_neg (by omega), if_neg (by omega), if_pos (by omega)]; refine congrArg _ (congrArg (fun b => inB b _) ?_); simp [numB, *]; done) | (rw [if_neg (by omega), if_neg (by omega), if_neg (by omega)]; done))
                  · refine q_val (v := .bool false) (w0 rfl) (fun w_ c_ => r_move (v := .bool false) (vb (ev_t rfl rfl) (decide_eq_false h79))) ?_
                    refine q_val (v := .bool false) (wy rfl rfl rfl rfl) (fun w_ c_ => r_move (v := .bool false) (ev_t rfl rfl)) ?_
                    refine q_val (v := .bool false) (w0 rfl) (fun w_ c_ => r_pick0 (v := .bool false) (ev_t rfl rfl) (ev_t rfl rfl)) ?_
                    have hz83 := exW_le (d := d - 1) (by omega) (exKid0 hb (by omega)) (Ex.Ok.kid hk_ (kid_there (x := x) (j := 0) (by omega)))
                    have hz83_ := inB_size false (exW (d - 1) (x.kid 0))
                    refine q_call (v := .string (inB false (exW (d - 1) (x.kid 0)))) F_e110 (w0 rfl) ev_f (m2 (ev_t rfl rfl) (ev_t rfl rfl)) (args := #[.agg #[.int .i8 ((x.kid 0).op), .string ((x.kid 0).t.v), .int .i8 ((x.kid 0).t.l.k), .int .i64 ((x.kid 0).t.l.n), .string ((x.kid 0).t.l.s), .slice A60 ((x.kid 0).kids.length) c61], .bool false]) rfl (fun w_ c_ => Rt.mono (r6_within (d - 1) (x.kid 0) A60 c61 false _ ho62 (Row.extE hr63 (Ext.trans (Keep.then_ (Ext.trans (NewB.ext n3) (NewB.ext n66)) (Wrote.keep k68) (fun i_ hi_ h_ => by have a_ := NewB.eq n66; have b_ := Keep.size (NewB.ext n3); omega)) c_)) (ih (by omega) 0 _ (kid_there (x := x) (j := 0) (by omega)) (exKid0 hb (by omega))) hz83) (fun v_ w2_ h_ => ⟨h_.1, Ext.trans c_ h_.2⟩)) ?_
                    refine q_val (v := .string ((⟨#[45]⟩ : ByteArray) ++ (inB false (exW (d - 1) (x.kid 0))))) (w0 rfl) (fun w_ c_ => r_cat ev_c (ev_t rfl rfl) (by simp only [ByteArray.size_append, z0, z1, z2, z3, z4, z5, z6]; omega)) ?_
                    refine q_val (v := .string ((⟨#[45]⟩ : ByteArray) ++ (inB false (exW (d - 1) (x.kid 0))))) (w0 rfl) (fun w_ c_ => r_assign (v := .string ((⟨#[45]⟩ : ByteArray) ++ (inB false (exW (d - 1) (x.kid 0))))) (ev_t rfl rfl)) ?_
                    refine q_done ?_
                    intro w84 x85
                    refine n_then (c_ret (r_block (r_then ?_)))
                    refine ret1 (v := .string ((⟨#[45]⟩ : ByteArray) ++ (inB false (exW (d - 1) (x.kid 0))))) rfl rfl rfl ?_
                    refine ⟨_, rfl, ?_, (Ext.trans (Keep.then_ (Ext.trans (NewB.ext n3) (NewB.ext n66)) (Wrote.keep k68) (fun i_ hi_ h_ => by have a_ := NewB.eq n66; have b_ := Keep.size (NewB.ext n3); omega)) x85)⟩
                    (refine congrArg Value.string ?_; rw [exW_pos hd0_]; first | (rw [if_pos (by omega)]; done) | (rw [if_neg (by omega), if_pos (by omega)]; done) | (rw [if_neg (by omega), if_neg (by omega), if_pos (by omega)]; refine congrArg _ (congrArg (fun b => inB b _) ?_); simp [numB, *]; done) | (rw [if_neg (by omega), if_neg (by omega), if_neg (by omega)]; done))
              · refine s_move (v := .bool false) (vb (ev_t rfl rfl) (decide_eq_false h70)) (w0 rfl) ?_
                refine s_skip (wn rfl rfl rfl rfl rfl) ?_
                refine s_skip (wn rfl rfl rfl rfl rfl) ?_
                refine s_skip (wn rfl rfl rfl rfl rfl) ?_
                refine s_skip (wn rfl rfl rfl rfl rfl) ?_
                refine s_skip (wn rfl rfl rfl rfl rfl) ?_
                refine s_pick0 (v := .bool false) (ev_t rfl rfl) ev_c (w0 rfl) ?_
                refine s_move (v := .bool false) (ev_t rfl rfl) (w0 rfl) ?_
                refine s_skip (wn rfl rfl rfl rfl rfl) ?_
                refine s_skip (wn rfl rfl rfl rfl rfl) ?_
                refine s_skip (wn rfl rfl rfl rfl rfl) ?_
                refine s_skip (wn rfl rfl rfl rfl rfl) ?_
                refine s_skip (wn rfl rfl rfl rfl rfl) ?_
                refine s_pick0 (v := .bool false) (ev_t rfl rfl) ev_c (w0 rfl) ?_
                refine s_assign (v := .bool false) (ev_t rfl rfl) (w0 rfl) ?_
                refine c_done (n_then (c_seq ?_))
                refine c_quiet mixed (by kernel_rfl) ?_
                refine q_val (v := .agg #[.int .i8 ((x.kid 0).op), .string ((x.kid 0).t.v), .int .i8 ((x.kid 0).t.l.k), .int .i64 ((x.kid 0).t.l.n), .string ((x.kid 0).t.l.s), .slice A60 ((x.kid 0).kids.length) c61]) (w0 rfl) (fun w_ c_ => r_loadL (cs := [.int .i8 ((x.kid 0).op), .string ((x.kid 0).t.v), .int .i8 ((x.kid 0).t.l.k), .int .i64 ((x.kid 0).t.l.n), .string ((x.kid 0).t.l.s), .slice A60 ((x.kid 0).kids.length) c61]) (ca := #[.int .i8 ((x.kid 0).op), .string ((x.kid 0).t.v), .int .i8 ((x.kid 0).t.l.k), .int .i64 ((x.kid 0).t.l.n), .string ((x.kid 0).t.l.s), .slice A60 ((x.kid 0).kids.length) c61]) F_m36 (ev_t rfl rfl) rfl rfl (blk_cells (Ext.blk c_ (Wrote.blk k68)) 0 (cs := [.int .i8 ((x.kid 0).op), .string ((x.kid 0).t.v), .int .i8 ((x.kid 0).t.l.k), .int .i64 ((x.kid 0).t.l.n), .string ((x.kid 0).t.l.s), .slice A60 ((x.kid 0).kids.length) c61]) rfl)) ?_
                refine q_val (v := .agg #[.int .i8 ((x.kid 0).op), .string ((x.kid 0).t.v), .int .i8 ((x.kid 0).t.l.k), .int .i64 ((x.kid 0).t.l.n), .string ((x.kid 0).t.l.s), .slice A60 ((x.kid 0).kids.length) c61]) (w0 rfl) (fun w_ c_ => r_loadL (cs := [.int .i8 ((x.kid 0).op), .string ((x.kid 0).t.v), .int .i8 ((x.kid 0).t.l.k), .int .i64 ((x.kid 0).t.l.n), .string ((x.kid 0).t.l.s), .slice A60 ((x.kid 0).kids.length) c61]) (ca := #[.int .i8 ((x.kid 0).op), .string ((x.kid 0).t.v), .int .i8 ((x.kid 0).t.l.k), .int .i64 ((x.kid 0).t.l.n), .string ((x.kid 0).t.l.s), .slice A60 ((x.kid 0).kids.length) c61]) F_m36 (ev_t rfl rfl) rfl rfl (blk_cells (Ext.blk c_ (Wrote.blk k68)) 0 (cs := [.int .i8 ((x.kid 0).op), .string ((x.kid 0).t.v), .int .i8 ((x.kid 0).t.l.k), .int .i64 ((x.kid 0).t.l.n), .string ((x.kid 0).t.l.s), .slice A60 ((x.kid 0).kids.length) c61]) rfl)) ?_
                refine q_call (v := .int .i64 (fast (x.kid 0))) F_e111 (w0 rfl) ev_f (m1 (ev_t rfl rfl)) (args := #[.agg #[.int .i8 ((x.kid 0).op), .string ((x.kid 0).t.v), .int .i8 ((x.kid 0).t.l.k), .int .i64 ((x.kid 0).t.l.n), .string ((x.kid 0).t.l.s), .slice A60 ((x.kid 0).kids.length) c61]]) rfl (fun w_ c_ => Rt.mono (r6_Fast (x.kid 0) A60 c61 _ ho62 (Row.extE hr63 (Ext.trans (Keep.then_ (Ext.trans (NewB.ext n3) (NewB.ext n66)) (Wrote.keep k68) (fun i_ hi_ h_ => by have a_ := NewB.eq n66; have b_ := Keep.size (NewB.ext n3); omega)) c_))) (fun v_ w2_ h_ => ⟨h_.1, Ext.trans c_ h_.2⟩)) ?_
                refine q_val (v := .bool (decide (fast (x.kid 0) < 3))) (w0 rfl) (fun w_ c_ => r_cmp (r := decide (fast (x.kid 0) < 3)) (ev_t rfl rfl) ev_c rfl) ?_
                by_cases h86 : fast (x.kid 0) < 3
                · refine q_val (v := .bool true) (w0 rfl) (fun w_ c_ => r_move (v := .bool true) (vb (ev_t rfl rfl) (decide_eq_true h86))) ?_
                  refine q_skip (wn rfl rfl rfl rfl rfl) ?_
                  refine q_val (v := .bool true) (w0 rfl) (fun w_ c_ => r_pick1 (v := .bool true) (ev_t rfl rfl) ev_c) ?_
                  have hz87 := exW_le (d := d - 1) (by omega) (exKid0 hb (by omega)) (Ex.Ok.kid hk_ (kid_there (x := x) (j := 0) (by omega)))
                  have hz87_ := inB_size true (exW (d - 1) (x.kid 0))
                  refine q_call (v := .string (inB true (exW (d - 1) (x.kid 0)))) F_e110 (w0 rfl) ev_f (m2 (ev_t rfl rfl) (ev_t rfl rfl)) (args := #[.agg #[.int .i8 ((x.kid 0).op), .string ((x.kid 0).t.v), .int .i8 ((x.kid 0).t.l.k), .int .i64 ((x.kid 0).t.l.n), .string ((x.kid 0).t.l.s), .slice A60 ((x.kid 0).kids.length) c61], .bool true]) rfl (fun w_ c_ => Rt.mono (r6_within (d - 1) (x.kid 0) A60 c61 true _ ho62 (Row.extE hr63 (Ext.trans (Keep.then_ (Ext.trans (NewB.ext n3) (NewB.ext n66)) (Wrote.keep k68) (fun i_ hi_ h_ => by have a_ := NewB.eq n66; have b_ := Keep.size (NewB.ext n3); omega)) c_)) (ih (by omega) 0 _ (kid_there (x := x) (j := 0) (by omega)) (exKid0 hb (by omega))) hz87) (fun v_ w2_ h_ => ⟨h_.1, Ext.trans c_ h_.2⟩)) ?_
                  refine q_val (v := .string ((⟨#[45]⟩ : ByteArray) ++ (inB true (exW (d - 1) (x.kid 0))))) (w0 rfl) (fun w_ c_ => r_cat ev_c (ev_t rfl rfl) (by simp only [ByteArray.size_append, z0, z1, z2, z3, z4, z5, z6]; omega)) ?_
                  refine q_val (v := .string ((⟨#[45]⟩ : ByteArray) ++ (inB true (exW (d - 1) (x.kid 0))))) (w0 rfl) (fun w_ c_ => r_assign (v := .string ((⟨#[45]⟩ : ByteArray) ++ (inB true (exW (d - 1) (x.kid 0))))) (ev_t rfl rfl)) ?_
                  refine q_done ?_
                  intro w88 x89
                  refine n_then (c_ret (r_block (r_then ?_)))
                  refine ret1 (v := .string ((⟨#[45]⟩ : ByteArray) ++ (inB true (exW (d - 1) (x.kid 0))))) rfl rfl rfl ?_
                  refine ⟨_, rfl, ?_, (Ext.trans (Keep.then_ (Ext.trans (NewB.ext n3) (NewB.ext n66)) (Wrote.keep k68) (fun i_ hi_ h_ => by have a_ := NewB.eq n66; have b_ := Keep.size (NewB.ext n3); omega)) x89)⟩
                  (refine congrArg Value.string ?_; rw [exW_pos hd0_]; first | (rw [if_pos (by omega)]; done) | (rw [if_neg (by omega), if_pos (by omega)]; done) | (rw [if_neg (by omega), if_neg (by omega), if_pos (by omega)]; refine congrArg _ (congrArg (fun b => inB b _) ?_); simp [numB, *]; done) | (rw [if_neg (by omega), if_neg (by omega), if_neg (by omega)]; done))
                · refine q_val (v := .bool false) (w0 rfl) (fun w_ c_ => r_move (v := .bool false) (vb (ev_t rfl rfl) (decide_eq_false h86))) ?_
                  refine q_val (v := .bool false) (wy rfl rfl rfl rfl) (fun w_ c_ => r_move (v := .bool false) (ev_t rfl rfl)) ?_
                  refine q_val (v := .bool false) (w0 rfl) (fun w_ c_ => r_pick0 (v := .bool false) (ev_t rfl rfl) (ev_t rfl rfl)) ?_
                  have hz90 := exW_le (d := d - 1) (by omega) (exKid0 hb (by omega)) (Ex.Ok.kid hk_ (kid_there (x := x) (j := 0) (by omega)))
                  have hz90_ := inB_size false (exW (d - 1) (x.kid 0))
                  refine q_call (v := .string (inB false (exW (d - 1) (x.kid 0)))) F_e110 (w0 rfl) ev_f (m2 (ev_t rfl rfl) (ev_t rfl rfl)) (args := #[.agg #[.int .i8 ((x.kid 0).op), .string ((x.kid 0).t.v), .int .i8 ((x.kid 0).t.l.k), .int .i64 ((x.kid 0).t.l.n), .string ((x.kid 0).t.l.s), .slice A60 ((x.kid 0).kids.length) c61], .bool false]) rfl (fun w_ c_ => Rt.mono (r6_within (d - 1) (x.kid 0) A60 c61 false _ ho62 (Row.extE hr63 (Ext.trans (Keep.then_ (Ext.trans (NewB.ext n3) (NewB.ext n66)) (Wrote.keep k68) (fun i_ hi_ h_ => by have a_ := NewB.eq n66; have b_ := Keep.size (NewB.ext n3); omega)) c_)) (ih (by omega) 0 _ (kid_there (x := x) (j := 0) (by omega)) (exKid0 hb (by omega))) hz90) (fun v_ w2_ h_ => ⟨h_.1, Ext.trans c_ h_.2⟩)) ?_
                  refine q_val (v := .string ((⟨#[45]⟩ : ByteArray) ++ (inB false (exW (d - 1) (x.kid 0))))) (w0 rfl) (fun w_ c_ => r_cat ev_c (ev_t rfl rfl) (by simp only [ByteArray.size_append, z0, z1, z2, z3, z4, z5, z6]; omega)) ?_
                  refine q_val (v := .string ((⟨#[45]⟩ : ByteArray) ++ (inB false (exW (d - 1) (x.kid 0))))) (w0 rfl) (fun w_ c_ => r_assign (v := .string ((⟨#[45]⟩ : ByteArray) ++ (inB false (exW (d - 1) (x.kid 0))))) (ev_t rfl rfl)) ?_
                  refine q_done ?_
                  intro w91 x92
                  refine n_then (c_ret (r_block (r_then ?_)))
                  refine ret1 (v := .string ((⟨#[45]⟩ : ByteArray) ++ (inB false (exW (d - 1) (x.kid 0))))) rfl rfl rfl ?_
                  refine ⟨_, rfl, ?_, (Ext.trans (Keep.then_ (Ext.trans (NewB.ext n3) (NewB.ext n66)) (Wrote.keep k68) (fun i_ hi_ h_ => by have a_ := NewB.eq n66; have b_ := Keep.size (NewB.ext n3); omega)) x92)⟩
                  (refine congrArg Value.string ?_; rw [exW_pos hd0_]; first | (rw [if_pos (by omega)]; done) | (rw [if_neg (by omega), if_pos (by omega)]; done) | (rw [if_neg (by omega), if_neg (by omega), if_pos (by omega)]; refine congrArg _ (congrArg (fun b => inB b _) ?_); simp [numB, *]; done) | (rw [if_neg (by omega), if_neg (by omega), if_neg (by omega)]; done))
            · refine s_move (v := .bool false) (vb (ev_t rfl rfl) (decide_eq_false h69)) (w0 rfl) ?_
              refine s_skip (wn rfl rfl rfl rfl rfl) ?_
              refine s_skip (wn rfl rfl rfl rfl rfl) ?_
              refine s_skip (wn rfl rfl rfl rfl rfl) ?_
              refine s_skip (wn rfl rfl rfl rfl rfl) ?_
              refine s_pick0 (v := .bool false) (ev_t rfl rfl) ev_c (w0 rfl) ?_
              refine s_move (v := .bool false) (ev_t rfl rfl) (w0 rfl) ?_
              refine s_skip (wn rfl rfl rfl rfl rfl) ?_
              refine s_skip (wn rfl rfl rfl rfl rfl) ?_
              refine s_skip (wn rfl rfl rfl rfl rfl) ?_
              refine s_skip (wn rfl rfl rfl rfl rfl) ?_
              refine s_skip (wn rfl rfl rfl rfl rfl) ?_
              refine s_pick0 (v := .bool false) (ev_t rfl rfl) ev_c (w0 rfl) ?_
              refine s_move (v := .bool false) (ev_t rfl rfl) (w0 rfl) ?_
              refine s_skip (wn rfl rfl rfl rfl rfl) ?_
              refine s_skip (wn rfl rfl rfl rfl rfl) ?_
              refine s_skip (wn rfl rfl rfl rfl rfl) ?_
              refine s_skip (wn rfl rfl rfl rfl rfl) ?_
              refine s_skip (wn rfl rfl rfl rfl rfl) ?_
              refine s_pick0 (v := .bool false) (ev_t rfl rfl) ev_c (w0 rfl) ?_
              refine s_assign (v := .bool false) (ev_t rfl rfl) (w0 rfl) ?_
              refine c_done (n_then (c_seq ?_))
              refine c_quiet mixed (by kernel_rfl) ?_
              refine q_val (v := .agg #[.int .i8 ((x.kid 0).op), .string ((x.kid 0).t.v), .int .i8 ((x.kid 0).t.l.k), .int .i64 ((x.kid 0).t.l.n), .string ((x.kid 0).t.l.s), .slice A60 ((x.kid 0).kids.length) c61]) (w0 rfl) (fun w_ c_ => r_loadL (cs := [.int .i8 ((x.kid 0).op), .string ((x.kid 0).t.v), .int .i8 ((x.kid 0).t.l.k), .int .i64 ((x.kid 0).t.l.n), .string ((x.kid 0).t.l.s), .slice A60 ((x.kid 0).kids.length) c61]) (ca := #[.int .i8 ((x.kid 0).op), .string ((x.kid 0).t.v), .int .i8 ((x.kid 0).t.l.k), .int .i64 ((x.kid 0).t.l.n), .string ((x.kid 0).t.l.s), .slice A60 ((x.kid 0).kids.length) c61]) F_m36 (ev_t rfl rfl) rfl rfl (blk_cells (Ext.blk c_ (Wrote.blk k68)) 0 (cs := [.int .i8 ((x.kid 0).op), .string ((x.kid 0).t.v), .int .i8 ((x.kid 0).t.l.k), .int .i64 ((x.kid 0).t.l.n), .string ((x.kid 0).t.l.s), .slice A60 ((x.kid 0).kids.length) c61]) rfl)) ?_
              refine q_val (v := .agg #[.int .i8 ((x.kid 0).op), .string ((x.kid 0).t.v), .int .i8 ((x.kid 0).t.l.k), .int .i64 ((x.kid 0).t.l.n), .string ((x.kid 0).t.l.s), .slice A60 ((x.kid 0).kids.length) c61]) (w0 rfl) (fun w_ c_ => r_loadL (cs := [.int .i8 ((x.kid 0).op), .string ((x.kid 0).t.v), .int .i8 ((x.kid 0).t.l.k), .int .i64 ((x.kid 0).t.l.n), .string ((x.kid 0).t.l.s), .slice A60 ((x.kid 0).kids.length) c61]) (ca := #[.int .i8 ((x.kid 0).op), .string ((x.kid 0).t.v), .int .i8 ((x.kid 0).t.l.k), .int .i64 ((x.kid 0).t.l.n), .string ((x.kid 0).t.l.s), .slice A60 ((x.kid 0).kids.length) c61]) F_m36 (ev_t rfl rfl) rfl rfl (blk_cells (Ext.blk c_ (Wrote.blk k68)) 0 (cs := [.int .i8 ((x.kid 0).op), .string ((x.kid 0).t.v), .int .i8 ((x.kid 0).t.l.k), .int .i64 ((x.kid 0).t.l.n), .string ((x.kid 0).t.l.s), .slice A60 ((x.kid 0).kids.length) c61]) rfl)) ?_
              refine q_call (v := .int .i64 (fast (x.kid 0))) F_e111 (w0 rfl) ev_f (m1 (ev_t rfl rfl)) (args := #[.agg #[.int .i8 ((x.kid 0).op), .string ((x.kid 0).t.v), .int .i8 ((x.kid 0).t.l.k), .int .i64 ((x.kid 0).t.l.n), .string ((x.kid 0).t.l.s), .slice A60 ((x.kid 0).kids.length) c61]]) rfl (fun w_ c_ => Rt.mono (r6_Fast (x.kid 0) A60 c61 _ ho62 (Row.extE hr63 (Ext.trans (Keep.then_ (Ext.trans (NewB.ext n3) (NewB.ext n66)) (Wrote.keep k68) (fun i_ hi_ h_ => by have a_ := NewB.eq n66; have b_ := Keep.size (NewB.ext n3); omega)) c_))) (fun v_ w2_ h_ => ⟨h_.1, Ext.trans c_ h_.2⟩)) ?_
              refine q_val (v := .bool (decide (fast (x.kid 0) < 3))) (w0 rfl) (fun w_ c_ => r_cmp (r := decide (fast (x.kid 0) < 3)) (ev_t rfl rfl) ev_c rfl) ?_
              by_cases h93 : fast (x.kid 0) < 3
              · refine q_val (v := .bool true) (w0 rfl) (fun w_ c_ => r_move (v := .bool true) (vb (ev_t rfl rfl) (decide_eq_true h93))) ?_
                refine q_skip (wn rfl rfl rfl rfl rfl) ?_
                refine q_val (v := .bool true) (w0 rfl) (fun w_ c_ => r_pick1 (v := .bool true) (ev_t rfl rfl) ev_c) ?_
                have hz94 := exW_le (d := d - 1) (by omega) (exKid0 hb (by omega)) (Ex.Ok.kid hk_ (kid_there (x := x) (j := 0) (by omega)))
                have hz94_ := inB_size true (exW (d - 1) (x.kid 0))
                refine q_call (v := .string (inB true (exW (d - 1) (x.kid 0)))) F_e110 (w0 rfl) ev_f (m2 (ev_t rfl rfl) (ev_t rfl rfl)) (args := #[.agg #[.int .i8 ((x.kid 0).op), .string ((x.kid 0).t.v), .int .i8 ((x.kid 0).t.l.k), .int .i64 ((x.kid 0).t.l.n), .string ((x.kid 0).t.l.s), .slice A60 ((x.kid 0).kids.length) c61], .bool true]) rfl (fun w_ c_ => Rt.mono (r6_within (d - 1) (x.kid 0) A60 c61 true _ ho62 (Row.extE hr63 (Ext.trans (Keep.then_ (Ext.trans (NewB.ext n3) (NewB.ext n66)) (Wrote.keep k68) (fun i_ hi_ h_ => by have a_ := NewB.eq n66; have b_ := Keep.size (NewB.ext n3); omega)) c_)) (ih (by omega) 0 _ (kid_there (x := x) (j := 0) (by omega)) (exKid0 hb (by omega))) hz94) (fun v_ w2_ h_ => ⟨h_.1, Ext.trans c_ h_.2⟩)) ?_
                refine q_val (v := .string ((⟨#[45]⟩ : ByteArray) ++ (inB true (exW (d - 1) (x.kid 0))))) (w0 rfl) (fun w_ c_ => r_cat ev_c (ev_t rfl rfl) (by simp only [ByteArray.size_append, z0, z1, z2, z3, z4, z5, z6]; omega)) ?_
                refine q_val (v := .string ((⟨#[45]⟩ : ByteArray) ++ (inB true (exW (d - 1) (x.kid 0))))) (w0 rfl) (fun w_ c_ => r_assign (v := .string ((⟨#[45]⟩ : ByteArray) ++ (inB true (exW (d - 1) (x.kid 0))))) (ev_t rfl rfl)) ?_
                refine q_done ?_
                intro w95 x96
                refine n_then (c_ret (r_block (r_then ?_)))
                refine ret1 (v := .string ((⟨#[45]⟩ : ByteArray) ++ (inB true (exW (d - 1) (x.kid 0))))) rfl rfl rfl ?_
                refine ⟨_, rfl, ?_, (Ext.trans (Keep.then_ (Ext.trans (NewB.ext n3) (NewB.ext n66)) (Wrote.keep k68) (fun i_ hi_ h_ => by have a_ := NewB.eq n66; have b_ := Keep.size (NewB.ext n3); omega)) x96)⟩
                (refine congrArg Value.string ?_; rw [exW_pos hd0_]; first | (rw [if_pos (by omega)]; done) | (rw [if_neg (by omega), if_pos (by omega)]; done) | (rw [if_neg (by omega), if_neg (by omega), if_pos (by omega)]; refine congrArg _ (congrArg (fun b => inB b _) ?_); simp [numB, *]; done) | (rw [if_neg (by omega), if_neg (by omega), if_neg (by omega)]; done))
              · refine q_val (v := .bool false) (w0 rfl) (fun w_ c_ => r_move (v := .bool false) (vb (ev_t rfl rfl) (decide_eq_false h93))) ?_
                refine q_val (v := .bool false) (wy rfl rfl rfl rfl) (fun w_ c_ => r_move (v := .bool false) (ev_t rfl rfl)) ?_
                refine q_val (v := .bool false) (w0 rfl) (fun w_ c_ => r_pick0 (v := .bool false) (ev_t rfl rfl) (ev_t rfl rfl)) ?_
                have hz97 := exW_le (d := d - 1) (by omega) (exKid0 hb (by omega)) (Ex.Ok.kid hk_ (kid_there (x := x) (j := 0) (by omega)))
                have hz97_ := inB_size false (exW (d - 1) (x.kid 0))
                refine q_call (v := .string (inB false (exW (d - 1) (x.kid 0)))) F_e110 (w0 rfl) ev_f (m2 (ev_t rfl rfl) (ev_t rfl rfl)) (args := #[.agg #[.int .i8 ((x.kid 0).op), .string ((x.kid 0).t.v), .int .i8 ((x.kid 0).t.l.k), .int .i64 ((x.kid 0).t.l.n), .string ((x.kid 0).t.l.s), .slice A60 ((x.kid 0).kids.length) c61], .bool false]) rfl (fun w_ c_ => Rt.mono (r6_within (d - 1) (x.kid 0) A60 c61 false _ ho62 (Row.extE hr63 (Ext.trans (Keep.then_ (Ext.trans (NewB.ext n3) (NewB.ext n66)) (Wrote.keep k68) (fun i_ hi_ h_ => by have a_ := NewB.eq n66; have b_ := Keep.size (NewB.ext n3); omega)) c_)) (ih (by omega) 0 _ (kid_there (x := x) (j := 0) (by omega)) (exKid0 hb (by omega))) hz97) (fun v_ w2_ h_ => ⟨h_.1, Ext.trans c_ h_.2⟩)) ?_
                refine q_val (v := .string ((⟨#[45]⟩ : ByteArray) ++ (inB false (exW (d - 1) (x.kid 0))))) (w0 rfl) (fun w_ c_ => r_cat ev_c (ev_t rfl rfl) (by simp only [ByteArray.size_append, z0, z1, z2, z3, z4, z5, z6]; omega)) ?_
                refine q_val (v := .string ((⟨#[45]⟩ : ByteArray) ++ (inB false (exW (d - 1) (x.kid 0))))) (w0 rfl) (fun w_ c_ => r_assign (v := .string ((⟨#[45]⟩ : ByteArray) ++ (inB false (exW (d - 1) (x.kid 0))))) (ev_t rfl rfl)) ?_
                refine q_done ?_
                intro w98 x99
                refine n_then (c_ret (r_block (r_then ?_)))
                refine ret1 (v := .string ((⟨#[45]⟩ : ByteArray) ++ (inB false (exW (d - 1) (x.kid 0))))) rfl rfl rfl ?_
                refine ⟨_, rfl, ?_, (Ext.trans (Keep.then_ (Ext.trans (NewB.ext n3) (NewB.ext n66)) (Wrote.keep k68) (fun i_ hi_ h_ => by have a_ := NewB.eq n66; have b_ := Keep.size (NewB.ext n3); omega)) x99)⟩
                (refine congrArg Value.string ?_; rw [exW_pos hd0_]; first | (rw [if_pos (by omega)]; done) | (rw [if_neg (by omega), if_pos (by omega)]; done) | (rw [if_neg (by omega), if_neg (by omega), if_pos (by omega)]; refine congrArg _ (congrArg (fun b => inB b _) ?_); simp [numB, *]; done) | (rw [if_neg (by omega), if_neg (by omega), if_neg (by omega)]; done))
          · refine c_cond0 (vb (ev_t rfl rfl) (decide_eq_false h52)) ?_
            refine c_skip (n_block (n_then (c_seq ?_)))
            refine c_head2 (fun w_ => Ext w2 w_) 8 mixed (by kernel_rfl) rfl (fun _ x_ => x_) ?_
            intro w100 x101
            refine h_val (v := .pointer (some ⟨g1, 5, none⟩)) (w0 rfl) (fun w_ c_ => r_field (off := 5) (o' := 5) F_f36_2 (ev_t rfl rfl) rfl) ?_
            refine h_val (v := .slice A x.kids.length c) (w0 rfl) (fun w_ c_ => r_load (v := .slice A x.kids.length c) F_o34 (ev_t rfl rfl) (cell_of_blk (i := 5) (Ext.blk c_ (NewB.blk n3)) rfl)) ?_
            obtain ⟨b102, o103, x104, csx104, hA105, hx106, hR107, hc108⟩ := Row.at_ hr 0 (by omega)
            obtain rfl := Ex.kid_of hx106
            obtain ⟨A109, c110, rfl, ho111, hr112⟩ := RE.open_ hR107
            refine h_val (v := .pointer (some ⟨b102, o103 + 0 * 6, none⟩)) (w0 rfl) (fun w_ c_ => r_indexR (j := 0) F_l34 (ev_t rfl rfl) hA105 ev_c rfl (by omega)) ?_
            refine h_val (v := .agg #[.int .i8 ((x.kid 0).op), .string ((x.kid 0).t.v), .int .i8 ((x.kid 0).t.l.k), .int .i64 ((x.kid 0).t.l.n), .string ((x.kid 0).t.l.s), .slice A109 ((x.kid 0).kids.length) c110]) (w0 rfl) (fun w_ c_ => r_loadL (cs := [.int .i8 ((x.kid 0).op), .string ((x.kid 0).t.v), .int .i8 ((x.kid 0).t.l.k), .int .i64 ((x.kid 0).t.l.n), .string ((x.kid 0).t.l.s), .slice A109 ((x.kid 0).kids.length) c110]) (ca := #[.int .i8 ((x.kid 0).op), .string ((x.kid 0).t.v), .int .i8 ((x.kid 0).t.l.k), .int .i64 ((x.kid 0).t.l.n), .string ((x.kid 0).t.l.s), .slice A109 ((x.kid 0).kids.length) c110]) F_m36 (ev_t rfl rfl) rfl rfl (sub_cells (cells_ext c_ (cells_ext (NewB.ext n3) hc108)) 0 (cs2 := [.int .i8 ((x.kid 0).op), .string ((x.kid 0).t.v), .int .i8 ((x.kid 0).t.l.k), .int .i64 ((x.kid 0).t.l.n), .string ((x.kid 0).t.l.s), .slice A109 ((x.kid 0).kids.length) c110]) rfl)) ?_
            refine h_val (v := .pointer (some ⟨g1, 5, none⟩)) (w0 rfl) (fun w_ c_ => r_field (off := 5) (o' := 5) F_f36_2 (ev_t rfl rfl) rfl) ?_
            refine h_val (v := .slice A x.kids.length c) (w0 rfl) (fun w_ c_ => r_load (v := .slice A x.kids.length c) F_o34 (ev_t rfl rfl) (cell_of_blk (i := 5) (Ext.blk c_ (NewB.blk n3)) rfl)) ?_
            obtain ⟨b113, o114, x115, csx115, hA116, hx117, hR118, hc119⟩ := Row.at_ hr 1 (by omega)
            obtain rfl := Ex.kid_of hx117
            obtain ⟨A120, c121, rfl, ho122, hr123⟩ := RE.open_ hR118
            refine h_val (v := .pointer (some ⟨b113, o114 + 1 * 6, none⟩)) (w0 rfl) (fun w_ c_ => r_indexR (j := 1) F_l34 (ev_t rfl rfl) hA116 ev_c rfl (by omega)) ?_
            refine h_val (v := .agg #[.int .i8 ((x.kid 1).op), .string ((x.kid 1).t.v), .int .i8 ((x.kid 1).t.l.k), .int .i64 ((x.kid 1).t.l.n), .string ((x.kid 1).t.l.s), .slice A120 ((x.kid 1).kids.length) c121]) (w0 rfl) (fun w_ c_ => r_loadL (cs := [.int .i8 ((x.kid 1).op), .string ((x.kid 1).t.v), .int .i8 ((x.kid 1).t.l.k), .int .i64 ((x.kid 1).t.l.n), .string ((x.kid 1).t.l.s), .slice A120 ((x.kid 1).kids.length) c121]) (ca := #[.int .i8 ((x.kid 1).op), .string ((x.kid 1).t.v), .int .i8 ((x.kid 1).t.l.k), .int .i64 ((x.kid 1).t.l.n), .string ((x.kid 1).t.l.s), .slice A120 ((x.kid 1).kids.length) c121]) F_m36 (ev_t rfl rfl) rfl rfl (sub_cells (cells_ext c_ (cells_ext (NewB.ext n3) hc119)) 0 (cs2 := [.int .i8 ((x.kid 1).op), .string ((x.kid 1).t.v), .int .i8 ((x.kid 1).t.l.k), .int .i64 ((x.kid 1).t.l.n), .string ((x.kid 1).t.l.s), .slice A120 ((x.kid 1).kids.length) c121]) rfl)) ?_
            refine h_done ?_
            refine ⟨?_, ?_⟩
            · refine tl_cons ?_
              refine s_alloc (cs := #[.int .i8 0, .string (⟨#[]⟩ : ByteArray), .int .i8 0, .int .i64 0, .string (⟨#[]⟩ : ByteArray), .slice none 0 0]) (w0 rfl) F_z36 rfl ?_
              intro w125 g124 n126
              refine tl_done ⟨(Ext.trans x101 (NewB.ext n126)), ?_⟩
              refine tl_cons ?_
              refine s_alloc (cs := #[.int .i8 0, .string (⟨#[]⟩ : ByteArray), .int .i8 0, .int .i64 0, .string (⟨#[]⟩ : ByteArray), .slice none 0 0]) (w0 rfl) F_z36 rfl ?_
              intro w128 g127 n129
              refine tl_done ⟨(Ext.trans (Ext.trans x101 (NewB.ext n126)) (NewB.ext n129)), ?_⟩
              refine tl_cons ?_
              refine s_store (cs' := #[.int .i8 ((x.kid 0).op), .string ((x.kid 0).t.v), .int .i8 ((x.kid 0).t.l.k), .int .i64 ((x.kid 0).t.l.n), .string ((x.kid 0).t.l.s), .slice A109 ((x.kid 0).kids.length) c110]) F_sz36 (ev_t rfl rfl) (ev_t rfl rfl) (l := [.int .i8 ((x.kid 0).op), .string ((x.kid 0).t.v), .int .i8 ((x.kid 0).t.l.k), .int .i64 ((x.kid 0).t.l.n), .string ((x.kid 0).t.l.s), .slice A109 ((x.kid 0).kids.length) c110]) rfl rfl rfl (Ext.blk (NewB.ext n129) (NewB.blk n126)) (Nat.le_of_ble_eq_true rfl) rfl (w0 rfl) ?_
              intro w130 k131
              refine tl_done ⟨(Keep.then_ (Ext.trans (Ext.trans x101 (NewB.ext n126)) (NewB.ext n129)) (Wrote.keep k131) (fun i_ hi_ h_ => by have a_ := NewB.eq n126; have b_ := Keep.size x101; omega)), ?_⟩
              refine tl_cons ?_
              refine s_store (cs' := #[.int .i8 ((x.kid 1).op), .string ((x.kid 1).t.v), .int .i8 ((x.kid 1).t.l.k), .int .i64 ((x.kid 1).t.l.n), .string ((x.kid 1).t.l.s), .slice A120 ((x.kid 1).kids.length) c121]) F_sz36 (ev_t rfl rfl) (ev_t rfl rfl) (l := [.int .i8 ((x.kid 1).op), .string ((x.kid 1).t.v), .int .i8 ((x.kid 1).t.l.k), .int .i64 ((x.kid 1).t.l.n), .string ((x.kid 1).t.l.s), .slice A120 ((x.kid 1).kids.length) c121]) rfl rfl rfl (Keep.blk (Wrote.keep k131) (NewB.blk n129) (by have a_ := NewB.eq n129; have b_ := lt_of_blk (NewB.blk n126); omega)) (Nat.le_of_ble_eq_true rfl) rfl (w0 rfl) ?_
              intro w132 k133
              refine tl_done ⟨(Keep.then_ (Keep.then_ (Ext.trans (Ext.trans x101 (NewB.ext n126)) (NewB.ext n129)) (Wrote.keep k131) (fun i_ hi_ h_ => by have a_ := NewB.eq n126; have b_ := Keep.size x101; omega)) (Wrote.keep k133) (fun i_ hi_ h_ => by have a_ := NewB.eq n129; have b_ := Keep.size (Ext.trans x101 (NewB.ext n126)); omega)), ?_⟩
              refine tl_nil ?_
              refine n_then (c_seq ?_)
              refine c_quiet mixed (by kernel_rfl) ?_
              refine q_val (v := .agg #[.int .i8 ((x.kid 0).op), .string ((x.kid 0).t.v), .int .i8 ((x.kid 0).t.l.k), .int .i64 ((x.kid 0).t.l.n), .string ((x.kid 0).t.l.s), .slice A109 ((x.kid 0).kids.length) c110]) (w0 rfl) (fun w_ c_ => r_loadL (cs := [.int .i8 ((x.kid 0).op), .string ((x.kid 0).t.v), .int .i8 ((x.kid 0).t.l.k), .int .i64 ((x.kid 0).t.l.n), .string ((x.kid 0).t.l.s), .slice A109 ((x.kid 0).kids.length) c110]) (ca := #[.int .i8 ((x.kid 0).op), .string ((x.kid 0).t.v), .int .i8 ((x.kid 0).t.l.k), .int .i64 ((x.kid 0).t.l.n), .string ((x.kid 0).t.l.s), .slice A109 ((x.kid 0).kids.length) c110]) F_m36 (ev_t rfl rfl) rfl rfl (blk_cells (Ext.blk c_ (Keep.blk (Wrote.keep k133) (Wrote.blk k131) (by have a_ := NewB.eq n129; have b_ := lt_of_blk (NewB.blk n126); omega))) 0 (cs := [.int .i8 ((x.kid 0).op), .string ((x.kid 0).t.v), .int .i8 ((x.kid 0).t.l.k), .int .i64 ((x.kid 0).t.l.n), .string ((x.kid 0).t.l.s), .slice A109 ((x.kid 0).kids.length) c110]) rfl)) ?_
              refine q_val (v := .agg #[.int .i8 ((x.kid 0).op), .string ((x.kid 0).t.v), .int .i8 ((x.kid 0).t.l.k), .int .i64 ((x.kid 0).t.l.n), .string ((x.kid 0).t.l.s), .slice A109 ((x.kid 0).kids.length) c110]) (w0 rfl) (fun w_ c_ => r_loadL (cs := [.int .i8 ((x.kid 0).op), .string ((x.kid 0).t.v), .int .i8 ((x.kid 0).t.l.k), .int .i64 ((x.kid 0).t.l.n), .string ((x.kid 0).t.l.s), .slice A109 ((x.kid 0).kids.length) c110]) (ca := #[.int .i8 ((x.kid 0).op), .string ((x.kid 0).t.v), .int .i8 ((x.kid 0).t.l.k), .int .i64 ((x.kid 0).t.l.n), .string ((x.kid 0).t.l.s), .slice A109 ((x.kid 0).kids.length) c110]) F_m36 (ev_t rfl rfl) rfl rfl (blk_cells (Ext.blk c_ (Keep.blk (Wrote.keep k133) (Wrote.blk k131) (by have a_ := NewB.eq n129; have b_ := lt_of_blk (NewB.blk n126); omega))) 0 (cs := [.int .i8 ((x.kid 0).op), .string ((x.kid 0).t.v), .int .i8 ((x.kid 0).t.l.k), .int .i64 ((x.kid 0).t.l.n), .string ((x.kid 0).t.l.s), .slice A109 ((x.kid 0).kids.length) c110]) rfl)) ?_
              refine q_call (v := .int .i64 (fast (x.kid 0))) F_e111 (w0 rfl) ev_f (m1 (ev_t rfl rfl)) (args := #[.agg #[.int .i8 ((x.kid 0).op), .string ((x.kid 0).t.v), .int .i8 ((x.kid 0).t.l.k), .int .i64 ((x.kid 0).t.l.n), .string ((x.kid 0).t.l.s), .slice A109 ((x.kid 0).kids.length) c110]]) rfl (fun w_ c_ => Rt.mono (r6_Fast (x.kid 0) A109 c110 _ ho111 (Row.extE hr112 (Ext.trans (Keep.then_ (Keep.then_ (Ext.trans (Ext.trans (Ext.trans (NewB.ext n3) x101) (NewB.ext n126)) (NewB.ext n129)) (Wrote.keep k131) (fun i_ hi_ h_ => by have a_ := NewB.eq n126; have b_ := Keep.size (Ext.trans (NewB.ext n3) x101); omega)) (Wrote.keep k133) (fun i_ hi_ h_ => by have a_ := NewB.eq n129; have b_ := Keep.size (Ext.trans (Ext.trans (NewB.ext n3) x101) (NewB.ext n126)); omega)) c_))) (fun v_ w2_ h_ => ⟨h_.1, Ext.trans c_ h_.2⟩)) ?_
              refine q_val (v := .agg #[.int .i8 x.op, .string x.t.v, .int .i8 x.t.l.k, .int .i64 x.t.l.n, .string x.t.l.s, .slice A x.kids.length c]) (w0 rfl) (fun w_ c_ => r_loadL (cs := [.int .i8 x.op, .string x.t.v, .int .i8 x.t.l.k, .int .i64 x.t.l.n, .string x.t.l.s, .slice A x.kids.length c]) (ca := #[.int .i8 x.op, .string x.t.v, .int .i8 x.t.l.k, .int .i64 x.t.l.n, .string x.t.l.s, .slice A x.kids.length c]) F_m36 (ev_t rfl rfl) rfl rfl (blk_cells (Ext.blk (Ext.trans (Keep.then_ (Keep.then_ (Ext.trans (Ext.trans x101 (NewB.ext n126)) (NewB.ext n129)) (Wrote.keep k131) (fun i_ hi_ h_ => by have a_ := NewB.eq n126; have b_ := Keep.size x101; omega)) (Wrote.keep k133) (fun i_ hi_ h_ => by have a_ := NewB.eq n129; have b_ := Keep.size (Ext.trans x101 (NewB.ext n126)); omega)) c_) (NewB.blk n3)) 0 (cs := [.int .i8 x.op, .string x.t.v, .int .i8 x.t.l.k, .int .i64 x.t.l.n, .string x.t.l.s, .slice A x.kids.length c]) rfl)) ?_
              refine q_call (v := .int .i64 (fast x)) F_e111 (w0 rfl) ev_f (m1 (ev_t rfl rfl)) (args := #[.agg #[.int .i8 x.op, .string x.t.v, .int .i8 x.t.l.k, .int .i64 x.t.l.n, .string x.t.l.s, .slice A x.kids.length c]]) rfl (fun w_ c_ => Rt.mono (r6_Fast x A c _ ho (Row.extE hr (Ext.trans (Keep.then_ (Keep.then_ (Ext.trans (Ext.trans (Ext.trans (NewB.ext n3) x101) (NewB.ext n126)) (NewB.ext n129)) (Wrote.keep k131) (fun i_ hi_ h_ => by have a_ := NewB.eq n126; have b_ := Keep.size (Ext.trans (NewB.ext n3) x101); omega)) (Wrote.keep k133) (fun i_ hi_ h_ => by have a_ := NewB.eq n129; have b_ := Keep.size (Ext.trans (Ext.trans (NewB.ext n3) x101) (NewB.ext n126)); omega)) c_))) (fun v_ w2_ h_ => ⟨h_.1, Ext.trans c_ h_.2⟩)) ?_
              refine q_val (v := .bool (decide (fast (x.kid 0) < fast x))) (w0 rfl) (fun w_ c_ => r_cmp (r := decide (fast (x.kid 0) < fast x)) (ev_t rfl rfl) (ev_t rfl rfl) rfl) ?_
              have hz134 := exW_le (d := d - 1) (by omega) (exKid0 hb (by omega)) (Ex.Ok.kid hk_ (kid_there (x := x) (j := 0) (by omega)))
              have hz134_ := inB_size (decide (fast (x.kid 0) < fast x)) (exW (d - 1) (x.kid 0))
              refine q_call (v := .string (inB (decide (fast (x.kid 0) < fast x)) (exW (d - 1) (x.kid 0)))) F_e110 (w0 rfl) ev_f (m2 (ev_t rfl rfl) (ev_t rfl rfl)) (args := #[.agg #[.int .i8 ((x.kid 0).op), .string ((x.kid 0).t.v), .int .i8 ((x.kid 0).t.l.k), .int .i64 ((x.kid 0).t.l.n), .string ((x.kid 0).t.l.s), .slice A109 ((x.kid 0).kids.length) c110], .bool (decide (fast (x.kid 0) < fast x))]) rfl (fun w_ c_ => Rt.mono (r6_within (d - 1) (x.kid 0) A109 c110 (decide (fast (x.kid 0) < fast x)) _ ho111 (Row.extE hr112 (Ext.trans (Keep.then_ (Keep.then_ (Ext.trans (Ext.trans (Ext.trans (NewB.ext n3) x101) (NewB.ext n126)) (NewB.ext n129)) (Wrote.keep k131) (fun i_ hi_ h_ => by have a_ := NewB.eq n126; have b_ := Keep.size (Ext.trans (NewB.ext n3) x101); omega)) (Wrote.keep k133) (fun i_ hi_ h_ => by have a_ := NewB.eq n129; have b_ := Keep.size (Ext.trans (Ext.trans (NewB.ext n3) x101) (NewB.ext n126)); omega)) c_)) (ih (by omega) 0 _ (kid_there (x := x) (j := 0) (by omega)) (exKid0 hb (by omega))) hz134) (fun v_ w2_ h_ => ⟨h_.1, Ext.trans c_ h_.2⟩)) ?_
              refine q_val (v := .string (inB (decide (fast (x.kid 0) < fast x)) (exW (d - 1) (x.kid 0)) ++ (⟨#[32]⟩ : ByteArray))) (w0 rfl) (fun w_ c_ => r_cat (ev_t rfl rfl) ev_c (by simp only [ByteArray.size_append, z0, z1, z2, z3, z4, z5, z6]; omega)) ?_
              refine q_val (v := .pointer (some ⟨g1, 0, none⟩)) (w0 rfl) (fun w_ c_ => r_field (off := 0) (o' := 0) F_f36_0 (ev_t rfl rfl) rfl) ?_
              refine q_val (v := .int .i8 x.op) (w0 rfl) (fun w_ c_ => r_load (v := .int .i8 x.op) F_o28 (ev_t rfl rfl) (cell_of_blk (i := 0) (Ext.blk (Ext.trans (Keep.then_ (Keep.then_ (Ext.trans (Ext.trans x101 (NewB.ext n126)) (NewB.ext n129)) (Wrote.keep k131) (fun i_ hi_ h_ => by have a_ := NewB.eq n126; have b_ := Keep.size x101; omega)) (Wrote.keep k133) (fun i_ hi_ h_ => by have a_ := NewB.eq n129; have b_ := Keep.size (Ext.trans x101 (NewB.ext n126)); omega)) c_) (NewB.blk n3)) rfl)) ?_
              refine q_call (v := .string (signW x.op)) F_e112 (w0 rfl) ev_f (m1 (ev_t rfl rfl)) (args := #[.int .i8 x.op]) rfl (fun w_ c_ => Rt.mono (r6_sign x.op _) (fun v_ w2_ h_ => ⟨h_.1, Ext.trans c_ h_.2⟩)) ?_
              refine q_val (v := .string (inB (decide (fast (x.kid 0) < fast x)) (exW (d - 1) (x.kid 0)) ++ (⟨#[32]⟩ : ByteArray) ++ (signW x.op))) (w0 rfl) (fun w_ c_ => r_cat (ev_t rfl rfl) (ev_t rfl rfl) (by simp only [ByteArray.size_append, z0, z1, z2, z3, z4, z5, z6]; omega)) ?_
              refine q_val (v := .string (inB (decide (fast (x.kid 0) < fast x)) (exW (d - 1) (x.kid 0)) ++ (⟨#[32]⟩ : ByteArray) ++ (signW x.op) ++ (⟨#[32]⟩ : ByteArray))) (w0 rfl) (fun w_ c_ => r_cat (ev_t rfl rfl) ev_c (by simp only [ByteArray.size_append, z0, z1, z2, z3, z4, z5, z6]; omega)) ?_
              refine q_val (v := .agg #[.int .i8 ((x.kid 1).op), .string ((x.kid 1).t.v), .int .i8 ((x.kid 1).t.l.k), .int .i64 ((x.kid 1).t.l.n), .string ((x.kid 1).t.l.s), .slice A120 ((x.kid 1).kids.length) c121]) (w0 rfl) (fun w_ c_ => r_loadL (cs := [.int .i8 ((x.kid 1).op), .string ((x.kid 1).t.v), .int .i8 ((x.kid 1).t.l.k), .int .i64 ((x.kid 1).t.l.n), .string ((x.kid 1).t.l.s), .slice A120 ((x.kid 1).kids.length) c121]) (ca := #[.int .i8 ((x.kid 1).op), .string ((x.kid 1).t.v), .int .i8 ((x.kid 1).t.l.k), .int .i64 ((x.kid 1).t.l.n), .string ((x.kid 1).t.l.s), .slice A120 ((x.kid 1).kids.length) c121]) F_m36 (ev_t rfl rfl) rfl rfl (blk_cells (Ext.blk c_ (Wrote.blk k133)) 0 (cs := [.int .i8 ((x.kid 1).op), .string ((x.kid 1).t.v), .int .i8 ((x.kid 1).t.l.k), .int .i64 ((x.kid 1).t.l.n), .string ((x.kid 1).t.l.s), .slice A120 ((x.kid 1).kids.length) c121]) rfl)) ?_
              refine q_val (v := .agg #[.int .i8 ((x.kid 1).op), .string ((x.kid 1).t.v), .int .i8 ((x.kid 1).t.l.k), .int .i64 ((x.kid 1).t.l.n), .string ((x.kid 1).t.l.s), .slice A120 ((x.kid 1).kids.length) c121]) (w0 rfl) (fun w_ c_ => r_loadL (cs := [.int .i8 ((x.kid 1).op), .string ((x.kid 1).t.v), .int .i8 ((x.kid 1).t.l.k), .int .i64 ((x.kid 1).t.l.n), .string ((x.kid 1).t.l.s), .slice A120 ((x.kid 1).kids.length) c121]) (ca := #[.int .i8 ((x.kid 1).op), .string ((x.kid 1).t.v), .int .i8 ((x.kid 1).t.l.k), .int .i64 ((x.kid 1).t.l.n), .string ((x.kid 1).t.l.s), .slice A120 ((x.kid 1).kids.length) c121]) F_m36 (ev_t rfl rfl) rfl rfl (blk_cells (Ext.blk c_ (Wrote.blk k133)) 0 (cs := [.int .i8 ((x.kid 1).op), .string ((x.kid 1).t.v), .int .i8 ((x.kid 1).t.l.k), .int .i64 ((x.kid 1).t.l.n), .string ((x.kid 1).t.l.s), .slice A120 ((x.kid 1).kids.length) c121]) rfl)) ?_
              refine q_call (v := .int .i64 (fast (x.kid 1))) F_e111 (w0 rfl) ev_f (m1 (ev_t rfl rfl)) (args := #[.agg #[.int .i8 ((x.kid 1).op), .string ((x.kid 1).t.v), .int .i8 ((x.kid 1).t.l.k), .int .i64 ((x.kid 1).t.l.n), .string ((x.kid 1).t.l.s), .slice A120 ((x.kid 1).kids.length) c121]]) rfl (fun w_ c_ => Rt.mono (r6_Fast (x.kid 1) A120 c121 _ ho122 (Row.extE hr123 (Ext.trans (Keep.then_ (Keep.then_ (Ext.trans (Ext.trans (Ext.trans (NewB.ext n3) x101) (NewB.ext n126)) (NewB.ext n129)) (Wrote.keep k131) (fun i_ hi_ h_ => by have a_ := NewB.eq n126; have b_ := Keep.size (Ext.trans (NewB.ext n3) x101); omega)) (Wrote.keep k133) (fun i_ hi_ h_ => by have a_ := NewB.eq n129; have b_ := Keep.size (Ext.trans (Ext.trans (NewB.ext n3) x101) (NewB.ext n126)); omega)) c_))) (fun v_ w2_ h_ => ⟨h_.1, Ext.trans c_ h_.2⟩)) ?_
              refine q_val (v := .agg #[.int .i8 x.op, .string x.t.v, .int .i8 x.t.l.k, .int .i64 x.t.l.n, .string x.t.l.s, .slice A x.kids.length c]) (w0 rfl) (fun w_ c_ => r_loadL (cs := [.int .i8 x.op, .string x.t.v, .int .i8 x.t.l.k, .int .i64 x.t.l.n, .string x.t.l.s, .slice A x.kids.length c]) (ca := #[.int .i8 x.op, .string x.t.v, .int .i8 x.t.l.k, .int .i64 x.t.l.n, .string x.t.l.s, .slice A x.kids.length c]) F_m36 (ev_t rfl rfl) rfl rfl (blk_cells (Ext.blk (Ext.trans (Keep.then_ (Keep.then_ (Ext.trans (Ext.trans x101 (NewB.ext n126)) (NewB.ext n129)) (Wrote.keep k131) (fun i_ hi_ h_ => by have a_ := NewB.eq n126; have b_ := Keep.size x101; omega)) (Wrote.keep k133) (fun i_ hi_ h_ => by have a_ := NewB.eq n129; have b_ := Keep.size (Ext.trans x101 (NewB.ext n126)); omega)) c_) (NewB.blk n3)) 0 (cs := [.int .i8 x.op, .string x.t.v, .int .i8 x.t.l.k, .int .i64 x.t.l.n, .string x.t.l.s, .slice A x.kids.length c]) rfl)) ?_
              refine q_call (v := .int .i64 (fast x)) F_e111 (w0 rfl) ev_f (m1 (ev_t rfl rfl)) (args := #[.agg #[.int .i8 x.op, .string x.t.v, .int .i8 x.t.l.k, .int .i64 x.t.l.n, .string x.t.l.s, .slice A x.kids.length c]]) rfl (fun w_ c_ => Rt.mono (r6_Fast x A c _ ho (Row.extE hr (Ext.trans (Keep.then_ (Keep.then_ (Ext.trans (Ext.trans (Ext.trans (NewB.ext n3) x101) (NewB.ext n126)) (NewB.ext n129)) (Wrote.keep k131) (fun i_ hi_ h_ => by have a_ := NewB.eq n126; have b_ := Keep.size (Ext.trans (NewB.ext n3) x101); omega)) (Wrote.keep k133) (fun i_ hi_ h_ => by have a_ := NewB.eq n129; have b_ := Keep.size (Ext.trans (Ext.trans (NewB.ext n3) x101) (NewB.ext n126)); omega)) c_))) (fun v_ w2_ h_ => ⟨h_.1, Ext.trans c_ h_.2⟩)) ?_
              refine q_val (v := .bool (decide (fast (x.kid 1) ≤ fast x))) (w0 rfl) (fun w_ c_ => r_cmp (r := decide (fast (x.kid 1) ≤ fast x)) (ev_t rfl rfl) (ev_t rfl rfl) rfl) ?_
              have hz135 := exW_le (d := d - 1) (by omega) (ex_two hb (by omega) (by omega) (by omega)).2.2 (Ex.Ok.kid hk_ (kid_there (x := x) (j := 1) (by omega)))
              have hz135_ := inB_size (decide (fast (x.kid 1) ≤ fast x)) (exW (d - 1) (x.kid 1))
              refine q_call (v := .string (inB (decide (fast (x.kid 1) ≤ fast x)) (exW (d - 1) (x.kid 1)))) F_e110 (w0 rfl) ev_f (m2 (ev_t rfl rfl) (ev_t rfl rfl)) (args := #[.agg #[.int .i8 ((x.kid 1).op), .string ((x.kid 1).t.v), .int .i8 ((x.kid 1).t.l.k), .int .i64 ((x.kid 1).t.l.n), .string ((x.kid 1).t.l.s), .slice A120 ((x.kid 1).kids.length) c121], .bool (decide (fast (x.kid 1) ≤ fast x))]) rfl (fun w_ c_ => Rt.mono (r6_within (d - 1) (x.kid 1) A120 c121 (decide (fast (x.kid 1) ≤ fast x)) _ ho122 (Row.extE hr123 (Ext.trans (Keep.then_ (Keep.then_ (Ext.trans (Ext.trans (Ext.trans (NewB.ext n3) x101) (NewB.ext n126)) (NewB.ext n129)) (Wrote.keep k131) (fun i_ hi_ h_ => by have a_ := NewB.eq n126; have b_ := Keep.size (Ext.trans (NewB.ext n3) x101); omega)) (Wrote.keep k133) (fun i_ hi_ h_ => by have a_ := NewB.eq n129; have b_ := Keep.size (Ext.trans (Ext.trans (NewB.ext n3) x101) (NewB.ext n126)); omega)) c_)) (ih (by omega) 1 _ (kid_there (x := x) (j := 1) (by omega)) (ex_two hb (by omega) (by omega) (by omega)).2.2) hz135) (fun v_ w2_ h_ => ⟨h_.1, Ext.trans c_ h_.2⟩)) ?_
              refine q_val (v := .string (inB (decide (fast (x.kid 0) < fast x)) (exW (d - 1) (x.kid 0)) ++ (⟨#[32]⟩ : ByteArray) ++ (signW x.op) ++ (⟨#[32]⟩ : ByteArray) ++ (inB (decide (fast (x.kid 1) ≤ fast x)) (exW (d - 1) (x.kid 1))))) (w0 rfl) (fun w_ c_ => r_cat (ev_t rfl rfl) (ev_t rfl rfl) (by simp only [ByteArray.size_append, z0, z1, z2, z3, z4, z5, z6]; omega)) ?_
              refine q_val (v := .string (inB (decide (fast (x.kid 0) < fast x)) (exW (d - 1) (x.kid 0)) ++ (⟨#[32]⟩ : ByteArray) ++ (signW x.op) ++ (⟨#[32]⟩ : ByteArray) ++ (inB (decide (fast (x.kid 1) ≤ fast x)) (exW (d - 1) (x.kid 1))))) (w0 rfl) (fun w_ c_ => r_assign (v := .string (inB (decide (fast (x.kid 0) < fast x)) (exW (d - 1) (x.kid 0)) ++ (⟨#[32]⟩ : ByteArray) ++ (signW x.op) ++ (⟨#[32]⟩ : ByteArray) ++ (inB (decide (fast (x.kid 1) ≤ fast x)) (exW (d - 1) (x.kid 1))))) (ev_t rfl rfl)) ?_
              refine q_done ?_
              intro w136 x137
              refine n_then (c_ret ?_)
              refine ret1 (v := .string (inB (decide (fast (x.kid 0) < fast x)) (exW (d - 1) (x.kid 0)) ++ (⟨#[32]⟩ : ByteArray) ++ (signW x.op) ++ (⟨#[32]⟩ : ByteArray) ++ (inB (decide (fast (x.kid 1) ≤ fast x)) (exW (d - 1) (x.kid 1))))) rfl rfl rfl ?_
              refine ⟨_, rfl, ?_, (Ext.trans (Keep.then_ (Keep.then_ (Ext.trans (Ext.trans (Ext.trans (NewB.ext n3) x101) (NewB.ext n126)) (NewB.ext n129)) (Wrote.keep k131) (fun i_ hi_ h_ => by have a_ := NewB.eq n126; have b_ := Keep.size (Ext.trans (NewB.ext n3) x101); omega)) (Wrote.keep k133) (fun i_ hi_ h_ => by have a_ := NewB.eq n129; have b_ := Keep.size (Ext.trans (Ext.trans (NewB.ext n3) x101) (NewB.ext n126)); omega)) x137)⟩
              (refine congrArg Value.string ?_; rw [exW_pos hd0_]; first | (rw [if_pos (by omega)]; done) | (rw [if_neg (by omega), if_pos (by omega)]; done) | (rw [if_neg (by omega), if_neg (by omega), if_pos (by omega)]; refine congrArg _ (congrArg (fun b => inB b _) ?_); simp [numB, *]; done) | (rw [if_neg (by omega), if_neg (by omega), if_neg (by omega)]; done))
            · refine tl_cons ?_
              refine s_alloc (cs := #[.int .i8 0, .string (⟨#[]⟩ : ByteArray), .int .i8 0, .int .i64 0, .string (⟨#[]⟩ : ByteArray), .slice none 0 0]) (w0 rfl) F_z36 rfl ?_
              intro w139 g138 n140
              refine tl_done ⟨(Ext.trans x101 (NewB.ext n140)), ?_⟩
              refine tl_cons ?_
              refine s_alloc (cs := #[.int .i8 0, .string (⟨#[]⟩ : ByteArray), .int .i8 0, .int .i64 0, .string (⟨#[]⟩ : ByteArray), .slice none 0 0]) (w0 rfl) F_z36 rfl ?_
              intro w142 g141 n143
              refine tl_done ⟨(Ext.trans (Ext.trans x101 (NewB.ext n140)) (NewB.ext n143)), ?_⟩
              refine tl_cons ?_
              refine s_store (cs' := #[.int .i8 ((x.kid 0).op), .string ((x.kid 0).t.v), .int .i8 ((x.kid 0).t.l.k), .int .i64 ((x.kid 0).t.l.n), .string ((x.kid 0).t.l.s), .slice A109 ((x.kid 0).kids.length) c110]) F_sz36 (ev_t rfl rfl) (ev_t rfl rfl) (l := [.int .i8 ((x.kid 0).op), .string ((x.kid 0).t.v), .int .i8 ((x.kid 0).t.l.k), .int .i64 ((x.kid 0).t.l.n), .string ((x.kid 0).t.l.s), .slice A109 ((x.kid 0).kids.length) c110]) rfl rfl rfl (NewB.blk n143) (Nat.le_of_ble_eq_true rfl) rfl (w0 rfl) ?_
              intro w144 k145
              refine tl_done ⟨(Keep.then_ (Ext.trans (Ext.trans x101 (NewB.ext n140)) (NewB.ext n143)) (Wrote.keep k145) (fun i_ hi_ h_ => by have a_ := NewB.eq n143; have b_ := Keep.size (Ext.trans x101 (NewB.ext n140)); omega)), ?_⟩
              refine tl_cons ?_
              refine s_store (cs' := #[.int .i8 ((x.kid 1).op), .string ((x.kid 1).t.v), .int .i8 ((x.kid 1).t.l.k), .int .i64 ((x.kid 1).t.l.n), .string ((x.kid 1).t.l.s), .slice A120 ((x.kid 1).kids.length) c121]) F_sz36 (ev_t rfl rfl) (ev_t rfl rfl) (l := [.int .i8 ((x.kid 1).op), .string ((x.kid 1).t.v), .int .i8 ((x.kid 1).t.l.k), .int .i64 ((x.kid 1).t.l.n), .string ((x.kid 1).t.l.s), .slice A120 ((x.kid 1).kids.length) c121]) rfl rfl rfl (Ext.blk (Keep.then_ (NewB.ext n143) (Wrote.keep k145) (fun i_ hi_ h_ => by have a_ := NewB.eq n143; have b_ := Keep.size (Ext.refl w139); omega)) (NewB.blk n140)) (Nat.le_of_ble_eq_true rfl) rfl (w0 rfl) ?_
              intro w146 k147
              refine tl_done ⟨(Keep.then_ (Keep.then_ (Ext.trans (Ext.trans x101 (NewB.ext n140)) (NewB.ext n143)) (Wrote.keep k145) (fun i_ hi_ h_ => by have a_ := NewB.eq n143; have b_ := Keep.size (Ext.trans x101 (NewB.ext n140)); omega)) (Wrote.keep k147) (fun i_ hi_ h_ => by have a_ := NewB.eq n140; have b_ := Keep.size x101; omega)), ?_⟩
              refine tl_nil ?_
              refine n_then (c_seq ?_)
              refine c_quiet mixed (by kernel_rfl) ?_
              refine q_val (v := .agg #[.int .i8 ((x.kid 0).op), .string ((x.kid 0).t.v), .int .i8 ((x.kid 0).t.l.k), .int .i64 ((x.kid 0).t.l.n), .string ((x.kid 0).t.l.s), .slice A109 ((x.kid 0).kids.length) c110]) (w0 rfl) (fun w_ c_ => r_loadL (cs := [.int .i8 ((x.kid 0).op), .string ((x.kid 0).t.v), .int .i8 ((x.kid 0).t.l.k), .int .i64 ((x.kid 0).t.l.n), .string ((x.kid 0).t.l.s), .slice A109 ((x.kid 0).kids.length) c110]) (ca := #[.int .i8 ((x.kid 0).op), .string ((x.kid 0).t.v), .int .i8 ((x.kid 0).t.l.k), .int .i64 ((x.kid 0).t.l.n), .string ((x.kid 0).t.l.s), .slice A109 ((x.kid 0).kids.length) c110]) F_m36 (ev_t rfl rfl) rfl rfl (blk_cells (Ext.blk c_ (Keep.blk (Wrote.keep k147) (Wrote.blk k145) (by have a_ := NewB.eq n143; have b_ := lt_of_blk (NewB.blk n140); omega))) 0 (cs := [.int .i8 ((x.kid 0).op), .string ((x.kid 0).t.v), .int .i8 ((x.kid 0).t.l.k), .int .i64 ((x.kid 0).t.l.n), .string ((x.kid 0).t.l.s), .slice A109 ((x.kid 0).kids.length) c110]) rfl)) ?_
              refine q_val (v := .agg #[.int .i8 ((x.kid 0).op), .string ((x.kid 0).t.v), .int .i8 ((x.kid 0).t.l.k), .int .i64 ((x.kid 0).t.l.n), .string ((x.kid 0).t.l.s), .slice A109 ((x.kid 0).kids.length) c110]) (w0 rfl) (fun w_ c_ => r_loadL (cs := [.int .i8 ((x.kid 0).op), .string ((x.kid 0).t.v), .int .i8 ((x.kid 0).t.l.k), .int .i64 ((x.kid 0).t.l.n), .string ((x.kid 0).t.l.s), .slice A109 ((x.kid 0).kids.length) c110]) (ca := #[.int .i8 ((x.kid 0).op), .string ((x.kid 0).t.v), .int .i8 ((x.kid 0).t.l.k), .int .i64 ((x.kid 0).t.l.n), .string ((x.kid 0).t.l.s), .slice A109 ((x.kid 0).kids.length) c110]) F_m36 (ev_t rfl rfl) rfl rfl (blk_cells (Ext.blk c_ (Keep.blk (Wrote.keep k147) (Wrote.blk k145) (by have a_ := NewB.eq n143; have b_ := lt_of_blk (NewB.blk n140); omega))) 0 (cs := [.int .i8 ((x.kid 0).op), .string ((x.kid 0).t.v), .int .i8 ((x.kid 0).t.l.k), .int .i64 ((x.kid 0).t.l.n), .string ((x.kid 0).t.l.s), .slice A109 ((x.kid 0).kids.length) c110]) rfl)) ?_
              refine q_call (v := .int .i64 (fast (x.kid 0))) F_e111 (w0 rfl) ev_f (m1 (ev_t rfl rfl)) (args := #[.agg #[.int .i8 ((x.kid 0).op), .string ((x.kid 0).t.v), .int .i8 ((x.kid 0).t.l.k), .int .i64 ((x.kid 0).t.l.n), .string ((x.kid 0).t.l.s), .slice A109 ((x.kid 0).kids.length) c110]]) rfl (fun w_ c_ => Rt.mono (r6_Fast (x.kid 0) A109 c110 _ ho111 (Row.extE hr112 (Ext.trans (Keep.then_ (Keep.then_ (Ext.trans (Ext.trans (Ext.trans (NewB.ext n3) x101) (NewB.ext n140)) (NewB.ext n143)) (Wrote.keep k145) (fun i_ hi_ h_ => by have a_ := NewB.eq n143; have b_ := Keep.size (Ext.trans (Ext.trans (NewB.ext n3) x101) (NewB.ext n140)); omega)) (Wrote.keep k147) (fun i_ hi_ h_ => by have a_ := NewB.eq n140; have b_ := Keep.size (Ext.trans (NewB.ext n3) x101); omega)) c_))) (fun v_ w2_ h_ => ⟨h_.1, Ext.trans c_ h_.2⟩)) ?_
              refine q_val (v := .agg #[.int .i8 x.op, .string x.t.v, .int .i8 x.t.l.k, .int .i64 x.t.l.n, .string x.t.l.s, .slice A x.kids.length c]) (w0 rfl) (fun w_ c_ => r_loadL (cs := [.int .i8 x.op, .string x.t.v, .int .i8 x.t.l.k, .int .i64 x.t.l.n, .string x.t.l.s, .slice A x.kids.length c]) (ca := #[.int .i8 x.op, .string x.t.v, .int .i8 x.t.l.k, .int .i64 x.t.l.n, .string x.t.l.s, .slice A x.kids.length c]) F_m36 (ev_t rfl rfl) rfl rfl (blk_cells (Ext.blk (Ext.trans (Keep.then_ (Keep.then_ (Ext.trans (Ext.trans x101 (NewB.ext n140)) (NewB.ext n143)) (Wrote.keep k145) (fun i_ hi_ h_ => by have a_ := NewB.eq n143; have b_ := Keep.size (Ext.trans x101 (NewB.ext n140)); omega)) (Wrote.keep k147) (fun i_ hi_ h_ => by have a_ := NewB.eq n140; have b_ := Keep.size x101; omega)) c_) (NewB.blk n3)) 0 (cs := [.int .i8 x.op, .string x.t.v, .int .i8 x.t.l.k, .int .i64 x.t.l.n, .string x.t.l.s, .slice A x.kids.length c]) rfl)) ?_
              refine q_call (v := .int .i64 (fast x)) F_e111 (w0 rfl) ev_f (m1 (ev_t rfl rfl)) (args := #[.agg #[.int .i8 x.op, .string x.t.v, .int .i8 x.t.l.k, .int .i64 x.t.l.n, .string x.t.l.s, .slice A x.kids.length c]]) rfl (fun w_ c_ => Rt.mono (r6_Fast x A c _ ho (Row.extE hr (Ext.trans (Keep.then_ (Keep.then_ (Ext.trans (Ext.trans (Ext.trans (NewB.ext n3) x101) (NewB.ext n140)) (NewB.ext n143)) (Wrote.keep k145) (fun i_ hi_ h_ => by have a_ := NewB.eq n143; have b_ := Keep.size (Ext.trans (Ext.trans (NewB.ext n3) x101) (NewB.ext n140)); omega)) (Wrote.keep k147) (fun i_ hi_ h_ => by have a_ := NewB.eq n140; have b_ := Keep.size (Ext.trans (NewB.ext n3) x101); omega)) c_))) (fun v_ w2_ h_ => ⟨h_.1, Ext.trans c_ h_.2⟩)) ?_
              refine q_val (v := .bool (decide (fast (x.kid 0) < fast x))) (w0 rfl) (fun w_ c_ => r_cmp (r := decide (fast (x.kid 0) < fast x)) (ev_t rfl rfl) (ev_t rfl rfl) rfl) ?_
              have hz148 := exW_le (d := d - 1) (by omega) (exKid0 hb (by omega)) (Ex.Ok.kid hk_ (kid_there (x := x) (j := 0) (by omega)))
              have hz148_ := inB_size (decide (fast (x.kid 0) < fast x)) (exW (d - 1) (x.kid 0))
              refine q_call (v := .string (inB (decide (fast (x.kid 0) < fast x)) (exW (d - 1) (x.kid 0)))) F_e110 (w0 rfl) ev_f (m2 (ev_t rfl rfl) (ev_t rfl rfl)) (args := #[.agg #[.int .i8 ((x.kid 0).op), .string ((x.kid 0).t.v), .int .i8 ((x.kid 0).t.l.k), .int .i64 ((x.kid 0).t.l.n), .string ((x.kid 0).t.l.s), .slice A109 ((x.kid 0).kids.length) c110], .bool (decide (fast (x.kid 0) < fast x))]) rfl (fun w_ c_ => Rt.mono (r6_within (d - 1) (x.kid 0) A109 c110 (decide (fast (x.kid 0) < fast x)) _ ho111 (Row.extE hr112 (Ext.trans (Keep.then_ (Keep.then_ (Ext.trans (Ext.trans (Ext.trans (NewB.ext n3) x101) (NewB.ext n140)) (NewB.ext n143)) (Wrote.keep k145) (fun i_ hi_ h_ => by have a_ := NewB.eq n143; have b_ := Keep.size (Ext.trans (Ext.trans (NewB.ext n3) x101) (NewB.ext n140)); omega)) (Wrote.keep k147) (fun i_ hi_ h_ => by have a_ := NewB.eq n140; have b_ := Keep.size (Ext.trans (NewB.ext n3) x101); omega)) c_)) (ih (by omega) 0 _ (kid_there (x := x) (j := 0) (by omega)) (exKid0 hb (by omega))) hz148) (fun v_ w2_ h_ => ⟨h_.1, Ext.trans c_ h_.2⟩)) ?_
              refine q_val (v := .string (inB (decide (fast (x.kid 0) < fast x)) (exW (d - 1) (x.kid 0)) ++ (⟨#[32]⟩ : ByteArray))) (w0 rfl) (fun w_ c_ => r_cat (ev_t rfl rfl) ev_c (by simp only [ByteArray.size_append, z0, z1, z2, z3, z4, z5, z6]; omega)) ?_
              refine q_val (v := .pointer (some ⟨g1, 0, none⟩)) (w0 rfl) (fun w_ c_ => r_field (off := 0) (o' := 0) F_f36_0 (ev_t rfl rfl) rfl) ?_
              refine q_val (v := .int .i8 x.op) (w0 rfl) (fun w_ c_ => r_load (v := .int .i8 x.op) F_o28 (ev_t rfl rfl) (cell_of_blk (i := 0) (Ext.blk (Ext.trans (Keep.then_ (Keep.then_ (Ext.trans (Ext.trans x101 (NewB.ext n140)) (NewB.ext n143)) (Wrote.keep k145) (fun i_ hi_ h_ => by have a_ := NewB.eq n143; have b_ := Keep.size (Ext.trans x101 (NewB.ext n140)); omega)) (Wrote.keep k147) (fun i_ hi_ h_ => by have a_ := NewB.eq n140; have b_ := Keep.size x101; omega)) c_) (NewB.blk n3)) rfl)) ?_
              refine q_call (v := .string (signW x.op)) F_e112 (w0 rfl) ev_f (m1 (ev_t rfl rfl)) (args := #[.int .i8 x.op]) rfl (fun w_ c_ => Rt.mono (r6_sign x.op _) (fun v_ w2_ h_ => ⟨h_.1, Ext.trans c_ h_.2⟩)) ?_
              refine q_val (v := .string (inB (decide (fast (x.kid 0) < fast x)) (exW (d - 1) (x.kid 0)) ++ (⟨#[32]⟩ : ByteArray) ++ (signW x.op))) (w0 rfl) (fun w_ c_ => r_cat (ev_t rfl rfl) (ev_t rfl rfl) (by simp only [ByteArray.size_append, z0, z1, z2, z3, z4, z5, z6]; omega)) ?_
              refine q_val (v := .string (inB (decide (fast (x.kid 0) < fast x)) (exW (d - 1) (x.kid 0)) ++ (⟨#[32]⟩ : ByteArray) ++ (signW x.op) ++ (⟨#[32]⟩ : ByteArray))) (w0 rfl) (fun w_ c_ => r_cat (ev_t rfl rfl) ev_c (by simp only [ByteArray.size_append, z0, z1, z2, z3, z4, z5, z6]; omega)) ?_
              refine q_val (v := .agg #[.int .i8 ((x.kid 1).op), .string ((x.kid 1).t.v), .int .i8 ((x.kid 1).t.l.k), .int .i64 ((x.kid 1).t.l.n), .string ((x.kid 1).t.l.s), .slice A120 ((x.kid 1).kids.length) c121]) (w0 rfl) (fun w_ c_ => r_loadL (cs := [.int .i8 ((x.kid 1).op), .string ((x.kid 1).t.v), .int .i8 ((x.kid 1).t.l.k), .int .i64 ((x.kid 1).t.l.n), .string ((x.kid 1).t.l.s), .slice A120 ((x.kid 1).kids.length) c121]) (ca := #[.int .i8 ((x.kid 1).op), .string ((x.kid 1).t.v), .int .i8 ((x.kid 1).t.l.k), .int .i64 ((x.kid 1).t.l.n), .string ((x.kid 1).t.l.s), .slice A120 ((x.kid 1).kids.length) c121]) F_m36 (ev_t rfl rfl) rfl rfl (blk_cells (Ext.blk c_ (Wrote.blk k147)) 0 (cs := [.int .i8 ((x.kid 1).op), .string ((x.kid 1).t.v), .int .i8 ((x.kid 1).t.l.k), .int .i64 ((x.kid 1).t.l.n), .string ((x.kid 1).t.l.s), .slice A120 ((x.kid 1).kids.length) c121]) rfl)) ?_
              refine q_val (v := .agg #[.int .i8 ((x.kid 1).op), .string ((x.kid 1).t.v), .int .i8 ((x.kid 1).t.l.k), .int .i64 ((x.kid 1).t.l.n), .string ((x.kid 1).t.l.s), .slice A120 ((x.kid 1).kids.length) c121]) (w0 rfl) (fun w_ c_ => r_loadL (cs := [.int .i8 ((x.kid 1).op), .string ((x.kid 1).t.v), .int .i8 ((x.kid 1).t.l.k), .int .i64 ((x.kid 1).t.l.n), .string ((x.kid 1).t.l.s), .slice A120 ((x.kid 1).kids.length) c121]) (ca := #[.int .i8 ((x.kid 1).op), .string ((x.kid 1).t.v), .int .i8 ((x.kid 1).t.l.k), .int .i64 ((x.kid 1).t.l.n), .string ((x.kid 1).t.l.s), .slice A120 ((x.kid 1).kids.length) c121]) F_m36 (ev_t rfl rfl) rfl rfl (blk_cells (Ext.blk c_ (Wrote.blk k147)) 0 (cs := [.int .i8 ((x.kid 1).op), .string ((x.kid 1).t.v), .int .i8 ((x.kid 1).t.l.k), .int .i64 ((x.kid 1).t.l.n), .string ((x.kid 1).t.l.s), .slice A120 ((x.kid 1).kids.length) c121]) rfl)) ?_
              refine q_call (v := .int .i64 (fast (x.kid 1))) F_e111 (w0 rfl) ev_f (m1 (ev_t rfl rfl)) (args := #[.agg #[.int .i8 ((x.kid 1).op), .string ((x.kid 1).t.v), .int .i8 ((x.kid 1).t.l.k), .int .i64 ((x.kid 1).t.l.n), .string ((x.kid 1).t.l.s), .slice A120 ((x.kid 1).kids.length) c121]]) rfl (fun w_ c_ => Rt.mono (r6_Fast (x.kid 1) A120 c121 _ ho122 (Row.extE hr123 (Ext.trans (Keep.then_ (Keep.then_ (Ext.trans (Ext.trans (Ext.trans (NewB.ext n3) x101) (NewB.ext n140)) (NewB.ext n143)) (Wrote.keep k145) (fun i_ hi_ h_ => by have a_ := NewB.eq n143; have b_ := Keep.size (Ext.trans (Ext.trans (NewB.ext n3) x101) (NewB.ext n140)); omega)) (Wrote.keep k147) (fun i_ hi_ h_ => by have a_ := NewB.eq n140; have b_ := Keep.size (Ext.trans (NewB.ext n3) x101); omega)) c_))) (fun v_ w2_ h_ => ⟨h_.1, Ext.trans c_ h_.2⟩)) ?_
              refine q_val (v := .agg #[.int .i8 x.op, .string x.t.v, .int .i8 x.t.l.k, .int .i64 x.t.l.n, .string x.t.l.s, .slice A x.kids.length c]) (w0 rfl) (fun w_ c_ => r_loadL (cs := [.int .i8 x.op, .string x.t.v, .int .i8 x.t.l.k, .int .i64 x.t.l.n, .string x.t.l.s, .slice A x.kids.length c]) (ca := #[.int .i8 x.op, .string x.t.v, .int .i8 x.t.l.k, .int .i64 x.t.l.n, .string x.t.l.s, .slice A x.kids.length c]) F_m36 (ev_t rfl rfl) rfl rfl (blk_cells (Ext.blk (Ext.trans (Keep.then_ (Keep.then_ (Ext.trans (Ext.trans x101 (NewB.ext n140)) (NewB.ext n143)) (Wrote.keep k145) (fun i_ hi_ h_ => by have a_ := NewB.eq n143; have b_ := Keep.size (Ext.trans x101 (NewB.ext n140)); omega)) (Wrote.keep k147) (fun i_ hi_ h_ => by have a_ := NewB.eq n140; have b_ := Keep.size x101; omega)) c_) (NewB.blk n3)) 0 (cs := [.int .i8 x.op, .string x.t.v, .int .i8 x.t.l.k, .int .i64 x.t.l.n, .string x.t.l.s, .slice A x.kids.length c]) rfl)) ?_
              refine q_call (v := .int .i64 (fast x)) F_e111 (w0 rfl) ev_f (m1 (ev_t rfl rfl)) (args := #[.agg #[.int .i8 x.op, .string x.t.v, .int .i8 x.t.l.k, .int .i64 x.t.l.n, .string x.t.l.s, .slice A x.kids.length c]]) rfl (fun w_ c_ => Rt.mono (r6_Fast x A c _ ho (Row.extE hr (Ext.trans (Keep.then_ (Keep.then_ (Ext.trans (Ext.trans (Ext.trans (NewB.ext n3) x101) (NewB.ext n140)) (NewB.ext n143)) (Wrote.keep k145) (fun i_ hi_ h_ => by have a_ := NewB.eq n143; have b_ := Keep.size (Ext.trans (Ext.trans (NewB.ext n3) x101) (NewB.ext n140)); omega)) (Wrote.keep k147) (fun i_ hi_ h_ => by have a_ := NewB.eq n140; have b_ := Keep.size (Ext.trans (NewB.ext n3) x101); omega)) c_))) (fun v_ w2_ h_ => ⟨h_.1, Ext.trans c_ h_.2⟩)) ?_
              refine q_val (v := .bool (decide (fast (x.kid 1) ≤ fast x))) (w0 rfl) (fun w_ c_ => r_cmp (r := decide (fast (x.kid 1) ≤ fast x)) (ev_t rfl rfl) (ev_t rfl rfl) rfl) ?_
              have hz149 := exW_le (d := d - 1) (by omega) (ex_two hb (by omega) (by omega) (by omega)).2.2 (Ex.Ok.kid hk_ (kid_there (x := x) (j := 1) (by omega)))
              have hz149_ := inB_size (decide (fast (x.kid 1) ≤ fast x)) (exW (d - 1) (x.kid 1))
              refine q_call (v := .string (inB (decide (fast (x.kid 1) ≤ fast x)) (exW (d - 1) (x.kid 1)))) F_e110 (w0 rfl) ev_f (m2 (ev_t rfl rfl) (ev_t rfl rfl)) (args := #[.agg #[.int .i8 ((x.kid 1).op), .string ((x.kid 1).t.v), .int .i8 ((x.kid 1).t.l.k), .int .i64 ((x.kid 1).t.l.n), .string ((x.kid 1).t.l.s), .slice A120 ((x.kid 1).kids.length) c121], .bool (decide (fast (x.kid 1) ≤ fast x))]) rfl (fun w_ c_ => Rt.mono (r6_within (d - 1) (x.kid 1) A120 c121 (decide (fast (x.kid 1) ≤ fast x)) _ ho122 (Row.extE hr123 (Ext.trans (Keep.then_ (Keep.then_ (Ext.trans (Ext.trans (Ext.trans (NewB.ext n3) x101) (NewB.ext n140)) (NewB.ext n143)) (Wrote.keep k145) (fun i_ hi_ h_ => by have a_ := NewB.eq n143; have b_ := Keep.size (Ext.trans (Ext.trans (NewB.ext n3) x101) (NewB.ext n140)); omega)) (Wrote.keep k147) (fun i_ hi_ h_ => by have a_ := NewB.eq n140; have b_ := Keep.size (Ext.trans (NewB.ext n3) x101); omega)) c_)) (ih (by omega) 1 _ (kid_there (x := x) (j := 1) (by omega)) (ex_two hb (by omega) (by omega) (by omega)).2.2) hz149) (fun v_ w2_ h_ => ⟨h_.1, Ext.trans c_ h_.2⟩)) ?_
              refine q_val (v := .string (inB (decide (fast (x.kid 0) < fast x)) (exW (d - 1) (x.kid 0)) ++ (⟨#[32]⟩ : ByteArray) ++ (signW x.op) ++ (⟨#[32]⟩ : ByteArray) ++ (inB (decide (fast (x.kid 1) ≤ fast x)) (exW (d - 1) (x.kid 1))))) (w0 rfl) (fun w_ c_ => r_cat (ev_t rfl rfl) (ev_t rfl rfl) (by simp only [ByteArray.size_append, z0, z1, z2, z3, z4, z5, z6]; omega)) ?_
              refine q_val (v := .string (inB (decide (fast (x.kid 0) < fast x)) (exW (d - 1) (x.kid 0)) ++ (⟨#[32]⟩ : ByteArray) ++ (signW x.op) ++ (⟨#[32]⟩ : ByteArray) ++ (inB (decide (fast (x.kid 1) ≤ fast x)) (exW (d - 1) (x.kid 1))))) (w0 rfl) (fun w_ c_ => r_assign (v := .string (inB (decide (fast (x.kid 0) < fast x)) (exW (d - 1) (x.kid 0)) ++ (⟨#[32]⟩ : ByteArray) ++ (signW x.op) ++ (⟨#[32]⟩ : ByteArray) ++ (inB (decide (fast (x.kid 1) ≤ fast x)) (exW (d - 1) (x.kid 1))))) (ev_t rfl rfl)) ?_
              refine q_done ?_
              intro w150 x151
              refine n_then (c_ret ?_)
              refine ret1 (v := .string (inB (decide (fast (x.kid 0) < fast x)) (exW (d - 1) (x.kid 0)) ++ (⟨#[32]⟩ : ByteArray) ++ (signW x.op) ++ (⟨#[32]⟩ : ByteArray) ++ (inB (decide (fast (x.kid 1) ≤ fast x)) (exW (d - 1) (x.kid 1))))) rfl rfl rfl ?_
              refine ⟨_, rfl, ?_, (Ext.trans (Keep.then_ (Keep.then_ (Ext.trans (Ext.trans (Ext.trans (NewB.ext n3) x101) (NewB.ext n140)) (NewB.ext n143)) (Wrote.keep k145) (fun i_ hi_ h_ => by have a_ := NewB.eq n143; have b_ := Keep.size (Ext.trans (Ext.trans (NewB.ext n3) x101) (NewB.ext n140)); omega)) (Wrote.keep k147) (fun i_ hi_ h_ => by have a_ := NewB.eq n140; have b_ := Keep.size (Ext.trans (NewB.ext n3) x101); omega)) x151)⟩
              (refine congrArg Value.string ?_; rw [exW_pos hd0_]; first | (rw [if_pos (by omega)]; done) | (rw [if_neg (by omega), if_pos (by omega)]; done) | (rw [if_neg (by omega), if_neg (by omega), if_pos (by omega)]; refine congrArg _ (congrArg (fun b => inB b _) ?_); simp [numB, *]; done) | (rw [if_neg (by omega), if_neg (by omega), if_neg (by omega)]; done))
theorem r6_expr : ∀ (d : Nat) (x : Ex) (A : Option Addr) (c : Nat) (w : World), d ≤ 8 → exB d x = true → x.okc c → Row RE 6 w A x.kids → Rt Tryz.prog 73 #[.agg #[.int .i8 x.op, .string x.t.v, .int .i8 x.t.l.k, .int .i64 x.t.l.n, .string x.t.l.s, .slice A x.kids.length c]] w fun v w' => v = .string (exW d x) ∧ Ext w w' := by
  intro d
  induction d with
  | zero =>
    intro x A c w hd hb ho hr
    simp [exB] at hb
  | succ d ih =>
    intro x A c w hd hb ho hr
    exact r6_expr_step (d + 1) x A c w ho hr hd hb (fun _ j y hj hy A c w ho hr => ih y A c w (by omega) hy ho hr)
end Go.Proofs.Zw

set_option linter.unusedVariables false
set_option linter.unusedSimpArgs false
namespace Go.Wk
open Go Go.RowKit Go.Lib
section
variable {P : Program} {ops : Array Oper} {Q : Exit → Act → World → Prop} {rest : List Oper} {n d t : Nat} {env : Nat → Value} {ds : List Deferred} {w w' : World} {v u : Value}
  {ty T : TypeId} {pos : String} {af : Array Edge} {gd : Option (Nat × Bool)} {x y z : Operand}
/-- A text's bytes in a block. -/
def SB (w : World) (g : Nat) (s : ByteArray) : Prop := ∀ j, j < s.size → w.cell? ⟨g, 0 + j * 1, none⟩ = some (.int .u8 (byteAt s j))
theorem SB.ext {g : Nat} {s : ByteArray} (h : SB w g s) (k : Ext w w') : SB w' g s := fun j hj => k.cell (h j hj)
/-- []byte(s) -/
theorem s_sbytes {S2 e : TypeId} {s : ByteArray} (hs : P.underlying T = some .string) (hd : P.underlying S2 = some (.slice e)) (he : P.underlying e = some (.int .u8)) (hx : (mkA n env ds).eval x = .string s)
    (hw : Region.wanted ⟨some d, .convert T S2 x, ty, pos, af, gd⟩ (yielded ops (mkA n env ds).tmps) = true)
    (k : ∀ w' g c, SB w' g s → Ext w w' → wpList P ops Q rest (mkA n (upd env d (.slice (some ⟨g, 0, none⟩) s.size c)) ds) w') : wpList P ops Q (⟨some d, .convert T S2 x, ty, pos, af, gd⟩ :: rest) (mkA n env ds) w := by
  refine s_val hw (w' := bytesWorld w e s) (v := .slice (some ⟨w.heap.size, 0, none⟩) s.size (grownCap w s.size 0 e)) ?_ (k _ _ _ ?_ ?_)
  · simp only [execOp, hx]
    rw [Sem.run_bind, Go.Lib.run_convert_string_bytes w T S2 e s hs hd he]
    rfl
  · intro j hj
    have := bytesWorld_cell w e s j hj
    rw [Nat.zero_add, Nat.mul_one, this]
    congr 2
    simp [byteAt, Array.getD_eq_getD_getElem?, List.getD_eq_getElem?_getD]
  · refine ⟨rfl, rfl, rfl, ?_, fun j hj _ => bytesWorld_at_old w e s j hj⟩
    rw [bytesWorld_size]; omega
end
/-- A word is one, asked from the first byte on. -/
theorem wordB_yes0 {s : ByteArray} {lo hi : Int} (h1 : ¬ (s.size : Int) = 0) (h2 : ¬ (120 : Int) < s.size) (h3 : ¬ (byteAt s 0 : Int) < lo) (h4 : ¬ hi < (byteAt s 0 : Int)) {i : Nat} (hi' : ¬ (i : Int) < s.size) (h5 : ∀ j, j < i → letterB (byteAt s j) = true) : wordB s lo hi = true := by
  simp only [wordB, decide_eq_true_eq]
  exact ⟨by omega, by omega, by omega, by omega, fun j hj => h5 j (by omega)⟩
/-- Where the first one lies, or -1. -/
def posB {α : Type} (p : α → Bool) (l : List α) : Int := match l.findIdx? p with
  | some i => (i : Int)
  | none => -1
theorem posB_at {α : Type} {p : α → Bool} {l : List α} {i : Nat} {z : α} (h : ∀ j y, j < i → l[j]? = some y → p y = false) (hz : l[i]? = some z) (hp : p z = true) : posB p l = i := by
  have hi : i < l.length := (List.getElem?_eq_some_iff.1 hz).1
  have he : l[i] = z := (List.getElem?_eq_some_iff.1 hz).2
  have : l.findIdx? p = some i := by
    rw [List.findIdx?_eq_some_iff_getElem]
    refine ⟨hi, by rw [he]; exact hp, fun j hj => ?_⟩
    have := h j (l[j]'(by omega)) hj (List.getElem?_eq_getElem _)
    simp [this]
  simp [posB, this]
theorem posB_none {α : Type} {p : α → Bool} {l : List α} {i : Nat} (hi : ¬ (i : Int) < l.length) (h : ∀ j y, j < i → l[j]? = some y → p y = false) : posB p l = -1 := by
  have : l.findIdx? p = none := by
    rw [List.findIdx?_eq_none_iff]
    intro y hy
    obtain ⟨j, hj, rfl⟩ := List.getElem_of_mem hy
    exact h j _ (by omega) (List.getElem?_eq_getElem hj)
  simp [posB, this]
theorem kids_stepF {α : Type} {p : α → Bool} {l : List α} {i : Nat} {z : α} (h : ∀ j y, j < i → l[j]? = some y → p y = false) (hz : l[i]? = some z) (hp : p z = false) : ∀ j y, j < i + 1 → l[j]? = some y → p y = false := by
  intro j y hj hy
  rcases Nat.lt_succ_iff_lt_or_eq.1 hj with hj | rfl
  · exact h j y hj hy
  · rw [hz] at hy; cases hy; exact hp
theorem posB_all {α : Type} (p : α → Bool) (l : List α) : (!decide (0 ≤ posB (fun y => !p y) l)) = l.all p := by
  rw [Bool.eq_iff_iff]
  simp only [Bool.not_eq_true', decide_eq_false_iff_not, List.all_eq_true]
  unfold posB
  cases h : l.findIdx? (fun y => !p y) with
  | none =>
    rw [List.findIdx?_eq_none_iff] at h
    simp only [Int.reduceNeg]
    exact ⟨fun _ y hy => by simpa using h y hy, fun _ => by omega⟩
  | some i =>
    rw [List.findIdx?_eq_some_iff_getElem] at h
    obtain ⟨hi, h1, _⟩ := h
    simp only
    refine ⟨fun h => absurd (Int.natCast_nonneg i) h, fun h => ?_⟩
    have := h _ (List.getElem_mem hi)
    simp [this] at h1
theorem posB_le {α : Type} (p : α → Bool) (l : List α) : -1 ≤ posB p l ∧ posB p l < l.length ∨ l = [] := by
  by_cases h0 : l = []
  · exact .inr h0
  · left
    unfold posB
    have : 0 < l.length := List.length_pos_iff.2 h0
    cases h : l.findIdx? p with
    | none => simp only [Int.reduceNeg]; omega
    | some i =>
      rw [List.findIdx?_eq_some_iff_getElem] at h
      obtain ⟨hi, _⟩ := h
      simp only; omega
end Go.Wk

set_option linter.unusedVariables false
set_option linter.unusedSimpArgs false
set_option maxRecDepth 10000
namespace Go.Proofs.Zw
open Go Go.Wk Go.Proofs Go.Lib
attribute [local irreducible] Go.wpList Go.wpStill Go.wpQuiet Go.Code.wp Go.Calls
theorem F_e103 : enterable Tryz.prog 103 = true := by kernel_rfl
theorem F_e105 : enterable Tryz.prog 105 = true := by kernel_rfl
theorem F_e64 : enterable Tryz.prog 64 = true := by kernel_rfl
theorem F_e68 : enterable Tryz.prog 68 = true := by kernel_rfl
theorem F_l93 : sliceT Tryz.prog 93 1 = true := by kernel_rfl
theorem F_o5 : one Tryz.prog 5 = true := by kernel_rfl
theorem eqzT33eql (x : Tm) (a b : Operand) (w : World) : (do eqGuard .eql 33 a b (.agg #[.string x.v, .int .i8 x.l.k, .int .i64 x.l.n, .string x.l.s]) (.agg #[.string ⟨#[]⟩, .int .i8 0, .int .i64 0, .string ⟨#[]⟩]); binOp .eql 33 (.agg #[.string x.v, .int .i8 x.l.k, .int .i64 x.l.n, .string x.l.s]) (.agg #[.string ⟨#[]⟩, .int .i8 0, .int .i64 0, .string ⟨#[]⟩]) : Sem Value).run Tryz.prog w = .ok (.bool (zT x)) w := by
  have hu := Tryz.underlying33
  go_simp
  simp only [toList_nil_iff]
  (first | (by_cases h0 : x.v = (⟨#[]⟩ : ByteArray)) | skip) <;> (first | (by_cases h1 : x.k = 0 <;> by_cases h2 : x.n = 0 <;> by_cases h3 : x.s = (⟨#[]⟩ : ByteArray)) | (by_cases h1 : x.l.k = 0 <;> by_cases h2 : x.l.n = 0 <;> by_cases h3 : x.l.s = (⟨#[]⟩ : ByteArray))) <;> simp [zV, zT, *]
set_option maxHeartbeats 4000000 in
theorem v_Check (x : Vl) (w : World) :
    Rt Tryz.prog 105 #[.agg #[.int .i8 x.k, .int .i64 x.n, .string x.s]] w fun v w' => v = .int .i64 (if okV x then 0 else 10 : Int) ∧ Ext w w' := by
  refine enter Tryz.func105 rfl (l := [.agg #[.int .i8 x.k, .int .i64 x.n, .string x.s]]) rfl Tryz.ntmps105 (Nat.le_of_ble_eq_true rfl) ?_
  refine c_seq (c_reg ?_)
  refine s_box (v := .agg #[.int .i8 x.k, .int .i64 x.n, .string x.s]) (cs := #[.int .i8 x.k, .int .i64 x.n, .string x.s]) (w0 rfl) (ev_t rfl rfl) rfl ?_
  intro w2 g1 n3
  refine s_assign (v := .int .i64 0) ev_c (w0 rfl) ?_
  refine c_done (n_then (c_seq (c_seq (c_reg ?_))))
  refine s_field (off := 0) (o' := 0) F_f31_0 (ev_t rfl rfl) rfl (w0 rfl) ?_
  refine s_load (v := .int .i8 x.k) F_o29 (ev_t rfl rfl) (cell_of_blk (i := 0) (NewB.blk n3) rfl) (w0 rfl) ?_
  refine c_done (n_then (c_block (c_seq (c_reg ?_))))
  refine s_cmp (r := decide (x.k = 1)) (ev_t rfl rfl) ev_c rfl (w0 rfl) ?_
  refine s_assign (v := .bool (decide (x.k = 1))) (ev_t rfl rfl) (w0 rfl) ?_
  refine c_done (n_then ?_)
  by_cases h4 : x.k = 1
  · refine c_cond1 (vb (ev_t rfl rfl) (decide_eq_true h4)) ?_
    refine c_seq (c_reg ?_)
    refine s_field (off := 2) (o' := 2) F_f31_2 (ev_t rfl rfl) rfl (w0 rfl) ?_
    refine s_load (v := .string x.s) F_o9 (ev_t rfl rfl) (cell_of_blk (i := 2) (NewB.blk n3) rfl) (w0 rfl) ?_
    refine s_cmpS (r := decide (x.s = (⟨#[]⟩ : ByteArray))) (ev_t rfl rfl) ev_c rfl (w0 rfl) ?_
    refine c_done (n_then ?_)
    by_cases h5 : x.s = (⟨#[]⟩ : ByteArray)
    · refine c_cond1 (vb (ev_t rfl rfl) (decide_eq_true h5)) ?_
      refine c_seq (c_reg ?_)
      refine s_assign (v := .int .i64 0) ev_c (w0 rfl) ?_
      refine c_done (n_then (c_ret (r_block (r_then ?_))))
      refine ret1 (v := .int .i64 0) rfl rfl rfl ?_
      refine ⟨_, rfl, ?_, (NewB.ext n3)⟩
      (first | rfl | (simp [okV, *]; done) | (simp [okV, *]; omega) | (simp [okV, *] <;> omega))
    · refine c_cond0 (vb (ev_t rfl rfl) (decide_eq_false h5)) ?_
      refine c_skip (n_block (n_then (c_seq (c_reg ?_))))
      refine s_assign (v := .int .i64 10) ev_c (w0 rfl) ?_
      refine c_done (n_then (c_ret ?_))
      refine ret1 (v := .int .i64 10) rfl rfl rfl ?_
      refine ⟨_, rfl, ?_, (NewB.ext n3)⟩
      (first | rfl | (simp [okV, *]; done) | (simp [okV, *]; omega) | (simp [okV, *] <;> omega))
  · refine c_cond0 (vb (ev_t rfl rfl) (decide_eq_false h4)) ?_
    refine c_seq (c_reg ?_)
    refine s_cmp (r := decide (x.k = 2)) (ev_t rfl rfl) ev_c rfl (w0 rfl) ?_
    refine s_assign (v := .bool (decide (x.k = 2))) (ev_t rfl rfl) (w0 rfl) ?_
    refine c_done (n_then ?_)
    by_cases h6 : x.k = 2
    · refine c_cond1 (vb (ev_t rfl rfl) (decide_eq_true h6)) ?_
      refine c_seq (c_reg ?_)
      refine s_field (off := 1) (o' := 1) F_f31_1 (ev_t rfl rfl) rfl (w0 rfl) ?_
      refine s_load (v := .int .i64 x.n) F_o2 (ev_t rfl rfl) (cell_of_blk (i := 1) (NewB.blk n3) rfl) (w0 rfl) ?_
      refine s_cmp (r := decide (x.n = 0)) (ev_t rfl rfl) ev_c rfl (w0 rfl) ?_
      by_cases h7 : x.n = 0
      · refine s_move (v := .bool true) (vb (ev_t rfl rfl) (decide_eq_true h7)) (w0 rfl) ?_
        refine s_field (off := 2) (o' := 2) F_f31_2 (ev_t rfl rfl) rfl (wy rfl rfl rfl rfl) ?_
        refine s_load (v := .string x.s) F_o9 (ev_t rfl rfl) (cell_of_blk (i := 2) (NewB.blk n3) rfl) (wy rfl rfl rfl rfl) ?_
        refine s_lenS F_us9 (ev_t rfl rfl) (wy rfl rfl rfl rfl) ?_
        refine s_cmp (r := decide ((x.s.size : Int) ≤ 200)) (ev_t rfl rfl) ev_c rfl (wy rfl rfl rfl rfl) ?_
        refine s_pick1 (v := .bool (decide ((x.s.size : Int) ≤ 200))) (ev_t rfl rfl) (ev_t rfl rfl) (w0 rfl) ?_
        refine c_done (n_then ?_)
        by_cases h8 : (x.s.size : Int) ≤ 200
        · refine c_cond1 (vb (ev_t rfl rfl) (decide_eq_true h8)) ?_
          refine c_seq (c_reg ?_)
          refine s_assign (v := .int .i64 0) ev_c (w0 rfl) ?_
          refine c_done (n_then (c_ret (r_block (r_then ?_))))
          refine ret1 (v := .int .i64 0) rfl rfl rfl ?_
          refine ⟨_, rfl, ?_, (NewB.ext n3)⟩
          (first | rfl | (simp [okV, *]; done) | (simp [okV, *]; omega) | (simp [okV, *] <;> omega))
        · refine c_cond0 (vb (ev_t rfl rfl) (decide_eq_false h8)) ?_
          refine c_skip (n_block (n_then (c_seq (c_reg ?_))))
          refine s_assign (v := .int .i64 10) ev_c (w0 rfl) ?_
          refine c_done (n_then (c_ret ?_))
          refine ret1 (v := .int .i64 10) rfl rfl rfl ?_
          refine ⟨_, rfl, ?_, (NewB.ext n3)⟩
          (first | rfl | (simp [okV, *]; done) | (simp [okV, *]; omega) | (simp [okV, *] <;> omega))
      · refine s_move (v := .bool false) (vb (ev_t rfl rfl) (decide_eq_false h7)) (w0 rfl) ?_
        refine s_skip (wn rfl rfl rfl rfl rfl) ?_
        refine s_skip (wn rfl rfl rfl rfl rfl) ?_
        refine s_skip (wn rfl rfl rfl rfl rfl) ?_
        refine s_skip (wn rfl rfl rfl rfl rfl) ?_
        refine s_pick0 (v := .bool false) (ev_t rfl rfl) ev_c (w0 rfl) ?_
        refine c_done (n_then ?_)
        refine c_cond0 (ev_t rfl rfl) ?_
        refine c_skip (n_block (n_then (c_seq (c_reg ?_))))
        refine s_assign (v := .int .i64 10) ev_c (w0 rfl) ?_
        refine c_done (n_then (c_ret ?_))
        refine ret1 (v := .int .i64 10) rfl rfl rfl ?_
        refine ⟨_, rfl, ?_, (NewB.ext n3)⟩
        (first | rfl | (simp [okV, *]; done) | (simp [okV, *]; omega) | (simp [okV, *] <;> omega))
    · refine c_cond0 (vb (ev_t rfl rfl) (decide_eq_false h6)) ?_
      refine c_skip (n_block (n_then (c_seq (c_reg ?_))))
      refine s_assign (v := .int .i64 10) ev_c (w0 rfl) ?_
      refine c_done (n_then (c_ret ?_))
      refine ret1 (v := .int .i64 10) rfl rfl rfl ?_
      refine ⟨_, rfl, ?_, (NewB.ext n3)⟩
      (first | rfl | (simp [okV, *]; done) | (simp [okV, *]; omega) | (simp [okV, *] <;> omega))
set_option maxHeartbeats 4000000 in
theorem t_code (b : Bool) (w : World) :
    Rt Tryz.prog 64 #[.bool b] w fun v w' => v = .int .i64 (code b) ∧ Ext w w' := by
  refine enter Tryz.func64 rfl (l := [.bool b]) rfl Tryz.ntmps64 (Nat.le_of_ble_eq_true rfl) ?_
  refine c_seq (c_reg ?_)
  refine s_assign (v := .int .i64 0) ev_c (w0 rfl) ?_
  refine c_done (n_then (c_seq (c_seq (c_reg ?_))))
  refine s_move (v := .bool b) (ev_t rfl rfl) (w0 rfl) ?_
  refine c_done (n_then ?_)
  rcases Bool.eq_false_or_eq_true b with h1 | h1
  · refine c_cond1 (vb (ev_t rfl rfl) h1) ?_
    refine c_seq (c_reg ?_)
    refine s_assign (v := .int .i64 0) ev_c (w0 rfl) ?_
    refine c_done (n_then (c_ret (r_then ?_)))
    refine ret1 (v := .int .i64 0) rfl rfl rfl ?_
    refine ⟨_, rfl, ?_, (Ext.refl w)⟩
    (first | rfl | (simp [code, *]; done) | (simp [code, *]; omega) | (simp [code, *] <;> omega))
  · refine c_cond0 (vb (ev_t rfl rfl) h1) ?_
    refine c_skip (n_then (c_seq (c_reg ?_)))
    refine s_assign (v := .int .i64 40) ev_c (w0 rfl) ?_
    refine c_done (n_then (c_ret ?_))
    refine ret1 (v := .int .i64 40) rfl rfl rfl ?_
    refine ⟨_, rfl, ?_, (Ext.refl w)⟩
    (first | rfl | (simp [code, *]; done) | (simp [code, *]; omega) | (simp [code, *] <;> omega))
set_option maxHeartbeats 4000000 in
theorem t_arity (op : Int) (w : World) :
    Rt Tryz.prog 133 #[.int .i8 op] w fun v w' => v = .int .i64 (kidsN op) ∧ Ext w w' := by
  refine enter Tryz.func133 rfl (l := [.int .i8 op]) rfl Tryz.ntmps133 (Nat.le_of_ble_eq_true rfl) ?_
  refine c_seq (c_reg ?_)
  refine s_assign (v := .int .i64 0) ev_c (w0 rfl) ?_
  refine c_done (n_then (c_seq (c_seq (c_reg ?_))))
  refine s_move (v := .int .i8 op) (ev_t rfl rfl) (w0 rfl) ?_
  refine c_done (n_then (c_block (c_seq (c_seq (c_reg ?_)))))
  refine s_cmp (r := decide (op = 1)) (ev_t rfl rfl) ev_c rfl (w0 rfl) ?_
  refine s_assign (v := .bool (decide (op = 1))) (ev_t rfl rfl) (w0 rfl) ?_
  refine c_done (n_then ?_)
  by_cases h1 : op = 1
  · refine c_cond1 (vb (ev_t rfl rfl) (decide_eq_true h1)) ?_
    refine c_skip (n_then ?_)
    refine c_cond1 (vb (ev_t rfl rfl) (decide_eq_true h1)) ?_
    refine c_seq (c_reg ?_)
    refine s_assign (v := .int .i64 1) ev_c (w0 rfl) ?_
    refine c_done (n_then (c_ret (r_block (r_then ?_))))
    refine ret1 (v := .int .i64 1) rfl rfl rfl ?_
    refine ⟨_, rfl, ?_, (Ext.refl w)⟩
    (refine congrArg (Value.int .i64) ?_; unfold kidsN; first | rw [if_pos (by omega)] | rw [if_neg (by omega), if_pos (by omega)] | rw [if_neg (by omega), if_neg (by omega)])
  · refine c_cond0 (vb (ev_t rfl rfl) (decide_eq_false h1)) ?_
    refine c_seq (c_reg ?_)
    refine s_cmp (r := decide (op = 8)) (ev_t rfl rfl) ev_c rfl (w0 rfl) ?_
    refine s_assign (v := .bool (decide (op = 8))) (ev_t rfl rfl) (w0 rfl) ?_
    refine c_done (n_then ?_)
    by_cases h2 : op = 8
    · refine c_cond1 (vb (ev_t rfl rfl) (decide_eq_true h2)) ?_
      refine c_skip (n_then ?_)
      refine c_cond1 (vb (ev_t rfl rfl) (decide_eq_true h2)) ?_
      refine c_seq (c_reg ?_)
      refine s_assign (v := .int .i64 1) ev_c (w0 rfl) ?_
      refine c_done (n_then (c_ret (r_block (r_then ?_))))
      refine ret1 (v := .int .i64 1) rfl rfl rfl ?_
      refine ⟨_, rfl, ?_, (Ext.refl w)⟩
      (refine congrArg (Value.int .i64) ?_; unfold kidsN; first | rw [if_pos (by omega)] | rw [if_neg (by omega), if_pos (by omega)] | rw [if_neg (by omega), if_neg (by omega)])
    · refine c_cond0 (vb (ev_t rfl rfl) (decide_eq_false h2)) ?_
      refine c_seq (c_reg ?_)
      refine s_cmp (r := decide (op = 9)) (ev_t rfl rfl) ev_c rfl (w0 rfl) ?_
      refine s_assign (v := .bool (decide (op = 9))) (ev_t rfl rfl) (w0 rfl) ?_
      refine c_done (n_then ?_)
      by_cases h3 : op = 9
      · refine c_cond1 (vb (ev_t rfl rfl) (decide_eq_true h3)) ?_
        refine c_skip (n_then ?_)
        refine c_cond1 (vb (ev_t rfl rfl) (decide_eq_true h3)) ?_
        refine c_seq (c_reg ?_)
        refine s_assign (v := .int .i64 1) ev_c (w0 rfl) ?_
        refine c_done (n_then (c_ret (r_block (r_then ?_))))
        refine ret1 (v := .int .i64 1) rfl rfl rfl ?_
        refine ⟨_, rfl, ?_, (Ext.refl w)⟩
        (refine congrArg (Value.int .i64) ?_; unfold kidsN; first | rw [if_pos (by omega)] | rw [if_neg (by omega), if_pos (by omega)] | rw [if_neg (by omega), if_neg (by omega)])
      · refine c_cond0 (vb (ev_t rfl rfl) (decide_eq_false h3)) ?_
        refine c_reg ?_
        refine s_cmp (r := decide (op = 10)) (ev_t rfl rfl) ev_c rfl (w0 rfl) ?_
        refine s_assign (v := .bool (decide (op = 10))) (ev_t rfl rfl) (w0 rfl) ?_
        refine c_done (n_then ?_)
        by_cases h4 : op = 10
        · refine c_cond1 (vb (ev_t rfl rfl) (decide_eq_true h4)) ?_
          refine c_seq (c_reg ?_)
          refine s_assign (v := .int .i64 1) ev_c (w0 rfl) ?_
          refine c_done (n_then (c_ret (r_block (r_then ?_))))
          refine ret1 (v := .int .i64 1) rfl rfl rfl ?_
          refine ⟨_, rfl, ?_, (Ext.refl w)⟩
          (refine congrArg (Value.int .i64) ?_; unfold kidsN; first | rw [if_pos (by omega)] | rw [if_neg (by omega), if_pos (by omega)] | rw [if_neg (by omega), if_neg (by omega)])
        · refine c_cond0 (vb (ev_t rfl rfl) (decide_eq_false h4)) ?_
          refine c_seq (c_seq (c_reg ?_))
          refine s_cmp (r := decide (op = 2)) (ev_t rfl rfl) ev_c rfl (w0 rfl) ?_
          refine s_assign (v := .bool (decide (op = 2))) (ev_t rfl rfl) (w0 rfl) ?_
          refine c_done (n_then ?_)
          by_cases h5 : op = 2
          · refine c_cond1 (vb (ev_t rfl rfl) (decide_eq_true h5)) ?_
            refine c_skip (n_then ?_)
            refine c_cond1 (vb (ev_t rfl rfl) (decide_eq_true h5)) ?_
            refine c_seq (c_reg ?_)
            refine s_assign (v := .int .i64 2) ev_c (w0 rfl) ?_
            refine c_done (n_then (c_ret (r_block (r_then ?_))))
            refine ret1 (v := .int .i64 2) rfl rfl rfl ?_
            refine ⟨_, rfl, ?_, (Ext.refl w)⟩
            (refine congrArg (Value.int .i64) ?_; unfold kidsN; first | rw [if_pos (by omega)] | rw [if_neg (by omega), if_pos (by omega)] | rw [if_neg (by omega), if_neg (by omega)])
          · refine c_cond0 (vb (ev_t rfl rfl) (decide_eq_false h5)) ?_
            refine c_seq (c_reg ?_)
            refine s_cmp (r := decide (op = 3)) (ev_t rfl rfl) ev_c rfl (w0 rfl) ?_
            refine s_assign (v := .bool (decide (op = 3))) (ev_t rfl rfl) (w0 rfl) ?_
            refine c_done (n_then ?_)
            by_cases h6 : op = 3
            · refine c_cond1 (vb (ev_t rfl rfl) (decide_eq_true h6)) ?_
              refine c_skip (n_then ?_)
              refine c_cond1 (vb (ev_t rfl rfl) (decide_eq_true h6)) ?_
              refine c_seq (c_reg ?_)
              refine s_assign (v := .int .i64 2) ev_c (w0 rfl) ?_
              refine c_done (n_then (c_ret (r_block (r_then ?_))))
              refine ret1 (v := .int .i64 2) rfl rfl rfl ?_
              refine ⟨_, rfl, ?_, (Ext.refl w)⟩
              (refine congrArg (Value.int .i64) ?_; unfold kidsN; first | rw [if_pos (by omega)] | rw [if_neg (by omega), if_pos (by omega)] | rw [if_neg (by omega), if_neg (by omega)])
            · refine c_cond0 (vb (ev_t rfl rfl) (decide_eq_false h6)) ?_
              refine c_seq (c_reg ?_)
              refine s_cmp (r := decide (op = 4)) (ev_t rfl rfl) ev_c rfl (w0 rfl) ?_
              refine s_assign (v := .bool (decide (op = 4))) (ev_t rfl rfl) (w0 rfl) ?_
              refine c_done (n_then ?_)
              by_cases h7 : op = 4
              · refine c_cond1 (vb (ev_t rfl rfl) (decide_eq_true h7)) ?_
                refine c_skip (n_then ?_)
                refine c_cond1 (vb (ev_t rfl rfl) (decide_eq_true h7)) ?_
                refine c_seq (c_reg ?_)
                refine s_assign (v := .int .i64 2) ev_c (w0 rfl) ?_
                refine c_done (n_then (c_ret (r_block (r_then ?_))))
                refine ret1 (v := .int .i64 2) rfl rfl rfl ?_
                refine ⟨_, rfl, ?_, (Ext.refl w)⟩
                (refine congrArg (Value.int .i64) ?_; unfold kidsN; first | rw [if_pos (by omega)] | rw [if_neg (by omega), if_pos (by omega)] | rw [if_neg (by omega), if_neg (by omega)])
              · refine c_cond0 (vb (ev_t rfl rfl) (decide_eq_false h7)) ?_
                refine c_seq (c_reg ?_)
                refine s_cmp (r := decide (op = 5)) (ev_t rfl rfl) ev_c rfl (w0 rfl) ?_
                refine s_assign (v := .bool (decide (op = 5))) (ev_t rfl rfl) (w0 rfl) ?_
                refine c_done (n_then ?_)
                by_cases h8 : op = 5
                · refine c_cond1 (vb (ev_t rfl rfl) (decide_eq_true h8)) ?_
                  refine c_skip (n_then ?_)
                  refine c_cond1 (vb (ev_t rfl rfl) (decide_eq_true h8)) ?_
                  refine c_seq (c_reg ?_)
                  refine s_assign (v := .int .i64 2) ev_c (w0 rfl) ?_
                  refine c_done (n_then (c_ret (r_block (r_then ?_))))
                  refine ret1 (v := .int .i64 2) rfl rfl rfl ?_
                  refine ⟨_, rfl, ?_, (Ext.refl w)⟩
                  (refine congrArg (Value.int .i64) ?_; unfold kidsN; first | rw [if_pos (by omega)] | rw [if_neg (by omega), if_pos (by omega)] | rw [if_neg (by omega), if_neg (by omega)])
                · refine c_cond0 (vb (ev_t rfl rfl) (decide_eq_false h8)) ?_
                  refine c_seq (c_reg ?_)
                  refine s_cmp (r := decide (op = 6)) (ev_t rfl rfl) ev_c rfl (w0 rfl) ?_
                  refine s_assign (v := .bool (decide (op = 6))) (ev_t rfl rfl) (w0 rfl) ?_
                  refine c_done (n_then ?_)
                  by_cases h9 : op = 6
                  · refine c_cond1 (vb (ev_t rfl rfl) (decide_eq_true h9)) ?_
                    refine c_skip (n_then ?_)
                    refine c_cond1 (vb (ev_t rfl rfl) (decide_eq_true h9)) ?_
                    refine c_seq (c_reg ?_)
                    refine s_assign (v := .int .i64 2) ev_c (w0 rfl) ?_
                    refine c_done (n_then (c_ret (r_block (r_then ?_))))
                    refine ret1 (v := .int .i64 2) rfl rfl rfl ?_
                    refine ⟨_, rfl, ?_, (Ext.refl w)⟩
                    (refine congrArg (Value.int .i64) ?_; unfold kidsN; first | rw [if_pos (by omega)] | rw [if_neg (by omega), if_pos (by omega)] | rw [if_neg (by omega), if_neg (by omega)])
                  · refine c_cond0 (vb (ev_t rfl rfl) (decide_eq_false h9)) ?_
                    refine c_reg ?_
                    refine s_cmp (r := decide (op = 7)) (ev_t rfl rfl) ev_c rfl (w0 rfl) ?_
                    refine s_assign (v := .bool (decide (op = 7))) (ev_t rfl rfl) (w0 rfl) ?_
                    refine c_done (n_then ?_)
                    by_cases h10 : op = 7
                    · refine c_cond1 (vb (ev_t rfl rfl) (decide_eq_true h10)) ?_
                      refine c_seq (c_reg ?_)
                      refine s_assign (v := .int .i64 2) ev_c (w0 rfl) ?_
                      refine c_done (n_then (c_ret (r_block (r_then ?_))))
                      refine ret1 (v := .int .i64 2) rfl rfl rfl ?_
                      refine ⟨_, rfl, ?_, (Ext.refl w)⟩
                      (refine congrArg (Value.int .i64) ?_; unfold kidsN; first | rw [if_pos (by omega)] | rw [if_neg (by omega), if_pos (by omega)] | rw [if_neg (by omega), if_neg (by omega)])
                    · refine c_cond0 (vb (ev_t rfl rfl) (decide_eq_false h10)) ?_
                      refine c_skip (n_block (n_then (c_seq (c_reg ?_))))
                      refine s_assign (v := .int .i64 (-1)) ev_c (w0 rfl) ?_
                      refine c_done (n_then (c_ret ?_))
                      refine ret1 (v := .int .i64 (-1)) rfl rfl rfl ?_
                      refine ⟨_, rfl, ?_, (Ext.refl w)⟩
                      (refine congrArg (Value.int .i64) ?_; unfold kidsN; first | rw [if_pos (by omega)] | rw [if_neg (by omega), if_pos (by omega)] | rw [if_neg (by omega), if_neg (by omega)])
set_option maxHeartbeats 4000000 in
theorem t_none (x : Tm) (w : World) :
    Rt Tryz.prog 113 #[.agg #[.string x.v, .int .i8 x.l.k, .int .i64 x.l.n, .string x.l.s]] w fun v w' => v = .bool (zT x) ∧ Ext w w' := by
  refine enter Tryz.func113 rfl (l := [.agg #[.string x.v, .int .i8 x.l.k, .int .i64 x.l.n, .string x.l.s]]) rfl Tryz.ntmps113 (Nat.le_of_ble_eq_true rfl) ?_
  refine c_seq (c_reg ?_)
  refine s_box (v := .agg #[.string x.v, .int .i8 x.l.k, .int .i64 x.l.n, .string x.l.s]) (cs := #[.string x.v, .int .i8 x.l.k, .int .i64 x.l.n, .string x.l.s]) (w0 rfl) (ev_t rfl rfl) rfl ?_
  intro w2 g1 n3
  refine s_assign (v := .bool false) ev_c (w0 rfl) ?_
  refine c_done (n_then (c_seq (c_reg ?_)))
  refine s_loadL (cs := [.string x.v, .int .i8 x.l.k, .int .i64 x.l.n, .string x.l.s]) (ca := #[.string x.v, .int .i8 x.l.k, .int .i64 x.l.n, .string x.l.s]) F_m33 (ev_t rfl rfl) rfl rfl (blk_cells (NewB.blk n3) 0 (cs := [.string x.v, .int .i8 x.l.k, .int .i64 x.l.n, .string x.l.s]) rfl) (w0 rfl) ?_
  refine s_build (v := .agg #[.string (⟨#[]⟩ : ByteArray), .int .i8 0, .int .i64 0, .string (⟨#[]⟩ : ByteArray)]) (vs := []) b0 (bd33) (w0 rfl) ?_
  refine s_cmpG (r := zT x) (ev_t rfl rfl) (ev_t rfl rfl) ((fun w_ => eqzT33eql x _ _ w_)) (w0 rfl) ?_
  refine s_assign (v := .bool (zT x)) (ev_t rfl rfl) (w0 rfl) ?_
  refine c_done (n_then (c_ret ?_))
  refine ret1 (v := .bool (zT x)) rfl rfl rfl ?_
  refine ⟨_, rfl, ?_, (NewB.ext n3)⟩
  rfl
set_option maxHeartbeats 4000000 in
theorem t_word (s : ByteArray) (lo hi : Int) (w : World) (hs : s.size ≤ 140737488351232) :
    Rt Tryz.prog 103 #[.string s, .int .u8 lo, .int .u8 hi] w fun v w' => v = .bool (wordB s lo hi) ∧ Ext w w' := by
  refine enter Tryz.func103 rfl (l := [.string s, .int .u8 lo, .int .u8 hi]) rfl Tryz.ntmps103 (Nat.le_of_ble_eq_true rfl) ?_
  refine c_seq (c_reg ?_)
  refine s_assign (v := .bool false) ev_c (w0 rfl) ?_
  refine c_done (n_then (c_seq (c_seq (c_reg ?_))))
  refine s_move (v := .string s) (ev_t rfl rfl) (w0 rfl) ?_
  refine s_lenS F_us9 (ev_t rfl rfl) (w0 rfl) ?_
  refine s_cmp (r := decide ((s.size : Int) = 0)) (ev_t rfl rfl) ev_c rfl (w0 rfl) ?_
  by_cases h1 : (s.size : Int) = 0
  · refine s_move (v := .bool true) (vb (ev_t rfl rfl) (decide_eq_true h1)) (w0 rfl) ?_
    refine s_skip (wn rfl rfl rfl rfl rfl) ?_
    refine s_skip (wn rfl rfl rfl rfl rfl) ?_
    refine s_skip (wn rfl rfl rfl rfl rfl) ?_
    refine s_pick1 (v := .bool true) (ev_t rfl rfl) ev_c (w0 rfl) ?_
    refine s_move (v := .bool true) (ev_t rfl rfl) (w0 rfl) ?_
    refine s_skip (wn rfl rfl rfl rfl rfl) ?_
    refine s_skip (wn rfl rfl rfl rfl rfl) ?_
    refine s_skip (wn rfl rfl rfl rfl rfl) ?_
    refine s_skip (wn rfl rfl rfl rfl rfl) ?_
    refine s_pick1 (v := .bool true) (ev_t rfl rfl) ev_c (w0 rfl) ?_
    refine s_move (v := .bool true) (ev_t rfl rfl) (w0 rfl) ?_
    refine s_skip (wn rfl rfl rfl rfl rfl) ?_
    refine s_skip (wn rfl rfl rfl rfl rfl) ?_
    refine s_skip (wn rfl rfl rfl rfl rfl) ?_
    refine s_skip (wn rfl rfl rfl rfl rfl) ?_
    refine s_pick1 (v := .bool true) (ev_t rfl rfl) ev_c (w0 rfl) ?_
    refine c_done (n_then ?_)
    refine c_cond1 (ev_t rfl rfl) ?_
    refine c_seq (c_reg ?_)
    refine s_assign (v := .bool false) ev_c (w0 rfl) ?_
    refine c_done (n_then (c_ret (r_then ?_)))
    refine ret1 (v := .bool false) rfl rfl rfl ?_
    refine ⟨_, rfl, ?_, (Ext.refl w)⟩
    (simp only [wordB]; congr 1; symm; simp only [decide_eq_false_iff_not]; omega)
  · refine s_move (v := .bool false) (vb (ev_t rfl rfl) (decide_eq_false h1)) (w0 rfl) ?_
    refine s_move (v := .string s) (ev_t rfl rfl) (wy rfl rfl rfl rfl) ?_
    refine s_lenS F_us9 (ev_t rfl rfl) (wy rfl rfl rfl rfl) ?_
    refine s_cmp (r := decide (120 < (s.size : Int))) (ev_t rfl rfl) ev_c rfl (wy rfl rfl rfl rfl) ?_
    refine s_pick0 (v := .bool (decide (120 < (s.size : Int)))) (ev_t rfl rfl) (ev_t rfl rfl) (w0 rfl) ?_
    by_cases h2 : 120 < (s.size : Int)
    · refine s_move (v := .bool true) (vb (ev_t rfl rfl) (decide_eq_true h2)) (w0 rfl) ?_
      refine s_skip (wn rfl rfl rfl rfl rfl) ?_
      refine s_skip (wn rfl rfl rfl rfl rfl) ?_
      refine s_skip (wn rfl rfl rfl rfl rfl) ?_
      refine s_skip (wn rfl rfl rfl rfl rfl) ?_
      refine s_pick1 (v := .bool true) (ev_t rfl rfl) ev_c (w0 rfl) ?_
      refine s_move (v := .bool true) (ev_t rfl rfl) (w0 rfl) ?_
      refine s_skip (wn rfl rfl rfl rfl rfl) ?_
      refine s_skip (wn rfl rfl rfl rfl rfl) ?_
      refine s_skip (wn rfl rfl rfl rfl rfl) ?_
      refine s_skip (wn rfl rfl rfl rfl rfl) ?_
      refine s_pick1 (v := .bool true) (ev_t rfl rfl) ev_c (w0 rfl) ?_
      refine c_done (n_then ?_)
      refine c_cond1 (ev_t rfl rfl) ?_
      refine c_seq (c_reg ?_)
      refine s_assign (v := .bool false) ev_c (w0 rfl) ?_
      refine c_done (n_then (c_ret (r_then ?_)))
      refine ret1 (v := .bool false) rfl rfl rfl ?_
      refine ⟨_, rfl, ?_, (Ext.refl w)⟩
      (simp only [wordB]; congr 1; symm; simp only [decide_eq_false_iff_not]; omega)
    · refine s_move (v := .bool false) (vb (ev_t rfl rfl) (decide_eq_false h2)) (w0 rfl) ?_
      refine s_move (v := .string s) (ev_t rfl rfl) (wy rfl rfl rfl rfl) ?_
      refine s_byte (j := 0) F_us9 (ev_t rfl rfl) ev_c rfl (by omega) (wy rfl rfl rfl rfl) ?_
      refine s_move (v := .int .u8 lo) (ev_t rfl rfl) (wy rfl rfl rfl rfl) ?_
      refine s_cmp (r := decide ((byteAt s 0 : Int) < lo)) (ev_t rfl rfl) (ev_t rfl rfl) rfl (wy rfl rfl rfl rfl) ?_
      refine s_pick0 (v := .bool (decide ((byteAt s 0 : Int) < lo))) (ev_t rfl rfl) (ev_t rfl rfl) (w0 rfl) ?_
      by_cases h3 : (byteAt s 0 : Int) < lo
      · refine s_move (v := .bool true) (vb (ev_t rfl rfl) (decide_eq_true h3)) (w0 rfl) ?_
        refine s_skip (wn rfl rfl rfl rfl rfl) ?_
        refine s_skip (wn rfl rfl rfl rfl rfl) ?_
        refine s_skip (wn rfl rfl rfl rfl rfl) ?_
        refine s_skip (wn rfl rfl rfl rfl rfl) ?_
        refine s_pick1 (v := .bool true) (ev_t rfl rfl) ev_c (w0 rfl) ?_
        refine c_done (n_then ?_)
        refine c_cond1 (ev_t rfl rfl) ?_
        refine c_seq (c_reg ?_)
        refine s_assign (v := .bool false) ev_c (w0 rfl) ?_
        refine c_done (n_then (c_ret (r_then ?_)))
        refine ret1 (v := .bool false) rfl rfl rfl ?_
        refine ⟨_, rfl, ?_, (Ext.refl w)⟩
        (simp only [wordB]; congr 1; symm; simp only [decide_eq_false_iff_not]; omega)
      · refine s_move (v := .bool false) (vb (ev_t rfl rfl) (decide_eq_false h3)) (w0 rfl) ?_
        refine s_move (v := .string s) (ev_t rfl rfl) (wy rfl rfl rfl rfl) ?_
        refine s_byte (j := 0) F_us9 (ev_t rfl rfl) ev_c rfl (by omega) (wy rfl rfl rfl rfl) ?_
        refine s_move (v := .int .u8 hi) (ev_t rfl rfl) (wy rfl rfl rfl rfl) ?_
        refine s_cmp (r := decide (hi < (byteAt s 0 : Int))) (ev_t rfl rfl) (ev_t rfl rfl) rfl (wy rfl rfl rfl rfl) ?_
        refine s_pick0 (v := .bool (decide (hi < (byteAt s 0 : Int)))) (ev_t rfl rfl) (ev_t rfl rfl) (w0 rfl) ?_
        refine c_done (n_then ?_)
        by_cases h4 : hi < (byteAt s 0 : Int)
        · refine c_cond1 (vb (ev_t rfl rfl) (decide_eq_true h4)) ?_
          refine c_seq (c_reg ?_)
          refine s_assign (v := .bool false) ev_c (w0 rfl) ?_
          refine c_done (n_then (c_ret (r_then ?_)))
          refine ret1 (v := .bool false) rfl rfl rfl ?_
          refine ⟨_, rfl, ?_, (Ext.refl w)⟩
          (simp only [wordB]; congr 1; symm; simp only [decide_eq_false_iff_not]; omega)
        · refine c_cond0 (vb (ev_t rfl rfl) (decide_eq_false h4)) ?_
          refine c_skip (n_then (c_seq (c_seq (c_reg ?_))))
          refine s_move (v := .string s) (ev_t rfl rfl) (w0 rfl) ?_
          refine s_sbytes F_us9 F_ul93 F_ui5 (ev_t rfl rfl) (w0 rfl) ?_
          intro w7 g5 c6 sb8 x9
          refine s_lenL F_l93 (ev_t rfl rfl) (w0 rfl) ?_
          refine s_move (v := .int .i64 0) ev_c (w0 rfl) ?_
          refine c_done (n_then (c_block ?_))
          refine c_loop (α := Nat) (fun (i : Nat) env_ w_ => Ext w7 w_ ∧ (∀ j, j < i → letterB (byteAt s j) = true) ∧ env_ 30 = .slice (some ⟨g5, 0, none⟩) s.size c6 ∧ env_ 31 = .int .i64 (s.size : Int) ∧ env_ 32 = .int .i64 ((i : Nat) : Int)) (fun i => s.size - i) (0) ⟨Ext.refl _, fun j hj => absurd hj (Nat.not_lt_zero j), rfl, rfl, rfl⟩ ?_
          rintro i env12 w10 ⟨x11, i13, e14, e15, e16⟩
          refine c_seq (c_reg ?_)
          refine s_cmp (r := decide (((i : Nat) : Int) < (s.size : Int))) (ev_t rfl e16) (ev_t rfl e15) rfl (w0 rfl) ?_
          refine c_done (n_then (c_seq ?_))
          by_cases h17 : ((i : Nat) : Int) < (s.size : Int)
          · refine c_cond1 (vb (ev_t rfl rfl) (decide_eq_true h17)) ?_
            refine c_skip (n_then (c_seq (c_block (c_seq (c_reg ?_)))))
            refine s_indexR (j := i) F_l93 (ev_t rfl e14) rfl (ev_t rfl e16) rfl (by omega) (w0 rfl) ?_
            refine s_load (v := .int .u8 (byteAt s i : Int)) F_o5 (ev_t rfl rfl) ((SB.ext sb8 x11) i (by omega)) (w0 rfl) ?_
            refine s_assign (v := .int .u8 (byteAt s i : Int)) (ev_t rfl rfl) (w0 rfl) ?_
            refine c_done (n_then (c_seq (c_reg ?_)))
            refine s_move (v := .int .u8 (byteAt s i : Int)) (ev_t rfl rfl) (w0 rfl) ?_
            refine s_cmp (r := decide ((byteAt s i : Int) < 97)) (ev_t rfl rfl) ev_c rfl (w0 rfl) ?_
            by_cases h18 : (byteAt s i : Int) < 97
            · refine s_move (v := .bool true) (vb (ev_t rfl rfl) (decide_eq_true h18)) (w0 rfl) ?_
              refine s_skip (wn rfl rfl rfl rfl rfl) ?_
              refine s_skip (wn rfl rfl rfl rfl rfl) ?_
              refine s_pick1 (v := .bool true) (ev_t rfl rfl) ev_c (w0 rfl) ?_
              refine s_move (v := .bool true) (ev_t rfl rfl) (w0 rfl) ?_
              refine s_move (v := .int .u8 (byteAt s i : Int)) (ev_t rfl rfl) (wy rfl rfl rfl rfl) ?_
              refine s_cmp (r := decide ((byteAt s i : Int) < 65)) (ev_t rfl rfl) ev_c rfl (wy rfl rfl rfl rfl) ?_
              by_cases h19 : (byteAt s i : Int) < 65
              · refine s_move (v := .bool true) (vb (ev_t rfl rfl) (decide_eq_true h19)) (wy rfl rfl rfl rfl) ?_
                refine s_skip (wn rfl rfl rfl rfl rfl) ?_
                refine s_skip (wn rfl rfl rfl rfl rfl) ?_
                refine s_pick1 (v := .bool true) (ev_t rfl rfl) ev_c (wy rfl rfl rfl rfl) ?_
                refine s_pick1 (v := .bool true) (ev_t rfl rfl) (ev_t rfl rfl) (w0 rfl) ?_
                refine s_move (v := .bool true) (ev_t rfl rfl) (w0 rfl) ?_
                refine s_move (v := .int .u8 (byteAt s i : Int)) (ev_t rfl rfl) (wy rfl rfl rfl rfl) ?_
                refine s_cmp (r := decide ((byteAt s i : Int) < 48)) (ev_t rfl rfl) ev_c rfl (wy rfl rfl rfl rfl) ?_
                by_cases h20 : (byteAt s i : Int) < 48
                · refine s_move (v := .bool true) (vb (ev_t rfl rfl) (decide_eq_true h20)) (wy rfl rfl rfl rfl) ?_
                  refine s_skip (wn rfl rfl rfl rfl rfl) ?_
                  refine s_skip (wn rfl rfl rfl rfl rfl) ?_
                  refine s_pick1 (v := .bool true) (ev_t rfl rfl) ev_c (wy rfl rfl rfl rfl) ?_
                  refine s_pick1 (v := .bool true) (ev_t rfl rfl) (ev_t rfl rfl) (w0 rfl) ?_
                  refine s_move (v := .bool true) (ev_t rfl rfl) (w0 rfl) ?_
                  refine s_move (v := .int .u8 (byteAt s i : Int)) (ev_t rfl rfl) (wy rfl rfl rfl rfl) ?_
                  refine s_cmp (r := !decide ((byteAt s i : Int) = 95)) (ev_t rfl rfl) ev_c rfl (wy rfl rfl rfl rfl) ?_
                  refine s_pick1 (v := .bool (!decide ((byteAt s i : Int) = 95))) (ev_t rfl rfl) (ev_t rfl rfl) (w0 rfl) ?_
                  refine c_done (n_then ?_)
                  by_cases h21 : (byteAt s i : Int) = 95
                  · refine c_cond0 (vb (ev_t rfl rfl) (nb0 h21)) ?_
                    refine c_skip (n_block (n_then (c_reg ?_)))
                    refine s_add (r := ((i + 1 : Nat) : Int)) (ev_t rfl e16) ev_c (by omega) (by omega) (w0 rfl) ?_
                    refine s_move (v := .int .i64 ((i + 1 : Nat) : Int)) (ev_t rfl rfl) (w0 rfl) ?_
                    refine c_done ?_
                    exact ⟨(i + 1), _, rfl, ⟨x11, (step_all0 i13 (by simp [letterB]; omega)), e14, e15, rfl⟩, (show s.size - (i + 1) < s.size - i by omega)⟩
                  · refine c_cond1 (vb (ev_t rfl rfl) (nb1 h21)) ?_
                    refine c_seq (c_reg ?_)
                    refine s_assign (v := .bool false) ev_c (w0 rfl) ?_
                    refine c_done (n_then (c_ret (r_block (r_then (r_then (r_block (r_then ?_)))))))
                    refine ret1 (v := .bool false) rfl rfl rfl ?_
                    refine ⟨_, rfl, ?_, (Ext.trans x9 x11)⟩
                    (refine congrArg Value.bool (Eq.symm (wordB_no i (by omega) (by simp [letterB]; omega))))
                · refine s_move (v := .bool false) (vb (ev_t rfl rfl) (decide_eq_false h20)) (wy rfl rfl rfl rfl) ?_
                  refine s_move (v := .int .u8 (byteAt s i : Int)) (ev_t rfl rfl) (wy rfl rfl rfl rfl) ?_
                  refine s_cmp (r := decide (57 < (byteAt s i : Int))) (ev_t rfl rfl) ev_c rfl (wy rfl rfl rfl rfl) ?_
                  refine s_pick0 (v := .bool (decide (57 < (byteAt s i : Int)))) (ev_t rfl rfl) (ev_t rfl rfl) (wy rfl rfl rfl rfl) ?_
                  refine s_pick1 (v := .bool (decide (57 < (byteAt s i : Int)))) (ev_t rfl rfl) (ev_t rfl rfl) (w0 rfl) ?_
                  by_cases h22 : 57 < (byteAt s i : Int)
                  · refine s_move (v := .bool true) (vb (ev_t rfl rfl) (decide_eq_true h22)) (w0 rfl) ?_
                    refine s_move (v := .int .u8 (byteAt s i : Int)) (ev_t rfl rfl) (wy rfl rfl rfl rfl) ?_
                    refine s_cmp (r := !decide ((byteAt s i : Int) = 95)) (ev_t rfl rfl) ev_c rfl (wy rfl rfl rfl rfl) ?_
                    refine s_pick1 (v := .bool (!decide ((byteAt s i : Int) = 95))) (ev_t rfl rfl) (ev_t rfl rfl) (w0 rfl) ?_
                    refine c_done (n_then ?_)
                    by_cases h23 : (byteAt s i : Int) = 95
                    · refine c_cond0 (vb (ev_t rfl rfl) (nb0 h23)) ?_
                      refine c_skip (n_block (n_then (c_reg ?_)))
                      refine s_add (r := ((i + 1 : Nat) : Int)) (ev_t rfl e16) ev_c (by omega) (by omega) (w0 rfl) ?_
                      refine s_move (v := .int .i64 ((i + 1 : Nat) : Int)) (ev_t rfl rfl) (w0 rfl) ?_
                      refine c_done ?_
                      exact ⟨(i + 1), _, rfl, ⟨x11, (step_all0 i13 (by simp [letterB]; omega)), e14, e15, rfl⟩, (show s.size - (i + 1) < s.size - i by omega)⟩
                    · refine c_cond1 (vb (ev_t rfl rfl) (nb1 h23)) ?_
                      refine c_seq (c_reg ?_)
                      refine s_assign (v := .bool false) ev_c (w0 rfl) ?_
                      refine c_done (n_then (c_ret (r_block (r_then (r_then (r_block (r_then ?_)))))))
                      refine ret1 (v := .bool false) rfl rfl rfl ?_
                      refine ⟨_, rfl, ?_, (Ext.trans x9 x11)⟩
                      (refine congrArg Value.bool (Eq.symm (wordB_no i (by omega) (by simp [letterB]; omega))))
                  · refine s_move (v := .bool false) (vb (ev_t rfl rfl) (decide_eq_false h22)) (w0 rfl) ?_
                    refine s_skip (wn rfl rfl rfl rfl rfl) ?_
                    refine s_skip (wn rfl rfl rfl rfl rfl) ?_
                    refine s_pick0 (v := .bool false) (ev_t rfl rfl) ev_c (w0 rfl) ?_
                    refine c_done (n_then ?_)
                    refine c_cond0 (ev_t rfl rfl) ?_
                    refine c_skip (n_block (n_then (c_reg ?_)))
                    refine s_add (r := ((i + 1 : Nat) : Int)) (ev_t rfl e16) ev_c (by omega) (by omega) (w0 rfl) ?_
                    refine s_move (v := .int .i64 ((i + 1 : Nat) : Int)) (ev_t rfl rfl) (w0 rfl) ?_
                    refine c_done ?_
                    exact ⟨(i + 1), _, rfl, ⟨x11, (step_all0 i13 (by simp [letterB]; omega)), e14, e15, rfl⟩, (show s.size - (i + 1) < s.size - i by omega)⟩
              · refine s_move (v := .bool false) (vb (ev_t rfl rfl) (decide_eq_false h19)) (wy rfl rfl rfl rfl) ?_
                refine s_move (v := .int .u8 (byteAt s i : Int)) (ev_t rfl rfl) (wy rfl rfl rfl rfl) ?_
                refine s_cmp (r := decide (90 < (byteAt s i : Int))) (ev_t rfl rfl) ev_c rfl (wy rfl rfl rfl rfl) ?_
                refine s_pick0 (v := .bool (decide (90 < (byteAt s i : Int)))) (ev_t rfl rfl) (ev_t rfl rfl) (wy rfl rfl rfl rfl) ?_
                refine s_pick1 (v := .bool (decide (90 < (byteAt s i : Int)))) (ev_t rfl rfl) (ev_t rfl rfl) (w0 rfl) ?_
                by_cases h24 : 90 < (byteAt s i : Int)
                · refine s_move (v := .bool true) (vb (ev_t rfl rfl) (decide_eq_true h24)) (w0 rfl) ?_
                  refine s_move (v := .int .u8 (byteAt s i : Int)) (ev_t rfl rfl) (wy rfl rfl rfl rfl) ?_
                  refine s_cmp (r := decide ((byteAt s i : Int) < 48)) (ev_t rfl rfl) ev_c rfl (wy rfl rfl rfl rfl) ?_
                  by_cases h25 : (byteAt s i : Int) < 48
                  · refine s_move (v := .bool true) (vb (ev_t rfl rfl) (decide_eq_true h25)) (wy rfl rfl rfl rfl) ?_
                    refine s_skip (wn rfl rfl rfl rfl rfl) ?_
                    refine s_skip (wn rfl rfl rfl rfl rfl) ?_
                    refine s_pick1 (v := .bool true) (ev_t rfl rfl) ev_c (wy rfl rfl rfl rfl) ?_
                    refine s_pick1 (v := .bool true) (ev_t rfl rfl) (ev_t rfl rfl) (w0 rfl) ?_
                    refine s_move (v := .bool true) (ev_t rfl rfl) (w0 rfl) ?_
                    refine s_move (v := .int .u8 (byteAt s i : Int)) (ev_t rfl rfl) (wy rfl rfl rfl rfl) ?_
                    refine s_cmp (r := !decide ((byteAt s i : Int) = 95)) (ev_t rfl rfl) ev_c rfl (wy rfl rfl rfl rfl) ?_
                    refine s_pick1 (v := .bool (!decide ((byteAt s i : Int) = 95))) (ev_t rfl rfl) (ev_t rfl rfl) (w0 rfl) ?_
                    refine c_done (n_then ?_)
                    by_cases h26 : (byteAt s i : Int) = 95
                    · refine c_cond0 (vb (ev_t rfl rfl) (nb0 h26)) ?_
                      refine c_skip (n_block (n_then (c_reg ?_)))
                      refine s_add (r := ((i + 1 : Nat) : Int)) (ev_t rfl e16) ev_c (by omega) (by omega) (w0 rfl) ?_
                      refine s_move (v := .int .i64 ((i + 1 : Nat) : Int)) (ev_t rfl rfl) (w0 rfl) ?_
                      refine c_done ?_
                      exact ⟨(i + 1), _, rfl, ⟨x11, (step_all0 i13 (by simp [letterB]; omega)), e14, e15, rfl⟩, (show s.size - (i + 1) < s.size - i by omega)⟩
                    · refine c_cond1 (vb (ev_t rfl rfl) (nb1 h26)) ?_
                      refine c_seq (c_reg ?_)
                      refine s_assign (v := .bool false) ev_c (w0 rfl) ?_
                      refine c_done (n_then (c_ret (r_block (r_then (r_then (r_block (r_then ?_)))))))
                      refine ret1 (v := .bool false) rfl rfl rfl ?_
                      refine ⟨_, rfl, ?_, (Ext.trans x9 x11)⟩
                      (refine congrArg Value.bool (Eq.symm (wordB_no i (by omega) (by simp [letterB]; omega))))
                  · refine s_move (v := .bool false) (vb (ev_t rfl rfl) (decide_eq_false h25)) (wy rfl rfl rfl rfl) ?_
                    refine s_move (v := .int .u8 (byteAt s i : Int)) (ev_t rfl rfl) (wy rfl rfl rfl rfl) ?_
                    refine s_cmp (r := decide (57 < (byteAt s i : Int))) (ev_t rfl rfl) ev_c rfl (wy rfl rfl rfl rfl) ?_
                    refine s_pick0 (v := .bool (decide (57 < (byteAt s i : Int)))) (ev_t rfl rfl) (ev_t rfl rfl) (wy rfl rfl rfl rfl) ?_
                    refine s_pick1 (v := .bool (decide (57 < (byteAt s i : Int)))) (ev_t rfl rfl) (ev_t rfl rfl) (w0 rfl) ?_
                    by_cases h27 : 57 < (byteAt s i : Int)
                    · refine s_move (v := .bool true) (vb (ev_t rfl rfl) (decide_eq_true h27)) (w0 rfl) ?_
                      refine s_move (v := .int .u8 (byteAt s i : Int)) (ev_t rfl rfl) (wy rfl rfl rfl rfl) ?_
                      refine s_cmp (r := !decide ((byteAt s i : Int) = 95)) (ev_t rfl rfl) ev_c rfl (wy rfl rfl rfl rfl) ?_
                      refine s_pick1 (v := .bool (!decide ((byteAt s i : Int) = 95))) (ev_t rfl rfl) (ev_t rfl rfl) (w0 rfl) ?_
                      refine c_done (n_then ?_)
                      by_cases h28 : (byteAt s i : Int) = 95
                      · refine c_cond0 (vb (ev_t rfl rfl) (nb0 h28)) ?_
                        refine c_skip (n_block (n_then (c_reg ?_)))
                        refine s_add (r := ((i + 1 : Nat) : Int)) (ev_t rfl e16) ev_c (by omega) (by omega) (w0 rfl) ?_
                        refine s_move (v := .int .i64 ((i + 1 : Nat) : Int)) (ev_t rfl rfl) (w0 rfl) ?_
                        refine c_done ?_
                        exact ⟨(i + 1), _, rfl, ⟨x11, (step_all0 i13 (by simp [letterB]; omega)), e14, e15, rfl⟩, (show s.size - (i + 1) < s.size - i by omega)⟩
                      · refine c_cond1 (vb (ev_t rfl rfl) (nb1 h28)) ?_
                        refine c_seq (c_reg ?_)
                        refine s_assign (v := .bool false) ev_c (w0 rfl) ?_
                        refine c_done (n_then (c_ret (r_block (r_then (r_then (r_block (r_then ?_)))))))
                        refine ret1 (v := .bool false) rfl rfl rfl ?_
                        refine ⟨_, rfl, ?_, (Ext.trans x9 x11)⟩
                        (refine congrArg Value.bool (Eq.symm (wordB_no i (by omega) (by simp [letterB]; omega))))
                    · refine s_move (v := .bool false) (vb (ev_t rfl rfl) (decide_eq_false h27)) (w0 rfl) ?_
                      refine s_skip (wn rfl rfl rfl rfl rfl) ?_
                      refine s_skip (wn rfl rfl rfl rfl rfl) ?_
                      refine s_pick0 (v := .bool false) (ev_t rfl rfl) ev_c (w0 rfl) ?_
                      refine c_done (n_then ?_)
                      refine c_cond0 (ev_t rfl rfl) ?_
                      refine c_skip (n_block (n_then (c_reg ?_)))
                      refine s_add (r := ((i + 1 : Nat) : Int)) (ev_t rfl e16) ev_c (by omega) (by omega) (w0 rfl) ?_
                      refine s_move (v := .int .i64 ((i + 1 : Nat) : Int)) (ev_t rfl rfl) (w0 rfl) ?_
                      refine c_done ?_
                      exact ⟨(i + 1), _, rfl, ⟨x11, (step_all0 i13 (by simp [letterB]; omega)), e14, e15, rfl⟩, (show s.size - (i + 1) < s.size - i by omega)⟩
                · refine s_move (v := .bool false) (vb (ev_t rfl rfl) (decide_eq_false h24)) (w0 rfl) ?_
                  refine s_skip (wn rfl rfl rfl rfl rfl) ?_
                  refine s_skip (wn rfl rfl rfl rfl rfl) ?_
                  refine s_skip (wn rfl rfl rfl rfl rfl) ?_
                  refine s_skip (wu rfl rfl rfl rfl) ?_
                  refine s_skip (wu rfl rfl rfl rfl) ?_
                  refine s_skip (wn rfl rfl rfl rfl rfl) ?_
                  refine s_pick0 (v := .bool false) (ev_t rfl rfl) ev_c (w0 rfl) ?_
                  refine s_move (v := .bool false) (ev_t rfl rfl) (w0 rfl) ?_
                  refine s_skip (wn rfl rfl rfl rfl rfl) ?_
                  refine s_skip (wn rfl rfl rfl rfl rfl) ?_
                  refine s_pick0 (v := .bool false) (ev_t rfl rfl) ev_c (w0 rfl) ?_
                  refine c_done (n_then ?_)
                  refine c_cond0 (ev_t rfl rfl) ?_
                  refine c_skip (n_block (n_then (c_reg ?_)))
                  refine s_add (r := ((i + 1 : Nat) : Int)) (ev_t rfl e16) ev_c (by omega) (by omega) (w0 rfl) ?_
                  refine s_move (v := .int .i64 ((i + 1 : Nat) : Int)) (ev_t rfl rfl) (w0 rfl) ?_
                  refine c_done ?_
                  exact ⟨(i + 1), _, rfl, ⟨x11, (step_all0 i13 (by simp [letterB]; omega)), e14, e15, rfl⟩, (show s.size - (i + 1) < s.size - i by omega)⟩
            · refine s_move (v := .bool false) (vb (ev_t rfl rfl) (decide_eq_false h18)) (w0 rfl) ?_
              refine s_move (v := .int .u8 (byteAt s i : Int)) (ev_t rfl rfl) (wy rfl rfl rfl rfl) ?_
              refine s_cmp (r := decide (122 < (byteAt s i : Int))) (ev_t rfl rfl) ev_c rfl (wy rfl rfl rfl rfl) ?_
              refine s_pick0 (v := .bool (decide (122 < (byteAt s i : Int)))) (ev_t rfl rfl) (ev_t rfl rfl) (w0 rfl) ?_
              by_cases h29 : 122 < (byteAt s i : Int)
              · refine s_move (v := .bool true) (vb (ev_t rfl rfl) (decide_eq_true h29)) (w0 rfl) ?_
                refine s_move (v := .int .u8 (byteAt s i : Int)) (ev_t rfl rfl) (wy rfl rfl rfl rfl) ?_
                refine s_cmp (r := decide ((byteAt s i : Int) < 65)) (ev_t rfl rfl) ev_c rfl (wy rfl rfl rfl rfl) ?_
                by_cases h30 : (byteAt s i : Int) < 65
                · refine s_move (v := .bool true) (vb (ev_t rfl rfl) (decide_eq_true h30)) (wy rfl rfl rfl rfl) ?_
                  refine s_skip (wn rfl rfl rfl rfl rfl) ?_
                  refine s_skip (wn rfl rfl rfl rfl rfl) ?_
                  refine s_pick1 (v := .bool true) (ev_t rfl rfl) ev_c (wy rfl rfl rfl rfl) ?_
                  refine s_pick1 (v := .bool true) (ev_t rfl rfl) (ev_t rfl rfl) (w0 rfl) ?_
                  refine s_move (v := .bool true) (ev_t rfl rfl) (w0 rfl) ?_
                  refine s_move (v := .int .u8 (byteAt s i : Int)) (ev_t rfl rfl) (wy rfl rfl rfl rfl) ?_
                  refine s_cmp (r := decide ((byteAt s i : Int) < 48)) (ev_t rfl rfl) ev_c rfl (wy rfl rfl rfl rfl) ?_
                  by_cases h31 : (byteAt s i : Int) < 48
                  · refine s_move (v := .bool true) (vb (ev_t rfl rfl) (decide_eq_true h31)) (wy rfl rfl rfl rfl) ?_
                    refine s_skip (wn rfl rfl rfl rfl rfl) ?_
                    refine s_skip (wn rfl rfl rfl rfl rfl) ?_
                    refine s_pick1 (v := .bool true) (ev_t rfl rfl) ev_c (wy rfl rfl rfl rfl) ?_
                    refine s_pick1 (v := .bool true) (ev_t rfl rfl) (ev_t rfl rfl) (w0 rfl) ?_
                    refine s_move (v := .bool true) (ev_t rfl rfl) (w0 rfl) ?_
                    refine s_move (v := .int .u8 (byteAt s i : Int)) (ev_t rfl rfl) (wy rfl rfl rfl rfl) ?_
                    refine s_cmp (r := !decide ((byteAt s i : Int) = 95)) (ev_t rfl rfl) ev_c rfl (wy rfl rfl rfl rfl) ?_
                    refine s_pick1 (v := .bool (!decide ((byteAt s i : Int) = 95))) (ev_t rfl rfl) (ev_t rfl rfl) (w0 rfl) ?_
                    refine c_done (n_then ?_)
                    by_cases h32 : (byteAt s i : Int) = 95
                    · refine c_cond0 (vb (ev_t rfl rfl) (nb0 h32)) ?_
                      refine c_skip (n_block (n_then (c_reg ?_)))
                      refine s_add (r := ((i + 1 : Nat) : Int)) (ev_t rfl e16) ev_c (by omega) (by omega) (w0 rfl) ?_
                      refine s_move (v := .int .i64 ((i + 1 : Nat) : Int)) (ev_t rfl rfl) (w0 rfl) ?_
                      refine c_done ?_
                      exact ⟨(i + 1), _, rfl, ⟨x11, (step_all0 i13 (by simp [letterB]; omega)), e14, e15, rfl⟩, (show s.size - (i + 1) < s.size - i by omega)⟩
                    · refine c_cond1 (vb (ev_t rfl rfl) (nb1 h32)) ?_
                      refine c_seq (c_reg ?_)
                      refine s_assign (v := .bool false) ev_c (w0 rfl) ?_
                      refine c_done (n_then (c_ret (r_block (r_then (r_then (r_block (r_then ?_)))))))
                      refine ret1 (v := .bool false) rfl rfl rfl ?_
                      refine ⟨_, rfl, ?_, (Ext.trans x9 x11)⟩
                      (refine congrArg Value.bool (Eq.symm (wordB_no i (by omega) (by simp [letterB]; omega))))
                  · refine s_move (v := .bool false) (vb (ev_t rfl rfl) (decide_eq_false h31)) (wy rfl rfl rfl rfl) ?_
                    refine s_move (v := .int .u8 (byteAt s i : Int)) (ev_t rfl rfl) (wy rfl rfl rfl rfl) ?_
                    refine s_cmp (r := decide (57 < (byteAt s i : Int))) (ev_t rfl rfl) ev_c rfl (wy rfl rfl rfl rfl) ?_
                    refine s_pick0 (v := .bool (decide (57 < (byteAt s i : Int)))) (ev_t rfl rfl) (ev_t rfl rfl) (wy rfl rfl rfl rfl) ?_
                    refine s_pick1 (v := .bool (decide (57 < (byteAt s i : Int)))) (ev_t rfl rfl) (ev_t rfl rfl) (w0 rfl) ?_
                    by_cases h33 : 57 < (byteAt s i : Int)
                    · refine s_move (v := .bool true) (vb (ev_t rfl rfl) (decide_eq_true h33)) (w0 rfl) ?_
                      refine s_move (v := .int .u8 (byteAt s i : Int)) (ev_t rfl rfl) (wy rfl rfl rfl rfl) ?_
                      refine s_cmp (r := !decide ((byteAt s i : Int) = 95)) (ev_t rfl rfl) ev_c rfl (wy rfl rfl rfl rfl) ?_
                      refine s_pick1 (v := .bool (!decide ((byteAt s i : Int) = 95))) (ev_t rfl rfl) (ev_t rfl rfl) (w0 rfl) ?_
                      refine c_done (n_then ?_)
                      by_cases h34 : (byteAt s i : Int) = 95
                      · refine c_cond0 (vb (ev_t rfl rfl) (nb0 h34)) ?_
                        refine c_skip (n_block (n_then (c_reg ?_)))
                        refine s_add (r := ((i + 1 : Nat) : Int)) (ev_t rfl e16) ev_c (by omega) (by omega) (w0 rfl) ?_
                        refine s_move (v := .int .i64 ((i + 1 : Nat) : Int)) (ev_t rfl rfl) (w0 rfl) ?_
                        refine c_done ?_
                        exact ⟨(i + 1), _, rfl, ⟨x11, (step_all0 i13 (by simp [letterB]; omega)), e14, e15, rfl⟩, (show s.size - (i + 1) < s.size - i by omega)⟩
                      · refine c_cond1 (vb (ev_t rfl rfl) (nb1 h34)) ?_
                        refine c_seq (c_reg ?_)
                        refine s_assign (v := .bool false) ev_c (w0 rfl) ?_
                        refine c_done (n_then (c_ret (r_block (r_then (r_then (r_block (r_then ?_)))))))
                        refine ret1 (v := .bool false) rfl rfl rfl ?_
                        refine ⟨_, rfl, ?_, (Ext.trans x9 x11)⟩
                        (refine congrArg Value.bool (Eq.symm (wordB_no i (by omega) (by simp [letterB]; omega))))
                    · refine s_move (v := .bool false) (vb (ev_t rfl rfl) (decide_eq_false h33)) (w0 rfl) ?_
                      refine s_skip (wn rfl rfl rfl rfl rfl) ?_
                      refine s_skip (wn rfl rfl rfl rfl rfl) ?_
                      refine s_pick0 (v := .bool false) (ev_t rfl rfl) ev_c (w0 rfl) ?_
                      refine c_done (n_then ?_)
                      refine c_cond0 (ev_t rfl rfl) ?_
                      refine c_skip (n_block (n_then (c_reg ?_)))
                      refine s_add (r := ((i + 1 : Nat) : Int)) (ev_t rfl e16) ev_c (by omega) (by omega) (w0 rfl) ?_
                      refine s_move (v := .int .i64 ((i + 1 : Nat) : Int)) (ev_t rfl rfl) (w0 rfl) ?_
                      refine c_done ?_
                      exact ⟨(i + 1), _, rfl, ⟨x11, (step_all0 i13 (by simp [letterB]; omega)), e14, e15, rfl⟩, (show s.size - (i + 1) < s.size - i by omega)⟩
                · refine s_move (v := .bool false) (vb (ev_t rfl rfl) (decide_eq_false h30)) (wy rfl rfl rfl rfl) ?_
                  refine s_move (v := .int .u8 (byteAt s i : Int)) (ev_t rfl rfl) (wy rfl rfl rfl rfl) ?_
                  refine s_cmp (r := decide (90 < (byteAt s i : Int))) (ev_t rfl rfl) ev_c rfl (wy rfl rfl rfl rfl) ?_
                  refine s_pick0 (v := .bool (decide (90 < (byteAt s i : Int)))) (ev_t rfl rfl) (ev_t rfl rfl) (wy rfl rfl rfl rfl) ?_
                  refine s_pick1 (v := .bool (decide (90 < (byteAt s i : Int)))) (ev_t rfl rfl) (ev_t rfl rfl) (w0 rfl) ?_
                  by_cases h35 : 90 < (byteAt s i : Int)
                  · refine s_move (v := .bool true) (vb (ev_t rfl rfl) (decide_eq_true h35)) (w0 rfl) ?_
                    refine s_move (v := .int .u8 (byteAt s i : Int)) (ev_t rfl rfl) (wy rfl rfl rfl rfl) ?_
                    refine s_cmp (r := decide ((byteAt s i : Int) < 48)) (ev_t rfl rfl) ev_c rfl (wy rfl rfl rfl rfl) ?_
                    by_cases h36 : (byteAt s i : Int) < 48
                    · refine s_move (v := .bool true) (vb (ev_t rfl rfl) (decide_eq_true h36)) (wy rfl rfl rfl rfl) ?_
                      refine s_skip (wn rfl rfl rfl rfl rfl) ?_
                      refine s_skip (wn rfl rfl rfl rfl rfl) ?_
                      refine s_pick1 (v := .bool true) (ev_t rfl rfl) ev_c (wy rfl rfl rfl rfl) ?_
                      refine s_pick1 (v := .bool true) (ev_t rfl rfl) (ev_t rfl rfl) (w0 rfl) ?_
                      refine s_move (v := .bool true) (ev_t rfl rfl) (w0 rfl) ?_
                      refine s_move (v := .int .u8 (byteAt s i : Int)) (ev_t rfl rfl) (wy rfl rfl rfl rfl) ?_
                      refine s_cmp (r := !decide ((byteAt s i : Int) = 95)) (ev_t rfl rfl) ev_c rfl (wy rfl rfl rfl rfl) ?_
                      refine s_pick1 (v := .bool (!decide ((byteAt s i : Int) = 95))) (ev_t rfl rfl) (ev_t rfl rfl) (w0 rfl) ?_
                      refine c_done (n_then ?_)
                      by_cases h37 : (byteAt s i : Int) = 95
                      · refine c_cond0 (vb (ev_t rfl rfl) (nb0 h37)) ?_
                        refine c_skip (n_block (n_then (c_reg ?_)))
                        refine s_add (r := ((i + 1 : Nat) : Int)) (ev_t rfl e16) ev_c (by omega) (by omega) (w0 rfl) ?_
                        refine s_move (v := .int .i64 ((i + 1 : Nat) : Int)) (ev_t rfl rfl) (w0 rfl) ?_
                        refine c_done ?_
                        exact ⟨(i + 1), _, rfl, ⟨x11, (step_all0 i13 (by simp [letterB]; omega)), e14, e15, rfl⟩, (show s.size - (i + 1) < s.size - i by omega)⟩
                      · refine c_cond1 (vb (ev_t rfl rfl) (nb1 h37)) ?_
                        refine c_seq (c_reg ?_)
                        refine s_assign (v := .bool false) ev_c (w0 rfl) ?_
                        refine c_done (n_then (c_ret (r_block (r_then (r_then (r_block (r_then ?_)))))))
                        refine ret1 (v := .bool false) rfl rfl rfl ?_
                        refine ⟨_, rfl, ?_, (Ext.trans x9 x11)⟩
                        (refine congrArg Value.bool (Eq.symm (wordB_no i (by omega) (by simp [letterB]; omega))))
                    · refine s_move (v := .bool false) (vb (ev_t rfl rfl) (decide_eq_false h36)) (wy rfl rfl rfl rfl) ?_
                      refine s_move (v := .int .u8 (byteAt s i : Int)) (ev_t rfl rfl) (wy rfl rfl rfl rfl) ?_
                      refine s_cmp (r := decide (57 < (byteAt s i : Int))) (ev_t rfl rfl) ev_c rfl (wy rfl rfl rfl rfl) ?_
                      refine s_pick0 (v := .bool (decide (57 < (byteAt s i : Int)))) (ev_t rfl rfl) (ev_t rfl rfl) (wy rfl rfl rfl rfl) ?_
                      refine s_pick1 (v := .bool (decide (57 < (byteAt s i : Int)))) (ev_t rfl rfl) (ev_t rfl rfl) (w0 rfl) ?_
                      by_cases h38 : 57 < (byteAt s i : Int)
                      · refine s_move (v := .bool true) (vb (ev_t rfl rfl) (decide_eq_true h38)) (w0 rfl) ?_
                        refine s_move (v := .int .u8 (byteAt s i : Int)) (ev_t rfl rfl) (wy rfl rfl rfl rfl) ?_
                        refine s_cmp (r := !decide ((byteAt s i : Int) = 95)) (ev_t rfl rfl) ev_c rfl (wy rfl rfl rfl rfl) ?_
                        refine s_pick1 (v := .bool (!decide ((byteAt s i : Int) = 95))) (ev_t rfl rfl) (ev_t rfl rfl) (w0 rfl) ?_
                        refine c_done (n_then ?_)
                        by_cases h39 : (byteAt s i : Int) = 95
                        · refine c_cond0 (vb (ev_t rfl rfl) (nb0 h39)) ?_
                          refine c_skip (n_block (n_then (c_reg ?_)))
                          refine s_add (r := ((i + 1 : Nat) : Int)) (ev_t rfl e16) ev_c (by omega) (by omega) (w0 rfl) ?_
                          refine s_move (v := .int .i64 ((i + 1 : Nat) : Int)) (ev_t rfl rfl) (w0 rfl) ?_
                          refine c_done ?_
                          exact ⟨(i + 1), _, rfl, ⟨x11, (step_all0 i13 (by simp [letterB]; omega)), e14, e15, rfl⟩, (show s.size - (i + 1) < s.size - i by omega)⟩
                        · refine c_cond1 (vb (ev_t rfl rfl) (nb1 h39)) ?_
                          refine c_seq (c_reg ?_)
                          refine s_assign (v := .bool false) ev_c (w0 rfl) ?_
                          refine c_done (n_then (c_ret (r_block (r_then (r_then (r_block (r_then ?_)))))))
                          refine ret1 (v := .bool false) rfl rfl rfl ?_
                          refine ⟨_, rfl, ?_, (Ext.trans x9 x11)⟩
                          (refine congrArg Value.bool (Eq.symm (wordB_no i (by omega) (by simp [letterB]; omega))))
                      · refine s_move (v := .bool false) (vb (ev_t rfl rfl) (decide_eq_false h38)) (w0 rfl) ?_
                        refine s_skip (wn rfl rfl rfl rfl rfl) ?_
                        refine s_skip (wn rfl rfl rfl rfl rfl) ?_
                        refine s_pick0 (v := .bool false) (ev_t rfl rfl) ev_c (w0 rfl) ?_
                        refine c_done (n_then ?_)
                        refine c_cond0 (ev_t rfl rfl) ?_
                        refine c_skip (n_block (n_then (c_reg ?_)))
                        refine s_add (r := ((i + 1 : Nat) : Int)) (ev_t rfl e16) ev_c (by omega) (by omega) (w0 rfl) ?_
                        refine s_move (v := .int .i64 ((i + 1 : Nat) : Int)) (ev_t rfl rfl) (w0 rfl) ?_
                        refine c_done ?_
                        exact ⟨(i + 1), _, rfl, ⟨x11, (step_all0 i13 (by simp [letterB]; omega)), e14, e15, rfl⟩, (show s.size - (i + 1) < s.size - i by omega)⟩
                  · refine s_move (v := .bool false) (vb (ev_t rfl rfl) (decide_eq_false h35)) (w0 rfl) ?_
                    refine s_skip (wn rfl rfl rfl rfl rfl) ?_
                    refine s_skip (wn rfl rfl rfl rfl rfl) ?_
                    refine s_skip (wn rfl rfl rfl rfl rfl) ?_
                    refine s_skip (wu rfl rfl rfl rfl) ?_
                    refine s_skip (wu rfl rfl rfl rfl) ?_
                    refine s_skip (wn rfl rfl rfl rfl rfl) ?_
                    refine s_pick0 (v := .bool false) (ev_t rfl rfl) ev_c (w0 rfl) ?_
                    refine s_move (v := .bool false) (ev_t rfl rfl) (w0 rfl) ?_
                    refine s_skip (wn rfl rfl rfl rfl rfl) ?_
                    refine s_skip (wn rfl rfl rfl rfl rfl) ?_
                    refine s_pick0 (v := .bool false) (ev_t rfl rfl) ev_c (w0 rfl) ?_
                    refine c_done (n_then ?_)
                    refine c_cond0 (ev_t rfl rfl) ?_
                    refine c_skip (n_block (n_then (c_reg ?_)))
                    refine s_add (r := ((i + 1 : Nat) : Int)) (ev_t rfl e16) ev_c (by omega) (by omega) (w0 rfl) ?_
                    refine s_move (v := .int .i64 ((i + 1 : Nat) : Int)) (ev_t rfl rfl) (w0 rfl) ?_
                    refine c_done ?_
                    exact ⟨(i + 1), _, rfl, ⟨x11, (step_all0 i13 (by simp [letterB]; omega)), e14, e15, rfl⟩, (show s.size - (i + 1) < s.size - i by omega)⟩
              · refine s_move (v := .bool false) (vb (ev_t rfl rfl) (decide_eq_false h29)) (w0 rfl) ?_
                refine s_skip (wn rfl rfl rfl rfl rfl) ?_
                refine s_skip (wn rfl rfl rfl rfl rfl) ?_
                refine s_skip (wn rfl rfl rfl rfl rfl) ?_
                refine s_skip (wu rfl rfl rfl rfl) ?_
                refine s_skip (wu rfl rfl rfl rfl) ?_
                refine s_skip (wn rfl rfl rfl rfl rfl) ?_
                refine s_pick0 (v := .bool false) (ev_t rfl rfl) ev_c (w0 rfl) ?_
                refine s_move (v := .bool false) (ev_t rfl rfl) (w0 rfl) ?_
                refine s_skip (wn rfl rfl rfl rfl rfl) ?_
                refine s_skip (wn rfl rfl rfl rfl rfl) ?_
                refine s_skip (wn rfl rfl rfl rfl rfl) ?_
                refine s_skip (wu rfl rfl rfl rfl) ?_
                refine s_skip (wu rfl rfl rfl rfl) ?_
                refine s_skip (wn rfl rfl rfl rfl rfl) ?_
                refine s_pick0 (v := .bool false) (ev_t rfl rfl) ev_c (w0 rfl) ?_
                refine s_move (v := .bool false) (ev_t rfl rfl) (w0 rfl) ?_
                refine s_skip (wn rfl rfl rfl rfl rfl) ?_
                refine s_skip (wn rfl rfl rfl rfl rfl) ?_
                refine s_pick0 (v := .bool false) (ev_t rfl rfl) ev_c (w0 rfl) ?_
                refine c_done (n_then ?_)
                refine c_cond0 (ev_t rfl rfl) ?_
                refine c_skip (n_block (n_then (c_reg ?_)))
                refine s_add (r := ((i + 1 : Nat) : Int)) (ev_t rfl e16) ev_c (by omega) (by omega) (w0 rfl) ?_
                refine s_move (v := .int .i64 ((i + 1 : Nat) : Int)) (ev_t rfl rfl) (w0 rfl) ?_
                refine c_done ?_
                exact ⟨(i + 1), _, rfl, ⟨x11, (step_all0 i13 (by simp [letterB]; omega)), e14, e15, rfl⟩, (show s.size - (i + 1) < s.size - i by omega)⟩
          · refine c_cond0 (vb (ev_t rfl rfl) (decide_eq_false h17)) ?_
            refine c_exit (e_then (e_then (e_hit (n_then (c_seq (c_reg ?_))))))
            refine s_assign (v := .bool true) ev_c (w0 rfl) ?_
            refine c_done (n_then (c_ret ?_))
            refine ret1 (v := .bool true) rfl rfl rfl ?_
            refine ⟨_, rfl, ?_, (Ext.trans x9 x11)⟩
            (refine congrArg Value.bool (Eq.symm (wordB_yes0 (by omega) (by omega) (by omega) (by omega) (by assumption) i13)))
set_option maxHeartbeats 4000000 in
theorem v_name (s : ByteArray) (w : World) (hs : s.size ≤ 140737488351232) :
    Rt Tryz.prog 130 #[.string s] w fun v w' => v = .bool (nameB s) ∧ Ext w w' := by
  refine enter Tryz.func130 rfl (l := [.string s]) rfl Tryz.ntmps130 (Nat.le_of_ble_eq_true rfl) ?_
  refine c_seq (c_reg ?_)
  refine s_assign (v := .bool false) ev_c (w0 rfl) ?_
  refine c_done (n_then (c_seq (c_seq (c_reg ?_))))
  refine s_move (v := .string s) (ev_t rfl rfl) (w0 rfl) ?_
  refine s_lenS F_us9 (ev_t rfl rfl) (w0 rfl) ?_
  refine s_cmp (r := decide ((s.size : Int) = 0)) (ev_t rfl rfl) ev_c rfl (w0 rfl) ?_
  by_cases h1 : (s.size : Int) = 0
  · refine s_move (v := .bool true) (vb (ev_t rfl rfl) (decide_eq_true h1)) (w0 rfl) ?_
    refine s_skip (wn rfl rfl rfl rfl rfl) ?_
    refine s_skip (wn rfl rfl rfl rfl rfl) ?_
    refine s_skip (wn rfl rfl rfl rfl rfl) ?_
    refine s_pick1 (v := .bool true) (ev_t rfl rfl) ev_c (w0 rfl) ?_
    refine s_move (v := .bool true) (ev_t rfl rfl) (w0 rfl) ?_
    refine s_skip (wn rfl rfl rfl rfl rfl) ?_
    refine s_skip (wn rfl rfl rfl rfl rfl) ?_
    refine s_skip (wn rfl rfl rfl rfl rfl) ?_
    refine s_pick1 (v := .bool true) (ev_t rfl rfl) ev_c (w0 rfl) ?_
    refine s_move (v := .bool true) (ev_t rfl rfl) (w0 rfl) ?_
    refine s_skip (wn rfl rfl rfl rfl rfl) ?_
    refine s_skip (wn rfl rfl rfl rfl rfl) ?_
    refine s_skip (wn rfl rfl rfl rfl rfl) ?_
    refine s_pick1 (v := .bool true) (ev_t rfl rfl) ev_c (w0 rfl) ?_
    refine c_done (n_then ?_)
    refine c_cond1 (ev_t rfl rfl) ?_
    refine c_seq (c_reg ?_)
    refine s_assign (v := .bool false) ev_c (w0 rfl) ?_
    refine c_done (n_then (c_ret (r_then ?_)))
    refine ret1 (v := .bool false) rfl rfl rfl ?_
    refine ⟨_, rfl, ?_, (Ext.refl w)⟩
    (refine congrArg Value.bool (Eq.symm ?_); simp only [nameB, wordB, Bool.and_eq_false_iff, decide_eq_false_iff_not]; left; omega)
  · refine s_move (v := .bool false) (vb (ev_t rfl rfl) (decide_eq_false h1)) (w0 rfl) ?_
    refine s_move (v := .string s) (ev_t rfl rfl) (wy rfl rfl rfl rfl) ?_
    refine s_lenS F_us9 (ev_t rfl rfl) (wy rfl rfl rfl rfl) ?_
    refine s_cmp (r := decide (120 < (s.size : Int))) (ev_t rfl rfl) ev_c rfl (wy rfl rfl rfl rfl) ?_
    refine s_pick0 (v := .bool (decide (120 < (s.size : Int)))) (ev_t rfl rfl) (ev_t rfl rfl) (w0 rfl) ?_
    by_cases h2 : 120 < (s.size : Int)
    · refine s_move (v := .bool true) (vb (ev_t rfl rfl) (decide_eq_true h2)) (w0 rfl) ?_
      refine s_skip (wn rfl rfl rfl rfl rfl) ?_
      refine s_skip (wn rfl rfl rfl rfl rfl) ?_
      refine s_skip (wn rfl rfl rfl rfl rfl) ?_
      refine s_pick1 (v := .bool true) (ev_t rfl rfl) ev_c (w0 rfl) ?_
      refine s_move (v := .bool true) (ev_t rfl rfl) (w0 rfl) ?_
      refine s_skip (wn rfl rfl rfl rfl rfl) ?_
      refine s_skip (wn rfl rfl rfl rfl rfl) ?_
      refine s_skip (wn rfl rfl rfl rfl rfl) ?_
      refine s_pick1 (v := .bool true) (ev_t rfl rfl) ev_c (w0 rfl) ?_
      refine c_done (n_then ?_)
      refine c_cond1 (ev_t rfl rfl) ?_
      refine c_seq (c_reg ?_)
      refine s_assign (v := .bool false) ev_c (w0 rfl) ?_
      refine c_done (n_then (c_ret (r_then ?_)))
      refine ret1 (v := .bool false) rfl rfl rfl ?_
      refine ⟨_, rfl, ?_, (Ext.refl w)⟩
      (refine congrArg Value.bool (Eq.symm ?_); simp only [nameB, wordB, Bool.and_eq_false_iff, decide_eq_false_iff_not]; left; omega)
    · refine s_move (v := .bool false) (vb (ev_t rfl rfl) (decide_eq_false h2)) (w0 rfl) ?_
      refine s_move (v := .string s) (ev_t rfl rfl) (wy rfl rfl rfl rfl) ?_
      refine s_byte (j := 0) F_us9 (ev_t rfl rfl) ev_c rfl (by omega) (wy rfl rfl rfl rfl) ?_
      refine s_cmp (r := decide ((byteAt s 0 : Int) < 97)) (ev_t rfl rfl) ev_c rfl (wy rfl rfl rfl rfl) ?_
      refine s_pick0 (v := .bool (decide ((byteAt s 0 : Int) < 97))) (ev_t rfl rfl) (ev_t rfl rfl) (w0 rfl) ?_
      by_cases h3 : (byteAt s 0 : Int) < 97
      · refine s_move (v := .bool true) (vb (ev_t rfl rfl) (decide_eq_true h3)) (w0 rfl) ?_
        refine s_skip (wn rfl rfl rfl rfl rfl) ?_
        refine s_skip (wn rfl rfl rfl rfl rfl) ?_
        refine s_skip (wn rfl rfl rfl rfl rfl) ?_
        refine s_pick1 (v := .bool true) (ev_t rfl rfl) ev_c (w0 rfl) ?_
        refine c_done (n_then ?_)
        refine c_cond1 (ev_t rfl rfl) ?_
        refine c_seq (c_reg ?_)
        refine s_assign (v := .bool false) ev_c (w0 rfl) ?_
        refine c_done (n_then (c_ret (r_then ?_)))
        refine ret1 (v := .bool false) rfl rfl rfl ?_
        refine ⟨_, rfl, ?_, (Ext.refl w)⟩
        (refine congrArg Value.bool (Eq.symm ?_); simp only [nameB, wordB, Bool.and_eq_false_iff, decide_eq_false_iff_not]; left; omega)
      · refine s_move (v := .bool false) (vb (ev_t rfl rfl) (decide_eq_false h3)) (w0 rfl) ?_
        refine s_move (v := .string s) (ev_t rfl rfl) (wy rfl rfl rfl rfl) ?_
        refine s_byte (j := 0) F_us9 (ev_t rfl rfl) ev_c rfl (by omega) (wy rfl rfl rfl rfl) ?_
        refine s_cmp (r := decide (122 < (byteAt s 0 : Int))) (ev_t rfl rfl) ev_c rfl (wy rfl rfl rfl rfl) ?_
        refine s_pick0 (v := .bool (decide (122 < (byteAt s 0 : Int)))) (ev_t rfl rfl) (ev_t rfl rfl) (w0 rfl) ?_
        refine c_done (n_then ?_)
        by_cases h4 : 122 < (byteAt s 0 : Int)
        · refine c_cond1 (vb (ev_t rfl rfl) (decide_eq_true h4)) ?_
          refine c_seq (c_reg ?_)
          refine s_assign (v := .bool false) ev_c (w0 rfl) ?_
          refine c_done (n_then (c_ret (r_then ?_)))
          refine ret1 (v := .bool false) rfl rfl rfl ?_
          refine ⟨_, rfl, ?_, (Ext.refl w)⟩
          (refine congrArg Value.bool (Eq.symm ?_); simp only [nameB, wordB, Bool.and_eq_false_iff, decide_eq_false_iff_not]; left; omega)
        · refine c_cond0 (vb (ev_t rfl rfl) (decide_eq_false h4)) ?_
          refine c_skip (n_then (c_seq (c_seq (c_reg ?_))))
          refine s_move (v := .string s) (ev_t rfl rfl) (w0 rfl) ?_
          refine s_sbytes F_us9 F_ul93 F_ui5 (ev_t rfl rfl) (w0 rfl) ?_
          intro w7 g5 c6 sb8 x9
          refine s_lenL F_l93 (ev_t rfl rfl) (w0 rfl) ?_
          refine s_move (v := .int .i64 0) ev_c (w0 rfl) ?_
          refine c_done (n_then (c_block ?_))
          refine c_loop (α := Nat) (fun (i : Nat) env_ w_ => Ext w7 w_ ∧ (∀ j, j < i → letterB (byteAt s j) = true) ∧ env_ 0 = .string s ∧ env_ 24 = .slice (some ⟨g5, 0, none⟩) s.size c6 ∧ env_ 25 = .int .i64 (s.size : Int) ∧ env_ 26 = .int .i64 ((i : Nat) : Int)) (fun i => s.size - i) (0) ⟨Ext.refl _, fun j hj => absurd hj (Nat.not_lt_zero j), rfl, rfl, rfl, rfl⟩ ?_
          rintro i env12 w10 ⟨x11, i13, e14, e15, e16, e17⟩
          refine c_seq (c_reg ?_)
          refine s_cmp (r := decide (((i : Nat) : Int) < (s.size : Int))) (ev_t rfl e17) (ev_t rfl e16) rfl (w0 rfl) ?_
          refine c_done (n_then (c_seq ?_))
          by_cases h18 : ((i : Nat) : Int) < (s.size : Int)
          · refine c_cond1 (vb (ev_t rfl rfl) (decide_eq_true h18)) ?_
            refine c_skip (n_then (c_seq (c_block (c_seq (c_reg ?_)))))
            refine s_indexR (j := i) F_l93 (ev_t rfl e15) rfl (ev_t rfl e17) rfl (by omega) (w0 rfl) ?_
            refine s_load (v := .int .u8 (byteAt s i : Int)) F_o5 (ev_t rfl rfl) ((SB.ext sb8 x11) i (by omega)) (w0 rfl) ?_
            refine s_assign (v := .int .u8 (byteAt s i : Int)) (ev_t rfl rfl) (w0 rfl) ?_
            refine c_done (n_then (c_seq (c_reg ?_)))
            refine s_move (v := .int .u8 (byteAt s i : Int)) (ev_t rfl rfl) (w0 rfl) ?_
            refine s_cmp (r := decide ((byteAt s i : Int) < 97)) (ev_t rfl rfl) ev_c rfl (w0 rfl) ?_
            by_cases h19 : (byteAt s i : Int) < 97
            · refine s_move (v := .bool true) (vb (ev_t rfl rfl) (decide_eq_true h19)) (w0 rfl) ?_
              refine s_skip (wn rfl rfl rfl rfl rfl) ?_
              refine s_skip (wn rfl rfl rfl rfl rfl) ?_
              refine s_pick1 (v := .bool true) (ev_t rfl rfl) ev_c (w0 rfl) ?_
              refine s_move (v := .bool true) (ev_t rfl rfl) (w0 rfl) ?_
              refine s_move (v := .int .u8 (byteAt s i : Int)) (ev_t rfl rfl) (wy rfl rfl rfl rfl) ?_
              refine s_cmp (r := decide ((byteAt s i : Int) < 65)) (ev_t rfl rfl) ev_c rfl (wy rfl rfl rfl rfl) ?_
              by_cases h20 : (byteAt s i : Int) < 65
              · refine s_move (v := .bool true) (vb (ev_t rfl rfl) (decide_eq_true h20)) (wy rfl rfl rfl rfl) ?_
                refine s_skip (wn rfl rfl rfl rfl rfl) ?_
                refine s_skip (wn rfl rfl rfl rfl rfl) ?_
                refine s_pick1 (v := .bool true) (ev_t rfl rfl) ev_c (wy rfl rfl rfl rfl) ?_
                refine s_pick1 (v := .bool true) (ev_t rfl rfl) (ev_t rfl rfl) (w0 rfl) ?_
                refine s_move (v := .bool true) (ev_t rfl rfl) (w0 rfl) ?_
                refine s_move (v := .int .u8 (byteAt s i : Int)) (ev_t rfl rfl) (wy rfl rfl rfl rfl) ?_
                refine s_cmp (r := decide ((byteAt s i : Int) < 48)) (ev_t rfl rfl) ev_c rfl (wy rfl rfl rfl rfl) ?_
                by_cases h21 : (byteAt s i : Int) < 48
                · refine s_move (v := .bool true) (vb (ev_t rfl rfl) (decide_eq_true h21)) (wy rfl rfl rfl rfl) ?_
                  refine s_skip (wn rfl rfl rfl rfl rfl) ?_
                  refine s_skip (wn rfl rfl rfl rfl rfl) ?_
                  refine s_pick1 (v := .bool true) (ev_t rfl rfl) ev_c (wy rfl rfl rfl rfl) ?_
                  refine s_pick1 (v := .bool true) (ev_t rfl rfl) (ev_t rfl rfl) (w0 rfl) ?_
                  refine s_move (v := .bool true) (ev_t rfl rfl) (w0 rfl) ?_
                  refine s_move (v := .int .u8 (byteAt s i : Int)) (ev_t rfl rfl) (wy rfl rfl rfl rfl) ?_
                  refine s_cmp (r := !decide ((byteAt s i : Int) = 95)) (ev_t rfl rfl) ev_c rfl (wy rfl rfl rfl rfl) ?_
                  refine s_pick1 (v := .bool (!decide ((byteAt s i : Int) = 95))) (ev_t rfl rfl) (ev_t rfl rfl) (w0 rfl) ?_
                  refine c_done (n_then ?_)
                  by_cases h22 : (byteAt s i : Int) = 95
                  · refine c_cond0 (vb (ev_t rfl rfl) (nb0 h22)) ?_
                    refine c_skip (n_block (n_then (c_reg ?_)))
                    refine s_add (r := ((i + 1 : Nat) : Int)) (ev_t rfl e17) ev_c (by omega) (by omega) (w0 rfl) ?_
                    refine s_move (v := .int .i64 ((i + 1 : Nat) : Int)) (ev_t rfl rfl) (w0 rfl) ?_
                    refine c_done ?_
                    exact ⟨(i + 1), _, rfl, ⟨x11, (step_all0 i13 (by simp [letterB]; omega)), e14, e15, e16, rfl⟩, (show s.size - (i + 1) < s.size - i by omega)⟩
                  · refine c_cond1 (vb (ev_t rfl rfl) (nb1 h22)) ?_
                    refine c_seq (c_reg ?_)
                    refine s_assign (v := .bool false) ev_c (w0 rfl) ?_
                    refine c_done (n_then (c_ret (r_block (r_then (r_then (r_block (r_then ?_)))))))
                    refine ret1 (v := .bool false) rfl rfl rfl ?_
                    refine ⟨_, rfl, ?_, (Ext.trans x9 x11)⟩
                    (refine congrArg Value.bool (Eq.symm ?_); first | (simp [nameB, kwB, *]; done) | (simp only [nameB]; rw [wordB_no i (by omega) (by simp [letterB]; omega)]; rfl))
                · refine s_move (v := .bool false) (vb (ev_t rfl rfl) (decide_eq_false h21)) (wy rfl rfl rfl rfl) ?_
                  refine s_move (v := .int .u8 (byteAt s i : Int)) (ev_t rfl rfl) (wy rfl rfl rfl rfl) ?_
                  refine s_cmp (r := decide (57 < (byteAt s i : Int))) (ev_t rfl rfl) ev_c rfl (wy rfl rfl rfl rfl) ?_
                  refine s_pick0 (v := .bool (decide (57 < (byteAt s i : Int)))) (ev_t rfl rfl) (ev_t rfl rfl) (wy rfl rfl rfl rfl) ?_
                  refine s_pick1 (v := .bool (decide (57 < (byteAt s i : Int)))) (ev_t rfl rfl) (ev_t rfl rfl) (w0 rfl) ?_
                  by_cases h23 : 57 < (byteAt s i : Int)
                  · refine s_move (v := .bool true) (vb (ev_t rfl rfl) (decide_eq_true h23)) (w0 rfl) ?_
                    refine s_move (v := .int .u8 (byteAt s i : Int)) (ev_t rfl rfl) (wy rfl rfl rfl rfl) ?_
                    refine s_cmp (r := !decide ((byteAt s i : Int) = 95)) (ev_t rfl rfl) ev_c rfl (wy rfl rfl rfl rfl) ?_
                    refine s_pick1 (v := .bool (!decide ((byteAt s i : Int) = 95))) (ev_t rfl rfl) (ev_t rfl rfl) (w0 rfl) ?_
                    refine c_done (n_then ?_)
                    by_cases h24 : (byteAt s i : Int) = 95
                    · refine c_cond0 (vb (ev_t rfl rfl) (nb0 h24)) ?_
                      refine c_skip (n_block (n_then (c_reg ?_)))
                      refine s_add (r := ((i + 1 : Nat) : Int)) (ev_t rfl e17) ev_c (by omega) (by omega) (w0 rfl) ?_
                      refine s_move (v := .int .i64 ((i + 1 : Nat) : Int)) (ev_t rfl rfl) (w0 rfl) ?_
                      refine c_done ?_
                      exact ⟨(i + 1), _, rfl, ⟨x11, (step_all0 i13 (by simp [letterB]; omega)), e14, e15, e16, rfl⟩, (show s.size - (i + 1) < s.size - i by omega)⟩
                    · refine c_cond1 (vb (ev_t rfl rfl) (nb1 h24)) ?_
                      refine c_seq (c_reg ?_)
                      refine s_assign (v := .bool false) ev_c (w0 rfl) ?_
                      refine c_done (n_then (c_ret (r_block (r_then (r_then (r_block (r_then ?_)))))))
                      refine ret1 (v := .bool false) rfl rfl rfl ?_
                      refine ⟨_, rfl, ?_, (Ext.trans x9 x11)⟩
                      (refine congrArg Value.bool (Eq.symm ?_); first | (simp [nameB, kwB, *]; done) | (simp only [nameB]; rw [wordB_no i (by omega) (by simp [letterB]; omega)]; rfl))
                  · refine s_move (v := .bool false) (vb (ev_t rfl rfl) (decide_eq_false h23)) (w0 rfl) ?_
                    refine s_skip (wn rfl rfl rfl rfl rfl) ?_
                    refine s_skip (wn rfl rfl rfl rfl rfl) ?_
                    refine s_pick0 (v := .bool false) (ev_t rfl rfl) ev_c (w0 rfl) ?_
                    refine c_done (n_then ?_)
                    refine c_cond0 (ev_t rfl rfl) ?_
                    refine c_skip (n_block (n_then (c_reg ?_)))
                    refine s_add (r := ((i + 1 : Nat) : Int)) (ev_t rfl e17) ev_c (by omega) (by omega) (w0 rfl) ?_
                    refine s_move (v := .int .i64 ((i + 1 : Nat) : Int)) (ev_t rfl rfl) (w0 rfl) ?_
                    refine c_done ?_
                    exact ⟨(i + 1), _, rfl, ⟨x11, (step_all0 i13 (by simp [letterB]; omega)), e14, e15, e16, rfl⟩, (show s.size - (i + 1) < s.size - i by omega)⟩
              · refine s_move (v := .bool false) (vb (ev_t rfl rfl) (decide_eq_false h20)) (wy rfl rfl rfl rfl) ?_
                refine s_move (v := .int .u8 (byteAt s i : Int)) (ev_t rfl rfl) (wy rfl rfl rfl rfl) ?_
                refine s_cmp (r := decide (90 < (byteAt s i : Int))) (ev_t rfl rfl) ev_c rfl (wy rfl rfl rfl rfl) ?_
                refine s_pick0 (v := .bool (decide (90 < (byteAt s i : Int)))) (ev_t rfl rfl) (ev_t rfl rfl) (wy rfl rfl rfl rfl) ?_
                refine s_pick1 (v := .bool (decide (90 < (byteAt s i : Int)))) (ev_t rfl rfl) (ev_t rfl rfl) (w0 rfl) ?_
                by_cases h25 : 90 < (byteAt s i : Int)
                · refine s_move (v := .bool true) (vb (ev_t rfl rfl) (decide_eq_true h25)) (w0 rfl) ?_
                  refine s_move (v := .int .u8 (byteAt s i : Int)) (ev_t rfl rfl) (wy rfl rfl rfl rfl) ?_
                  refine s_cmp (r := decide ((byteAt s i : Int) < 48)) (ev_t rfl rfl) ev_c rfl (wy rfl rfl rfl rfl) ?_
                  by_cases h26 : (byteAt s i : Int) < 48
                  · refine s_move (v := .bool true) (vb (ev_t rfl rfl) (decide_eq_true h26)) (wy rfl rfl rfl rfl) ?_
                    refine s_skip (wn rfl rfl rfl rfl rfl) ?_
                    refine s_skip (wn rfl rfl rfl rfl rfl) ?_
                    refine s_pick1 (v := .bool true) (ev_t rfl rfl) ev_c (wy rfl rfl rfl rfl) ?_
                    refine s_pick1 (v := .bool true) (ev_t rfl rfl) (ev_t rfl rfl) (w0 rfl) ?_
                    refine s_move (v := .bool true) (ev_t rfl rfl) (w0 rfl) ?_
                    refine s_move (v := .int .u8 (byteAt s i : Int)) (ev_t rfl rfl) (wy rfl rfl rfl rfl) ?_
                    refine s_cmp (r := !decide ((byteAt s i : Int) = 95)) (ev_t rfl rfl) ev_c rfl (wy rfl rfl rfl rfl) ?_
                    refine s_pick1 (v := .bool (!decide ((byteAt s i : Int) = 95))) (ev_t rfl rfl) (ev_t rfl rfl) (w0 rfl) ?_
                    refine c_done (n_then ?_)
                    by_cases h27 : (byteAt s i : Int) = 95
                    · refine c_cond0 (vb (ev_t rfl rfl) (nb0 h27)) ?_
                      refine c_skip (n_block (n_then (c_reg ?_)))
                      refine s_add (r := ((i + 1 : Nat) : Int)) (ev_t rfl e17) ev_c (by omega) (by omega) (w0 rfl) ?_
                      refine s_move (v := .int .i64 ((i + 1 : Nat) : Int)) (ev_t rfl rfl) (w0 rfl) ?_
                      refine c_done ?_
                      exact ⟨(i + 1), _, rfl, ⟨x11, (step_all0 i13 (by simp [letterB]; omega)), e14, e15, e16, rfl⟩, (show s.size - (i + 1) < s.size - i by omega)⟩
                    · refine c_cond1 (vb (ev_t rfl rfl) (nb1 h27)) ?_
                      refine c_seq (c_reg ?_)
                      refine s_assign (v := .bool false) ev_c (w0 rfl) ?_
                      refine c_done (n_then (c_ret (r_block (r_then (r_then (r_block (r_then ?_)))))))
                      refine ret1 (v := .bool false) rfl rfl rfl ?_
                      refine ⟨_, rfl, ?_, (Ext.trans x9 x11)⟩
                      (refine congrArg Value.bool (Eq.symm ?_); first | (simp [nameB, kwB, *]; done) | (simp only [nameB]; rw [wordB_no i (by omega) (by simp [letterB]; omega)]; rfl))
                  · refine s_move (v := .bool false) (vb (ev_t rfl rfl) (decide_eq_false h26)) (wy rfl rfl rfl rfl) ?_
                    refine s_move (v := .int .u8 (byteAt s i : Int)) (ev_t rfl rfl) (wy rfl rfl rfl rfl) ?_
                    refine s_cmp (r := decide (57 < (byteAt s i : Int))) (ev_t rfl rfl) ev_c rfl (wy rfl rfl rfl rfl) ?_
                    refine s_pick0 (v := .bool (decide (57 < (byteAt s i : Int)))) (ev_t rfl rfl) (ev_t rfl rfl) (wy rfl rfl rfl rfl) ?_
                    refine s_pick1 (v := .bool (decide (57 < (byteAt s i : Int)))) (ev_t rfl rfl) (ev_t rfl rfl) (w0 rfl) ?_
                    by_cases h28 : 57 < (byteAt s i : Int)
                    · refine s_move (v := .bool true) (vb (ev_t rfl rfl) (decide_eq_true h28)) (w0 rfl) ?_
                      refine s_move (v := .int .u8 (byteAt s i : Int)) (ev_t rfl rfl) (wy rfl rfl rfl rfl) ?_
                      refine s_cmp (r := !decide ((byteAt s i : Int) = 95)) (ev_t rfl rfl) ev_c rfl (wy rfl rfl rfl rfl) ?_
                      refine s_pick1 (v := .bool (!decide ((byteAt s i : Int) = 95))) (ev_t rfl rfl) (ev_t rfl rfl) (w0 rfl) ?_
                      refine c_done (n_then ?_)
                      by_cases h29 : (byteAt s i : Int) = 95
                      · refine c_cond0 (vb (ev_t rfl rfl) (nb0 h29)) ?_
                        refine c_skip (n_block (n_then (c_reg ?_)))
                        refine s_add (r := ((i + 1 : Nat) : Int)) (ev_t rfl e17) ev_c (by omega) (by omega) (w0 rfl) ?_
                        refine s_move (v := .int .i64 ((i + 1 : Nat) : Int)) (ev_t rfl rfl) (w0 rfl) ?_
                        refine c_done ?_
                        exact ⟨(i + 1), _, rfl, ⟨x11, (step_all0 i13 (by simp [letterB]; omega)), e14, e15, e16, rfl⟩, (show s.size - (i + 1) < s.size - i by omega)⟩
                      · refine c_cond1 (vb (ev_t rfl rfl) (nb1 h29)) ?_
                        refine c_seq (c_reg ?_)
                        refine s_assign (v := .bool false) ev_c (w0 rfl) ?_
                        refine c_done (n_then (c_ret (r_block (r_then (r_then (r_block (r_then ?_)))))))
                        refine ret1 (v := .bool false) rfl rfl rfl ?_
                        refine ⟨_, rfl, ?_, (Ext.trans x9 x11)⟩
                        (refine congrArg Value.bool (Eq.symm ?_); first | (simp [nameB, kwB, *]; done) | (simp only [nameB]; rw [wordB_no i (by omega) (by simp [letterB]; omega)]; rfl))
                    · refine s_move (v := .bool false) (vb (ev_t rfl rfl) (decide_eq_false h28)) (w0 rfl) ?_
                      refine s_skip (wn rfl rfl rfl rfl rfl) ?_
                      refine s_skip (wn rfl rfl rfl rfl rfl) ?_
                      refine s_pick0 (v := .bool false) (ev_t rfl rfl) ev_c (w0 rfl) ?_
                      refine c_done (n_then ?_)
                      refine c_cond0 (ev_t rfl rfl) ?_
                      refine c_skip (n_block (n_then (c_reg ?_)))
                      refine s_add (r := ((i + 1 : Nat) : Int)) (ev_t rfl e17) ev_c (by omega) (by omega) (w0 rfl) ?_
                      refine s_move (v := .int .i64 ((i + 1 : Nat) : Int)) (ev_t rfl rfl) (w0 rfl) ?_
                      refine c_done ?_
                      exact ⟨(i + 1), _, rfl, ⟨x11, (step_all0 i13 (by simp [letterB]; omega)), e14, e15, e16, rfl⟩, (show s.size - (i + 1) < s.size - i by omega)⟩
                · refine s_move (v := .bool false) (vb (ev_t rfl rfl) (decide_eq_false h25)) (w0 rfl) ?_
                  refine s_skip (wn rfl rfl rfl rfl rfl) ?_
                  refine s_skip (wn rfl rfl rfl rfl rfl) ?_
                  refine s_skip (wn rfl rfl rfl rfl rfl) ?_
                  refine s_skip (wu rfl rfl rfl rfl) ?_
                  refine s_skip (wu rfl rfl rfl rfl) ?_
                  refine s_skip (wn rfl rfl rfl rfl rfl) ?_
                  refine s_pick0 (v := .bool false) (ev_t rfl rfl) ev_c (w0 rfl) ?_
                  refine s_move (v := .bool false) (ev_t rfl rfl) (w0 rfl) ?_
                  refine s_skip (wn rfl rfl rfl rfl rfl) ?_
                  refine s_skip (wn rfl rfl rfl rfl rfl) ?_
                  refine s_pick0 (v := .bool false) (ev_t rfl rfl) ev_c (w0 rfl) ?_
                  refine c_done (n_then ?_)
                  refine c_cond0 (ev_t rfl rfl) ?_
                  refine c_skip (n_block (n_then (c_reg ?_)))
                  refine s_add (r := ((i + 1 : Nat) : Int)) (ev_t rfl e17) ev_c (by omega) (by omega) (w0 rfl) ?_
                  refine s_move (v := .int .i64 ((i + 1 : Nat) : Int)) (ev_t rfl rfl) (w0 rfl) ?_
                  refine c_done ?_
                  exact ⟨(i + 1), _, rfl, ⟨x11, (step_all0 i13 (by simp [letterB]; omega)), e14, e15, e16, rfl⟩, (show s.size - (i + 1) < s.size - i by omega)⟩
            · refine s_move (v := .bool false) (vb (ev_t rfl rfl) (decide_eq_false h19)) (w0 rfl) ?_
              refine s_move (v := .int .u8 (byteAt s i : Int)) (ev_t rfl rfl) (wy rfl rfl rfl rfl) ?_
              refine s_cmp (r := decide (122 < (byteAt s i : Int))) (ev_t rfl rfl) ev_c rfl (wy rfl rfl rfl rfl) ?_
              refine s_pick0 (v := .bool (decide (122 < (byteAt s i : Int)))) (ev_t rfl rfl) (ev_t rfl rfl) (w0 rfl) ?_
              by_cases h30 : 122 < (byteAt s i : Int)
              · refine s_move (v := .bool true) (vb (ev_t rfl rfl) (decide_eq_true h30)) (w0 rfl) ?_
                refine s_move (v := .int .u8 (byteAt s i : Int)) (ev_t rfl rfl) (wy rfl rfl rfl rfl) ?_
                refine s_cmp (r := decide ((byteAt s i : Int) < 65)) (ev_t rfl rfl) ev_c rfl (wy rfl rfl rfl rfl) ?_
                by_cases h31 : (byteAt s i : Int) < 65
                · refine s_move (v := .bool true) (vb (ev_t rfl rfl) (decide_eq_true h31)) (wy rfl rfl rfl rfl) ?_
                  refine s_skip (wn rfl rfl rfl rfl rfl) ?_
                  refine s_skip (wn rfl rfl rfl rfl rfl) ?_
                  refine s_pick1 (v := .bool true) (ev_t rfl rfl) ev_c (wy rfl rfl rfl rfl) ?_
                  refine s_pick1 (v := .bool true) (ev_t rfl rfl) (ev_t rfl rfl) (w0 rfl) ?_
                  refine s_move (v := .bool true) (ev_t rfl rfl) (w0 rfl) ?_
                  refine s_move (v := .int .u8 (byteAt s i : Int)) (ev_t rfl rfl) (wy rfl rfl rfl rfl) ?_
                  refine s_cmp (r := decide ((byteAt s i : Int) < 48)) (ev_t rfl rfl) ev_c rfl (wy rfl rfl rfl rfl) ?_
                  by_cases h32 : (byteAt s i : Int) < 48
                  · refine s_move (v := .bool true) (vb (ev_t rfl rfl) (decide_eq_true h32)) (wy rfl rfl rfl rfl) ?_
                    refine s_skip (wn rfl rfl rfl rfl rfl) ?_
                    refine s_skip (wn rfl rfl rfl rfl rfl) ?_
                    refine s_pick1 (v := .bool true) (ev_t rfl rfl) ev_c (wy rfl rfl rfl rfl) ?_
                    refine s_pick1 (v := .bool true) (ev_t rfl rfl) (ev_t rfl rfl) (w0 rfl) ?_
                    refine s_move (v := .bool true) (ev_t rfl rfl) (w0 rfl) ?_
                    refine s_move (v := .int .u8 (byteAt s i : Int)) (ev_t rfl rfl) (wy rfl rfl rfl rfl) ?_
                    refine s_cmp (r := !decide ((byteAt s i : Int) = 95)) (ev_t rfl rfl) ev_c rfl (wy rfl rfl rfl rfl) ?_
                    refine s_pick1 (v := .bool (!decide ((byteAt s i : Int) = 95))) (ev_t rfl rfl) (ev_t rfl rfl) (w0 rfl) ?_
                    refine c_done (n_then ?_)
                    by_cases h33 : (byteAt s i : Int) = 95
                    · refine c_cond0 (vb (ev_t rfl rfl) (nb0 h33)) ?_
                      refine c_skip (n_block (n_then (c_reg ?_)))
                      refine s_add (r := ((i + 1 : Nat) : Int)) (ev_t rfl e17) ev_c (by omega) (by omega) (w0 rfl) ?_
                      refine s_move (v := .int .i64 ((i + 1 : Nat) : Int)) (ev_t rfl rfl) (w0 rfl) ?_
                      refine c_done ?_
                      exact ⟨(i + 1), _, rfl, ⟨x11, (step_all0 i13 (by simp [letterB]; omega)), e14, e15, e16, rfl⟩, (show s.size - (i + 1) < s.size - i by omega)⟩
                    · refine c_cond1 (vb (ev_t rfl rfl) (nb1 h33)) ?_
                      refine c_seq (c_reg ?_)
                      refine s_assign (v := .bool false) ev_c (w0 rfl) ?_
                      refine c_done (n_then (c_ret (r_block (r_then (r_then (r_block (r_then ?_)))))))
                      refine ret1 (v := .bool false) rfl rfl rfl ?_
                      refine ⟨_, rfl, ?_, (Ext.trans x9 x11)⟩
                      (refine congrArg Value.bool (Eq.symm ?_); first | (simp [nameB, kwB, *]; done) | (simp only [nameB]; rw [wordB_no i (by omega) (by simp [letterB]; omega)]; rfl))
                  · refine s_move (v := .bool false) (vb (ev_t rfl rfl) (decide_eq_false h32)) (wy rfl rfl rfl rfl) ?_
                    refine s_move (v := .int .u8 (byteAt s i : Int)) (ev_t rfl rfl) (wy rfl rfl rfl rfl) ?_
                    refine s_cmp (r := decide (57 < (byteAt s i : Int))) (ev_t rfl rfl) ev_c rfl (wy rfl rfl rfl rfl) ?_
                    refine s_pick0 (v := .bool (decide (57 < (byteAt s i : Int)))) (ev_t rfl rfl) (ev_t rfl rfl) (wy rfl rfl rfl rfl) ?_
                    refine s_pick1 (v := .bool (decide (57 < (byteAt s i : Int)))) (ev_t rfl rfl) (ev_t rfl rfl) (w0 rfl) ?_
                    by_cases h34 : 57 < (byteAt s i : Int)
                    · refine s_move (v := .bool true) (vb (ev_t rfl rfl) (decide_eq_true h34)) (w0 rfl) ?_
                      refine s_move (v := .int .u8 (byteAt s i : Int)) (ev_t rfl rfl) (wy rfl rfl rfl rfl) ?_
                      refine s_cmp (r := !decide ((byteAt s i : Int) = 95)) (ev_t rfl rfl) ev_c rfl (wy rfl rfl rfl rfl) ?_
                      refine s_pick1 (v := .bool (!decide ((byteAt s i : Int) = 95))) (ev_t rfl rfl) (ev_t rfl rfl) (w0 rfl) ?_
                      refine c_done (n_then ?_)
                      by_cases h35 : (byteAt s i : Int) = 95
                      · refine c_cond0 (vb (ev_t rfl rfl) (nb0 h35)) ?_
                        refine c_skip (n_block (n_then (c_reg ?_)))
                        refine s_add (r := ((i + 1 : Nat) : Int)) (ev_t rfl e17) ev_c (by omega) (by omega) (w0 rfl) ?_
                        refine s_move (v := .int .i64 ((i + 1 : Nat) : Int)) (ev_t rfl rfl) (w0 rfl) ?_
                        refine c_done ?_
                        exact ⟨(i + 1), _, rfl, ⟨x11, (step_all0 i13 (by simp [letterB]; omega)), e14, e15, e16, rfl⟩, (show s.size - (i + 1) < s.size - i by omega)⟩
                      · refine c_cond1 (vb (ev_t rfl rfl) (nb1 h35)) ?_
                        refine c_seq (c_reg ?_)
                        refine s_assign (v := .bool false) ev_c (w0 rfl) ?_
                        refine c_done (n_then (c_ret (r_block (r_then (r_then (r_block (r_then ?_)))))))
                        refine ret1 (v := .bool false) rfl rfl rfl ?_
                        refine ⟨_, rfl, ?_, (Ext.trans x9 x11)⟩
                        (refine congrArg Value.bool (Eq.symm ?_); first | (simp [nameB, kwB, *]; done) | (simp only [nameB]; rw [wordB_no i (by omega) (by simp [letterB]; omega)]; rfl))
                    · refine s_move (v := .bool false) (vb (ev_t rfl rfl) (decide_eq_false h34)) (w0 rfl) ?_
                      refine s_skip (wn rfl rfl rfl rfl rfl) ?_
                      refine s_skip (wn rfl rfl rfl rfl rfl) ?_
                      refine s_pick0 (v := .bool false) (ev_t rfl rfl) ev_c (w0 rfl) ?_
                      refine c_done (n_then ?_)
                      refine c_cond0 (ev_t rfl rfl) ?_
                      refine c_skip (n_block (n_then (c_reg ?_)))
                      refine s_add (r := ((i + 1 : Nat) : Int)) (ev_t rfl e17) ev_c (by omega) (by omega) (w0 rfl) ?_
                      refine s_move (v := .int .i64 ((i + 1 : Nat) : Int)) (ev_t rfl rfl) (w0 rfl) ?_
                      refine c_done ?_
                      exact ⟨(i + 1), _, rfl, ⟨x11, (step_all0 i13 (by simp [letterB]; omega)), e14, e15, e16, rfl⟩, (show s.size - (i + 1) < s.size - i by omega)⟩
                · refine s_move (v := .bool false) (vb (ev_t rfl rfl) (decide_eq_false h31)) (wy rfl rfl rfl rfl) ?_
                  refine s_move (v := .int .u8 (byteAt s i : Int)) (ev_t rfl rfl) (wy rfl rfl rfl rfl) ?_
                  refine s_cmp (r := decide (90 < (byteAt s i : Int))) (ev_t rfl rfl) ev_c rfl (wy rfl rfl rfl rfl) ?_
                  refine s_pick0 (v := .bool (decide (90 < (byteAt s i : Int)))) (ev_t rfl rfl) (ev_t rfl rfl) (wy rfl rfl rfl rfl) ?_
                  refine s_pick1 (v := .bool (decide (90 < (byteAt s i : Int)))) (ev_t rfl rfl) (ev_t rfl rfl) (w0 rfl) ?_
                  by_cases h36 : 90 < (byteAt s i : Int)
                  · refine s_move (v := .bool true) (vb (ev_t rfl rfl) (decide_eq_true h36)) (w0 rfl) ?_
                    refine s_move (v := .int .u8 (byteAt s i : Int)) (ev_t rfl rfl) (wy rfl rfl rfl rfl) ?_
                    refine s_cmp (r := decide ((byteAt s i : Int) < 48)) (ev_t rfl rfl) ev_c rfl (wy rfl rfl rfl rfl) ?_
                    by_cases h37 : (byteAt s i : Int) < 48
                    · refine s_move (v := .bool true) (vb (ev_t rfl rfl) (decide_eq_true h37)) (wy rfl rfl rfl rfl) ?_
                      refine s_skip (wn rfl rfl rfl rfl rfl) ?_
                      refine s_skip (wn rfl rfl rfl rfl rfl) ?_
                      refine s_pick1 (v := .bool true) (ev_t rfl rfl) ev_c (wy rfl rfl rfl rfl) ?_
                      refine s_pick1 (v := .bool true) (ev_t rfl rfl) (ev_t rfl rfl) (w0 rfl) ?_
                      refine s_move (v := .bool true) (ev_t rfl rfl) (w0 rfl) ?_
                      refine s_move (v := .int .u8 (byteAt s i : Int)) (ev_t rfl rfl) (wy rfl rfl rfl rfl) ?_
                      refine s_cmp (r := !decide ((byteAt s i : Int) = 95)) (ev_t rfl rfl) ev_c rfl (wy rfl rfl rfl rfl) ?_
                      refine s_pick1 (v := .bool (!decide ((byteAt s i : Int) = 95))) (ev_t rfl rfl) (ev_t rfl rfl) (w0 rfl) ?_
                      refine c_done (n_then ?_)
                      by_cases h38 : (byteAt s i : Int) = 95
                      · refine c_cond0 (vb (ev_t rfl rfl) (nb0 h38)) ?_
                        refine c_skip (n_block (n_then (c_reg ?_)))
                        refine s_add (r := ((i + 1 : Nat) : Int)) (ev_t rfl e17) ev_c (by omega) (by omega) (w0 rfl) ?_
                        refine s_move (v := .int .i64 ((i + 1 : Nat) : Int)) (ev_t rfl rfl) (w0 rfl) ?_
                        refine c_done ?_
                        exact ⟨(i + 1), _, rfl, ⟨x11, (step_all0 i13 (by simp [letterB]; omega)), e14, e15, e16, rfl⟩, (show s.size - (i + 1) < s.size - i by omega)⟩
                      · refine c_cond1 (vb (ev_t rfl rfl) (nb1 h38)) ?_
                        refine c_seq (c_reg ?_)
                        refine s_assign (v := .bool false) ev_c (w0 rfl) ?_
                        refine c_done (n_then (c_ret (r_block (r_then (r_then (r_block (r_then ?_)))))))
                        refine ret1 (v := .bool false) rfl rfl rfl ?_
                        refine ⟨_, rfl, ?_, (Ext.trans x9 x11)⟩
                        (refine congrArg Value.bool (Eq.symm ?_); first | (simp [nameB, kwB, *]; done) | (simp only [nameB]; rw [wordB_no i (by omega) (by simp [letterB]; omega)]; rfl))
                    · refine s_move (v := .bool false) (vb (ev_t rfl rfl) (decide_eq_false h37)) (wy rfl rfl rfl rfl) ?_
                      refine s_move (v := .int .u8 (byteAt s i : Int)) (ev_t rfl rfl) (wy rfl rfl rfl rfl) ?_
                      refine s_cmp (r := decide (57 < (byteAt s i : Int))) (ev_t rfl rfl) ev_c rfl (wy rfl rfl rfl rfl) ?_
                      refine s_pick0 (v := .bool (decide (57 < (byteAt s i : Int)))) (ev_t rfl rfl) (ev_t rfl rfl) (wy rfl rfl rfl rfl) ?_
                      refine s_pick1 (v := .bool (decide (57 < (byteAt s i : Int)))) (ev_t rfl rfl) (ev_t rfl rfl) (w0 rfl) ?_
                      by_cases h39 : 57 < (byteAt s i : Int)
                      · refine s_move (v := .bool true) (vb (ev_t rfl rfl) (decide_eq_true h39)) (w0 rfl) ?_
                        refine s_move (v := .int .u8 (byteAt s i : Int)) (ev_t rfl rfl) (wy rfl rfl rfl rfl) ?_
                        refine s_cmp (r := !decide ((byteAt s i : Int) = 95)) (ev_t rfl rfl) ev_c rfl (wy rfl rfl rfl rfl) ?_
                        refine s_pick1 (v := .bool (!decide ((byteAt s i : Int) = 95))) (ev_t rfl rfl) (ev_t rfl rfl) (w0 rfl) ?_
                        refine c_done (n_then ?_)
                        by_cases h40 : (byteAt s i : Int) = 95
                        · refine c_cond0 (vb (ev_t rfl rfl) (nb0 h40)) ?_
                          refine c_skip (n_block (n_then (c_reg ?_)))
                          refine s_add (r := ((i + 1 : Nat) : Int)) (ev_t rfl e17) ev_c (by omega) (by omega) (w0 rfl) ?_
                          refine s_move (v := .int .i64 ((i + 1 : Nat) : Int)) (ev_t rfl rfl) (w0 rfl) ?_
                          refine c_done ?_
                          exact ⟨(i + 1), _, rfl, ⟨x11, (step_all0 i13 (by simp [letterB]; omega)), e14, e15, e16, rfl⟩, (show s.size - (i + 1) < s.size - i by omega)⟩
                        · refine c_cond1 (vb (ev_t rfl rfl) (nb1 h40)) ?_
                          refine c_seq (c_reg ?_)
                          refine s_assign (v := .bool false) ev_c (w0 rfl) ?_
                          refine c_done (n_then (c_ret (r_block (r_then (r_then (r_block (r_then ?_)))))))
                          refine ret1 (v := .bool false) rfl rfl rfl ?_
                          refine ⟨_, rfl, ?_, (Ext.trans x9 x11)⟩
                          (refine congrArg Value.bool (Eq.symm ?_); first | (simp [nameB, kwB, *]; done) | (simp only [nameB]; rw [wordB_no i (by omega) (by simp [letterB]; omega)]; rfl))
                      · refine s_move (v := .bool false) (vb (ev_t rfl rfl) (decide_eq_false h39)) (w0 rfl) ?_
                        refine s_skip (wn rfl rfl rfl rfl rfl) ?_
                        refine s_skip (wn rfl rfl rfl rfl rfl) ?_
                        refine s_pick0 (v := .bool false) (ev_t rfl rfl) ev_c (w0 rfl) ?_
                        refine c_done (n_then ?_)
                        refine c_cond0 (ev_t rfl rfl) ?_
                        refine c_skip (n_block (n_then (c_reg ?_)))
                        refine s_add (r := ((i + 1 : Nat) : Int)) (ev_t rfl e17) ev_c (by omega) (by omega) (w0 rfl) ?_
                        refine s_move (v := .int .i64 ((i + 1 : Nat) : Int)) (ev_t rfl rfl) (w0 rfl) ?_
                        refine c_done ?_
                        exact ⟨(i + 1), _, rfl, ⟨x11, (step_all0 i13 (by simp [letterB]; omega)), e14, e15, e16, rfl⟩, (show s.size - (i + 1) < s.size - i by omega)⟩
                  · refine s_move (v := .bool false) (vb (ev_t rfl rfl) (decide_eq_false h36)) (w0 rfl) ?_
                    refine s_skip (wn rfl rfl rfl rfl rfl) ?_
                    refine s_skip (wn rfl rfl rfl rfl rfl) ?_
                    refine s_skip (wn rfl rfl rfl rfl rfl) ?_
                    refine s_skip (wu rfl rfl rfl rfl) ?_
                    refine s_skip (wu rfl rfl rfl rfl) ?_
                    refine s_skip (wn rfl rfl rfl rfl rfl) ?_
                    refine s_pick0 (v := .bool false) (ev_t rfl rfl) ev_c (w0 rfl) ?_
                    refine s_move (v := .bool false) (ev_t rfl rfl) (w0 rfl) ?_
                    refine s_skip (wn rfl rfl rfl rfl rfl) ?_
                    refine s_skip (wn rfl rfl rfl rfl rfl) ?_
                    refine s_pick0 (v := .bool false) (ev_t rfl rfl) ev_c (w0 rfl) ?_
                    refine c_done (n_then ?_)
                    refine c_cond0 (ev_t rfl rfl) ?_
                    refine c_skip (n_block (n_then (c_reg ?_)))
                    refine s_add (r := ((i + 1 : Nat) : Int)) (ev_t rfl e17) ev_c (by omega) (by omega) (w0 rfl) ?_
                    refine s_move (v := .int .i64 ((i + 1 : Nat) : Int)) (ev_t rfl rfl) (w0 rfl) ?_
                    refine c_done ?_
                    exact ⟨(i + 1), _, rfl, ⟨x11, (step_all0 i13 (by simp [letterB]; omega)), e14, e15, e16, rfl⟩, (show s.size - (i + 1) < s.size - i by omega)⟩
              · refine s_move (v := .bool false) (vb (ev_t rfl rfl) (decide_eq_false h30)) (w0 rfl) ?_
                refine s_skip (wn rfl rfl rfl rfl rfl) ?_
                refine s_skip (wn rfl rfl rfl rfl rfl) ?_
                refine s_skip (wn rfl rfl rfl rfl rfl) ?_
                refine s_skip (wu rfl rfl rfl rfl) ?_
                refine s_skip (wu rfl rfl rfl rfl) ?_
                refine s_skip (wn rfl rfl rfl rfl rfl) ?_
                refine s_pick0 (v := .bool false) (ev_t rfl rfl) ev_c (w0 rfl) ?_
                refine s_move (v := .bool false) (ev_t rfl rfl) (w0 rfl) ?_
                refine s_skip (wn rfl rfl rfl rfl rfl) ?_
                refine s_skip (wn rfl rfl rfl rfl rfl) ?_
                refine s_skip (wn rfl rfl rfl rfl rfl) ?_
                refine s_skip (wu rfl rfl rfl rfl) ?_
                refine s_skip (wu rfl rfl rfl rfl) ?_
                refine s_skip (wn rfl rfl rfl rfl rfl) ?_
                refine s_pick0 (v := .bool false) (ev_t rfl rfl) ev_c (w0 rfl) ?_
                refine s_move (v := .bool false) (ev_t rfl rfl) (w0 rfl) ?_
                refine s_skip (wn rfl rfl rfl rfl rfl) ?_
                refine s_skip (wn rfl rfl rfl rfl rfl) ?_
                refine s_pick0 (v := .bool false) (ev_t rfl rfl) ev_c (w0 rfl) ?_
                refine c_done (n_then ?_)
                refine c_cond0 (ev_t rfl rfl) ?_
                refine c_skip (n_block (n_then (c_reg ?_)))
                refine s_add (r := ((i + 1 : Nat) : Int)) (ev_t rfl e17) ev_c (by omega) (by omega) (w0 rfl) ?_
                refine s_move (v := .int .i64 ((i + 1 : Nat) : Int)) (ev_t rfl rfl) (w0 rfl) ?_
                refine c_done ?_
                exact ⟨(i + 1), _, rfl, ⟨x11, (step_all0 i13 (by simp [letterB]; omega)), e14, e15, e16, rfl⟩, (show s.size - (i + 1) < s.size - i by omega)⟩
          · refine c_cond0 (vb (ev_t rfl rfl) (decide_eq_false h18)) ?_
            refine c_exit (e_then (e_then (e_hit (n_then (c_seq (c_seq (c_reg ?_)))))))
            refine s_move (v := .string s) (ev_t rfl e14) (w0 rfl) ?_
            refine c_done (n_then (c_block (c_seq (c_seq (c_reg ?_)))))
            refine s_cmpS (r := decide (s = (⟨#[110, 111, 116]⟩ : ByteArray))) (ev_t rfl rfl) ev_c rfl (w0 rfl) ?_
            refine s_assign (v := .bool (decide (s = (⟨#[110, 111, 116]⟩ : ByteArray)))) (ev_t rfl rfl) (w0 rfl) ?_
            refine c_done (n_then ?_)
            by_cases h41 : s = (⟨#[110, 111, 116]⟩ : ByteArray)
            · refine c_cond1 (vb (ev_t rfl rfl) (decide_eq_true h41)) ?_
              refine c_skip (n_then ?_)
              refine c_cond1 (vb (ev_t rfl rfl) (decide_eq_true h41)) ?_
              refine c_seq (c_reg ?_)
              refine s_assign (v := .bool false) ev_c (w0 rfl) ?_
              refine c_done (n_then (c_ret (r_block (r_then ?_))))
              refine ret1 (v := .bool false) rfl rfl rfl ?_
              refine ⟨_, rfl, ?_, (Ext.trans x9 x11)⟩
              (refine congrArg Value.bool (Eq.symm ?_); first | (simp [nameB, kwB, *]; done) | (simp only [nameB]; rw [wordB_no i (by omega) (by simp [letterB]; omega)]; rfl))
            · refine c_cond0 (vb (ev_t rfl rfl) (decide_eq_false h41)) ?_
              refine c_seq (c_reg ?_)
              refine s_cmpS (r := decide (s = (⟨#[99, 111, 117, 110, 116]⟩ : ByteArray))) (ev_t rfl rfl) ev_c rfl (w0 rfl) ?_
              refine s_assign (v := .bool (decide (s = (⟨#[99, 111, 117, 110, 116]⟩ : ByteArray)))) (ev_t rfl rfl) (w0 rfl) ?_
              refine c_done (n_then ?_)
              by_cases h42 : s = (⟨#[99, 111, 117, 110, 116]⟩ : ByteArray)
              · refine c_cond1 (vb (ev_t rfl rfl) (decide_eq_true h42)) ?_
                refine c_skip (n_then ?_)
                refine c_cond1 (vb (ev_t rfl rfl) (decide_eq_true h42)) ?_
                refine c_seq (c_reg ?_)
                refine s_assign (v := .bool false) ev_c (w0 rfl) ?_
                refine c_done (n_then (c_ret (r_block (r_then ?_))))
                refine ret1 (v := .bool false) rfl rfl rfl ?_
                refine ⟨_, rfl, ?_, (Ext.trans x9 x11)⟩
                (refine congrArg Value.bool (Eq.symm ?_); first | (simp [nameB, kwB, *]; done) | (simp only [nameB]; rw [wordB_no i (by omega) (by simp [letterB]; omega)]; rfl))
              · refine c_cond0 (vb (ev_t rfl rfl) (decide_eq_false h42)) ?_
                refine c_seq (c_reg ?_)
                refine s_cmpS (r := decide (s = (⟨#[115, 117, 109]⟩ : ByteArray))) (ev_t rfl rfl) ev_c rfl (w0 rfl) ?_
                refine s_assign (v := .bool (decide (s = (⟨#[115, 117, 109]⟩ : ByteArray)))) (ev_t rfl rfl) (w0 rfl) ?_
                refine c_done (n_then ?_)
                by_cases h43 : s = (⟨#[115, 117, 109]⟩ : ByteArray)
                · refine c_cond1 (vb (ev_t rfl rfl) (decide_eq_true h43)) ?_
                  refine c_skip (n_then ?_)
                  refine c_cond1 (vb (ev_t rfl rfl) (decide_eq_true h43)) ?_
                  refine c_seq (c_reg ?_)
                  refine s_assign (v := .bool false) ev_c (w0 rfl) ?_
                  refine c_done (n_then (c_ret (r_block (r_then ?_))))
                  refine ret1 (v := .bool false) rfl rfl rfl ?_
                  refine ⟨_, rfl, ?_, (Ext.trans x9 x11)⟩
                  (refine congrArg Value.bool (Eq.symm ?_); first | (simp [nameB, kwB, *]; done) | (simp only [nameB]; rw [wordB_no i (by omega) (by simp [letterB]; omega)]; rfl))
                · refine c_cond0 (vb (ev_t rfl rfl) (decide_eq_false h43)) ?_
                  refine c_seq (c_reg ?_)
                  refine s_cmpS (r := decide (s = (⟨#[109, 105, 110]⟩ : ByteArray))) (ev_t rfl rfl) ev_c rfl (w0 rfl) ?_
                  refine s_assign (v := .bool (decide (s = (⟨#[109, 105, 110]⟩ : ByteArray)))) (ev_t rfl rfl) (w0 rfl) ?_
                  refine c_done (n_then ?_)
                  by_cases h44 : s = (⟨#[109, 105, 110]⟩ : ByteArray)
                  · refine c_cond1 (vb (ev_t rfl rfl) (decide_eq_true h44)) ?_
                    refine c_skip (n_then ?_)
                    refine c_cond1 (vb (ev_t rfl rfl) (decide_eq_true h44)) ?_
                    refine c_seq (c_reg ?_)
                    refine s_assign (v := .bool false) ev_c (w0 rfl) ?_
                    refine c_done (n_then (c_ret (r_block (r_then ?_))))
                    refine ret1 (v := .bool false) rfl rfl rfl ?_
                    refine ⟨_, rfl, ?_, (Ext.trans x9 x11)⟩
                    (refine congrArg Value.bool (Eq.symm ?_); first | (simp [nameB, kwB, *]; done) | (simp only [nameB]; rw [wordB_no i (by omega) (by simp [letterB]; omega)]; rfl))
                  · refine c_cond0 (vb (ev_t rfl rfl) (decide_eq_false h44)) ?_
                    refine c_seq (c_reg ?_)
                    refine s_cmpS (r := decide (s = (⟨#[109, 97, 120]⟩ : ByteArray))) (ev_t rfl rfl) ev_c rfl (w0 rfl) ?_
                    refine s_assign (v := .bool (decide (s = (⟨#[109, 97, 120]⟩ : ByteArray)))) (ev_t rfl rfl) (w0 rfl) ?_
                    refine c_done (n_then ?_)
                    by_cases h45 : s = (⟨#[109, 97, 120]⟩ : ByteArray)
                    · refine c_cond1 (vb (ev_t rfl rfl) (decide_eq_true h45)) ?_
                      refine c_skip (n_then ?_)
                      refine c_cond1 (vb (ev_t rfl rfl) (decide_eq_true h45)) ?_
                      refine c_seq (c_reg ?_)
                      refine s_assign (v := .bool false) ev_c (w0 rfl) ?_
                      refine c_done (n_then (c_ret (r_block (r_then ?_))))
                      refine ret1 (v := .bool false) rfl rfl rfl ?_
                      refine ⟨_, rfl, ?_, (Ext.trans x9 x11)⟩
                      (refine congrArg Value.bool (Eq.symm ?_); first | (simp [nameB, kwB, *]; done) | (simp only [nameB]; rw [wordB_no i (by omega) (by simp [letterB]; omega)]; rfl))
                    · refine c_cond0 (vb (ev_t rfl rfl) (decide_eq_false h45)) ?_
                      refine c_seq (c_reg ?_)
                      refine s_cmpS (r := decide (s = (⟨#[108, 101, 110]⟩ : ByteArray))) (ev_t rfl rfl) ev_c rfl (w0 rfl) ?_
                      refine s_assign (v := .bool (decide (s = (⟨#[108, 101, 110]⟩ : ByteArray)))) (ev_t rfl rfl) (w0 rfl) ?_
                      refine c_done (n_then ?_)
                      by_cases h46 : s = (⟨#[108, 101, 110]⟩ : ByteArray)
                      · refine c_cond1 (vb (ev_t rfl rfl) (decide_eq_true h46)) ?_
                        refine c_skip (n_then ?_)
                        refine c_cond1 (vb (ev_t rfl rfl) (decide_eq_true h46)) ?_
                        refine c_seq (c_reg ?_)
                        refine s_assign (v := .bool false) ev_c (w0 rfl) ?_
                        refine c_done (n_then (c_ret (r_block (r_then ?_))))
                        refine ret1 (v := .bool false) rfl rfl rfl ?_
                        refine ⟨_, rfl, ?_, (Ext.trans x9 x11)⟩
                        (refine congrArg Value.bool (Eq.symm ?_); first | (simp [nameB, kwB, *]; done) | (simp only [nameB]; rw [wordB_no i (by omega) (by simp [letterB]; omega)]; rfl))
                      · refine c_cond0 (vb (ev_t rfl rfl) (decide_eq_false h46)) ?_
                        refine c_seq (c_reg ?_)
                        refine s_cmpS (r := decide (s = (⟨#[99, 104, 97, 114, 115]⟩ : ByteArray))) (ev_t rfl rfl) ev_c rfl (w0 rfl) ?_
                        refine s_assign (v := .bool (decide (s = (⟨#[99, 104, 97, 114, 115]⟩ : ByteArray)))) (ev_t rfl rfl) (w0 rfl) ?_
                        refine c_done (n_then ?_)
                        by_cases h47 : s = (⟨#[99, 104, 97, 114, 115]⟩ : ByteArray)
                        · refine c_cond1 (vb (ev_t rfl rfl) (decide_eq_true h47)) ?_
                          refine c_skip (n_then ?_)
                          refine c_cond1 (vb (ev_t rfl rfl) (decide_eq_true h47)) ?_
                          refine c_seq (c_reg ?_)
                          refine s_assign (v := .bool false) ev_c (w0 rfl) ?_
                          refine c_done (n_then (c_ret (r_block (r_then ?_))))
                          refine ret1 (v := .bool false) rfl rfl rfl ?_
                          refine ⟨_, rfl, ?_, (Ext.trans x9 x11)⟩
                          (refine congrArg Value.bool (Eq.symm ?_); first | (simp [nameB, kwB, *]; done) | (simp only [nameB]; rw [wordB_no i (by omega) (by simp [letterB]; omega)]; rfl))
                        · refine c_cond0 (vb (ev_t rfl rfl) (decide_eq_false h47)) ?_
                          refine c_reg ?_
                          refine s_cmpS (r := decide (s = (⟨#[98, 97, 99, 107]⟩ : ByteArray))) (ev_t rfl rfl) ev_c rfl (w0 rfl) ?_
                          refine s_assign (v := .bool (decide (s = (⟨#[98, 97, 99, 107]⟩ : ByteArray)))) (ev_t rfl rfl) (w0 rfl) ?_
                          refine c_done (n_then ?_)
                          by_cases h48 : s = (⟨#[98, 97, 99, 107]⟩ : ByteArray)
                          · refine c_cond1 (vb (ev_t rfl rfl) (decide_eq_true h48)) ?_
                            refine c_seq (c_reg ?_)
                            refine s_assign (v := .bool false) ev_c (w0 rfl) ?_
                            refine c_done (n_then (c_ret (r_block (r_then ?_))))
                            refine ret1 (v := .bool false) rfl rfl rfl ?_
                            refine ⟨_, rfl, ?_, (Ext.trans x9 x11)⟩
                            (refine congrArg Value.bool (Eq.symm ?_); first | (simp [nameB, kwB, *]; done) | (simp only [nameB]; rw [wordB_no i (by omega) (by simp [letterB]; omega)]; rfl))
                          · refine c_cond0 (vb (ev_t rfl rfl) (decide_eq_false h48)) ?_
                            refine c_skip (n_block (n_then (c_seq (c_reg ?_))))
                            refine s_assign (v := .bool true) ev_c (w0 rfl) ?_
                            refine c_done (n_then (c_ret ?_))
                            refine ret1 (v := .bool true) rfl rfl rfl ?_
                            refine ⟨_, rfl, ?_, (Ext.trans x9 x11)⟩
                            (refine congrArg Value.bool (Eq.symm ?_); simp only [nameB]; rw [wordB_yes0 (by omega) (by omega) (by omega) (by omega) (by assumption) i13]; simp [kwB, *])
set_option maxHeartbeats 4000000 in
theorem t_name (s : ByteArray) (w : World) (hs : s.size ≤ 140737488351232) :
    Rt Tryz.prog 65 #[.string s] w fun v w' => v = .bool (nameB s) ∧ Ext w w' := by
  refine enter Tryz.func65 rfl (l := [.string s]) rfl Tryz.ntmps65 (Nat.le_of_ble_eq_true rfl) ?_
  refine c_seq (c_reg ?_)
  refine s_assign (v := .bool false) ev_c (w0 rfl) ?_
  refine c_done (n_then (c_seq (c_seq (c_reg ?_))))
  refine s_move (v := .string s) (ev_t rfl rfl) (w0 rfl) ?_
  refine c_done (n_then (c_block (c_seq (c_seq (c_reg ?_)))))
  refine s_cmpS (r := decide (s = (⟨#[110, 111, 116]⟩ : ByteArray))) (ev_t rfl rfl) ev_c rfl (w0 rfl) ?_
  refine s_assign (v := .bool (decide (s = (⟨#[110, 111, 116]⟩ : ByteArray)))) (ev_t rfl rfl) (w0 rfl) ?_
  refine c_done (n_then ?_)
  by_cases h1 : s = (⟨#[110, 111, 116]⟩ : ByteArray)
  · refine c_cond1 (vb (ev_t rfl rfl) (decide_eq_true h1)) ?_
    refine c_skip (n_then ?_)
    refine c_cond1 (vb (ev_t rfl rfl) (decide_eq_true h1)) ?_
    refine c_seq (c_reg ?_)
    refine s_assign (v := .bool false) ev_c (w0 rfl) ?_
    refine c_done (n_then (c_ret (r_block (r_then ?_))))
    refine ret1 (v := .bool false) rfl rfl rfl ?_
    refine ⟨_, rfl, ?_, (Ext.refl w)⟩
    (simp [nameB, kwB, *])
  · refine c_cond0 (vb (ev_t rfl rfl) (decide_eq_false h1)) ?_
    refine c_seq (c_reg ?_)
    refine s_cmpS (r := decide (s = (⟨#[99, 111, 117, 110, 116]⟩ : ByteArray))) (ev_t rfl rfl) ev_c rfl (w0 rfl) ?_
    refine s_assign (v := .bool (decide (s = (⟨#[99, 111, 117, 110, 116]⟩ : ByteArray)))) (ev_t rfl rfl) (w0 rfl) ?_
    refine c_done (n_then ?_)
    by_cases h2 : s = (⟨#[99, 111, 117, 110, 116]⟩ : ByteArray)
    · refine c_cond1 (vb (ev_t rfl rfl) (decide_eq_true h2)) ?_
      refine c_skip (n_then ?_)
      refine c_cond1 (vb (ev_t rfl rfl) (decide_eq_true h2)) ?_
      refine c_seq (c_reg ?_)
      refine s_assign (v := .bool false) ev_c (w0 rfl) ?_
      refine c_done (n_then (c_ret (r_block (r_then ?_))))
      refine ret1 (v := .bool false) rfl rfl rfl ?_
      refine ⟨_, rfl, ?_, (Ext.refl w)⟩
      (simp [nameB, kwB, *])
    · refine c_cond0 (vb (ev_t rfl rfl) (decide_eq_false h2)) ?_
      refine c_seq (c_reg ?_)
      refine s_cmpS (r := decide (s = (⟨#[115, 117, 109]⟩ : ByteArray))) (ev_t rfl rfl) ev_c rfl (w0 rfl) ?_
      refine s_assign (v := .bool (decide (s = (⟨#[115, 117, 109]⟩ : ByteArray)))) (ev_t rfl rfl) (w0 rfl) ?_
      refine c_done (n_then ?_)
      by_cases h3 : s = (⟨#[115, 117, 109]⟩ : ByteArray)
      · refine c_cond1 (vb (ev_t rfl rfl) (decide_eq_true h3)) ?_
        refine c_skip (n_then ?_)
        refine c_cond1 (vb (ev_t rfl rfl) (decide_eq_true h3)) ?_
        refine c_seq (c_reg ?_)
        refine s_assign (v := .bool false) ev_c (w0 rfl) ?_
        refine c_done (n_then (c_ret (r_block (r_then ?_))))
        refine ret1 (v := .bool false) rfl rfl rfl ?_
        refine ⟨_, rfl, ?_, (Ext.refl w)⟩
        (simp [nameB, kwB, *])
      · refine c_cond0 (vb (ev_t rfl rfl) (decide_eq_false h3)) ?_
        refine c_seq (c_reg ?_)
        refine s_cmpS (r := decide (s = (⟨#[109, 105, 110]⟩ : ByteArray))) (ev_t rfl rfl) ev_c rfl (w0 rfl) ?_
        refine s_assign (v := .bool (decide (s = (⟨#[109, 105, 110]⟩ : ByteArray)))) (ev_t rfl rfl) (w0 rfl) ?_
        refine c_done (n_then ?_)
        by_cases h4 : s = (⟨#[109, 105, 110]⟩ : ByteArray)
        · refine c_cond1 (vb (ev_t rfl rfl) (decide_eq_true h4)) ?_
          refine c_skip (n_then ?_)
          refine c_cond1 (vb (ev_t rfl rfl) (decide_eq_true h4)) ?_
          refine c_seq (c_reg ?_)
          refine s_assign (v := .bool false) ev_c (w0 rfl) ?_
          refine c_done (n_then (c_ret (r_block (r_then ?_))))
          refine ret1 (v := .bool false) rfl rfl rfl ?_
          refine ⟨_, rfl, ?_, (Ext.refl w)⟩
          (simp [nameB, kwB, *])
        · refine c_cond0 (vb (ev_t rfl rfl) (decide_eq_false h4)) ?_
          refine c_seq (c_reg ?_)
          refine s_cmpS (r := decide (s = (⟨#[109, 97, 120]⟩ : ByteArray))) (ev_t rfl rfl) ev_c rfl (w0 rfl) ?_
          refine s_assign (v := .bool (decide (s = (⟨#[109, 97, 120]⟩ : ByteArray)))) (ev_t rfl rfl) (w0 rfl) ?_
          refine c_done (n_then ?_)
          by_cases h5 : s = (⟨#[109, 97, 120]⟩ : ByteArray)
          · refine c_cond1 (vb (ev_t rfl rfl) (decide_eq_true h5)) ?_
            refine c_skip (n_then ?_)
            refine c_cond1 (vb (ev_t rfl rfl) (decide_eq_true h5)) ?_
            refine c_seq (c_reg ?_)
            refine s_assign (v := .bool false) ev_c (w0 rfl) ?_
            refine c_done (n_then (c_ret (r_block (r_then ?_))))
            refine ret1 (v := .bool false) rfl rfl rfl ?_
            refine ⟨_, rfl, ?_, (Ext.refl w)⟩
            (simp [nameB, kwB, *])
          · refine c_cond0 (vb (ev_t rfl rfl) (decide_eq_false h5)) ?_
            refine c_seq (c_reg ?_)
            refine s_cmpS (r := decide (s = (⟨#[108, 101, 110]⟩ : ByteArray))) (ev_t rfl rfl) ev_c rfl (w0 rfl) ?_
            refine s_assign (v := .bool (decide (s = (⟨#[108, 101, 110]⟩ : ByteArray)))) (ev_t rfl rfl) (w0 rfl) ?_
            refine c_done (n_then ?_)
            by_cases h6 : s = (⟨#[108, 101, 110]⟩ : ByteArray)
            · refine c_cond1 (vb (ev_t rfl rfl) (decide_eq_true h6)) ?_
              refine c_skip (n_then ?_)
              refine c_cond1 (vb (ev_t rfl rfl) (decide_eq_true h6)) ?_
              refine c_seq (c_reg ?_)
              refine s_assign (v := .bool false) ev_c (w0 rfl) ?_
              refine c_done (n_then (c_ret (r_block (r_then ?_))))
              refine ret1 (v := .bool false) rfl rfl rfl ?_
              refine ⟨_, rfl, ?_, (Ext.refl w)⟩
              (simp [nameB, kwB, *])
            · refine c_cond0 (vb (ev_t rfl rfl) (decide_eq_false h6)) ?_
              refine c_seq (c_reg ?_)
              refine s_cmpS (r := decide (s = (⟨#[99, 104, 97, 114, 115]⟩ : ByteArray))) (ev_t rfl rfl) ev_c rfl (w0 rfl) ?_
              refine s_assign (v := .bool (decide (s = (⟨#[99, 104, 97, 114, 115]⟩ : ByteArray)))) (ev_t rfl rfl) (w0 rfl) ?_
              refine c_done (n_then ?_)
              by_cases h7 : s = (⟨#[99, 104, 97, 114, 115]⟩ : ByteArray)
              · refine c_cond1 (vb (ev_t rfl rfl) (decide_eq_true h7)) ?_
                refine c_skip (n_then ?_)
                refine c_cond1 (vb (ev_t rfl rfl) (decide_eq_true h7)) ?_
                refine c_seq (c_reg ?_)
                refine s_assign (v := .bool false) ev_c (w0 rfl) ?_
                refine c_done (n_then (c_ret (r_block (r_then ?_))))
                refine ret1 (v := .bool false) rfl rfl rfl ?_
                refine ⟨_, rfl, ?_, (Ext.refl w)⟩
                (simp [nameB, kwB, *])
              · refine c_cond0 (vb (ev_t rfl rfl) (decide_eq_false h7)) ?_
                refine c_reg ?_
                refine s_cmpS (r := decide (s = (⟨#[98, 97, 99, 107]⟩ : ByteArray))) (ev_t rfl rfl) ev_c rfl (w0 rfl) ?_
                refine s_assign (v := .bool (decide (s = (⟨#[98, 97, 99, 107]⟩ : ByteArray)))) (ev_t rfl rfl) (w0 rfl) ?_
                refine c_done (n_then ?_)
                by_cases h8 : s = (⟨#[98, 97, 99, 107]⟩ : ByteArray)
                · refine c_cond1 (vb (ev_t rfl rfl) (decide_eq_true h8)) ?_
                  refine c_seq (c_reg ?_)
                  refine s_assign (v := .bool false) ev_c (w0 rfl) ?_
                  refine c_done (n_then (c_ret (r_block (r_then ?_))))
                  refine ret1 (v := .bool false) rfl rfl rfl ?_
                  refine ⟨_, rfl, ?_, (Ext.refl w)⟩
                  (simp [nameB, kwB, *])
                · refine c_cond0 (vb (ev_t rfl rfl) (decide_eq_false h8)) ?_
                  refine c_skip (n_block (n_then (c_seq (c_reg ?_))))
                  refine s_move (v := .string s) (ev_t rfl rfl) (w0 rfl) ?_
                  refine s_call F_e103 (w0 rfl) ev_f (m3 (ev_t rfl rfl) ev_c ev_c) (args := #[.string s, .int .u8 97, .int .u8 122]) rfl (t_word s 97 122 _ (by omega)) ?_
                  rintro _ w10 ⟨rfl, x9⟩
                  refine s_assign (v := .bool (wordB s 97 122)) (ev_t rfl rfl) (w0 rfl) ?_
                  refine c_done (n_then (c_ret ?_))
                  refine ret1 (v := .bool (wordB s 97 122)) rfl rfl rfl ?_
                  refine ⟨_, rfl, ?_, x9⟩
                  (simp [nameB, kwB, *])
set_option maxHeartbeats 4000000 in
theorem t_CheckTerm (x : Tm) (w : World) (hx : x.wf) :
    Rt Tryz.prog 68 #[.agg #[.string x.v, .int .i8 x.l.k, .int .i64 x.l.n, .string x.l.s]] w fun v w' => v = .int .i64 (code (tmB x)) ∧ Ext w w' := by
  refine enter Tryz.func68 rfl (l := [.agg #[.string x.v, .int .i8 x.l.k, .int .i64 x.l.n, .string x.l.s]]) rfl Tryz.ntmps68 (Nat.le_of_ble_eq_true rfl) ?_
  refine c_seq (c_reg ?_)
  refine s_box (v := .agg #[.string x.v, .int .i8 x.l.k, .int .i64 x.l.n, .string x.l.s]) (cs := #[.string x.v, .int .i8 x.l.k, .int .i64 x.l.n, .string x.l.s]) (w0 rfl) (ev_t rfl rfl) rfl ?_
  intro w2 g1 n3
  refine s_assign (v := .int .i64 0) ev_c (w0 rfl) ?_
  refine c_done (n_then (c_seq (c_seq (c_reg ?_))))
  refine s_field (off := 0) (o' := 0) F_f33_0 (ev_t rfl rfl) rfl (w0 rfl) ?_
  refine s_load (v := .string x.v) F_o9 (ev_t rfl rfl) (cell_of_blk (i := 0) (NewB.blk n3) rfl) (w0 rfl) ?_
  refine s_cmpS (r := decide (x.v = (⟨#[]⟩ : ByteArray))) (ev_t rfl rfl) ev_c rfl (w0 rfl) ?_
  refine c_done (n_then ?_)
  by_cases h4 : x.v = (⟨#[]⟩ : ByteArray)
  · refine c_cond1 (vb (ev_t rfl rfl) (decide_eq_true h4)) ?_
    refine c_seq (c_reg ?_)
    refine s_field (off := 1) (o' := 1) F_f33_1 (ev_t rfl rfl) rfl (w0 rfl) ?_
    refine s_loadL (cs := [.int .i8 x.l.k, .int .i64 x.l.n, .string x.l.s]) (ca := #[.int .i8 x.l.k, .int .i64 x.l.n, .string x.l.s]) F_m31 (ev_t rfl rfl) rfl rfl (blk_cells (NewB.blk n3) 1 (cs := [.int .i8 x.l.k, .int .i64 x.l.n, .string x.l.s]) rfl) (w0 rfl) ?_
    refine s_call F_e105 (w0 rfl) ev_f (m1 (ev_t rfl rfl)) (args := #[.agg #[.int .i8 x.l.k, .int .i64 x.l.n, .string x.l.s]]) rfl (v_Check x.l _) ?_
    rintro _ w6 ⟨rfl, x5⟩
    refine s_cmp (r := okV x.l) (ev_t rfl rfl) ev_c (ci_t (b := (okV x.l)) (by decide)) (w0 rfl) ?_
    refine s_call F_e64 (w0 rfl) ev_f (m1 (ev_t rfl rfl)) (args := #[.bool (okV x.l)]) rfl (t_code (okV x.l) _) ?_
    rintro _ w8 ⟨rfl, x7⟩
    refine s_assign (v := .int .i64 (code (okV x.l))) (ev_t rfl rfl) (w0 rfl) ?_
    refine c_done (n_then (c_ret (r_then ?_)))
    refine ret1 (v := .int .i64 (code (okV x.l))) rfl rfl rfl ?_
    refine ⟨_, rfl, ?_, (Ext.trans (Ext.trans (NewB.ext n3) x5) x7)⟩
    (refine congrArg (Value.int .i64) (congrArg code ?_); first | (simp [tmB, *]; done) | (simp [tmB, varB, *]; done) | (simp [tmB, varB, *]; (repeat' split) <;> simp_all [varB]; done))
  · refine c_cond0 (vb (ev_t rfl rfl) (decide_eq_false h4)) ?_
    refine c_skip (n_then (c_seq (c_reg ?_)))
    refine s_field (off := 1) (o' := 1) F_f33_1 (ev_t rfl rfl) rfl (w0 rfl) ?_
    refine s_loadL (cs := [.int .i8 x.l.k, .int .i64 x.l.n, .string x.l.s]) (ca := #[.int .i8 x.l.k, .int .i64 x.l.n, .string x.l.s]) F_m31 (ev_t rfl rfl) rfl rfl (blk_cells (NewB.blk n3) 1 (cs := [.int .i8 x.l.k, .int .i64 x.l.n, .string x.l.s]) rfl) (w0 rfl) ?_
    refine s_build (v := .agg #[.int .i8 0, .int .i64 0, .string (⟨#[]⟩ : ByteArray)]) (vs := []) b0 (bd31) (w0 rfl) ?_
    refine s_cmpG (r := zV x.l) (ev_t rfl rfl) (ev_t rfl rfl) ((fun w_ => eqzV31eql x.l _ _ w_)) (w0 rfl) ?_
    rcases Bool.eq_false_or_eq_true (zV x.l) with h9 | h9
    · refine s_move (v := .bool true) (vb (ev_t rfl rfl) h9) (w0 rfl) ?_
      refine s_field (off := 0) (o' := 0) F_f33_0 (ev_t rfl rfl) rfl (wy rfl rfl rfl rfl) ?_
      refine s_load (v := .string x.v) F_o9 (ev_t rfl rfl) (cell_of_blk (i := 0) (NewB.blk n3) rfl) (wy rfl rfl rfl rfl) ?_
      refine s_cmpS (r := decide (x.v = (⟨#[95]⟩ : ByteArray))) (ev_t rfl rfl) ev_c rfl (wy rfl rfl rfl rfl) ?_
      by_cases h10 : x.v = (⟨#[95]⟩ : ByteArray)
      · refine s_move (v := .bool true) (vb (ev_t rfl rfl) (decide_eq_true h10)) (wy rfl rfl rfl rfl) ?_
        refine s_skip (wn rfl rfl rfl rfl rfl) ?_
        refine s_skip (wn rfl rfl rfl rfl rfl) ?_
        refine s_skip (wn rfl rfl rfl rfl rfl) ?_
        refine s_pick1 (v := .bool true) (ev_t rfl rfl) ev_c (wy rfl rfl rfl rfl) ?_
        refine s_pick1 (v := .bool true) (ev_t rfl rfl) (ev_t rfl rfl) (w0 rfl) ?_
        refine s_call F_e64 (w0 rfl) ev_f (m1 (ev_t rfl rfl)) (args := #[.bool true]) rfl (t_code true _) ?_
        rintro _ w12 ⟨rfl, x11⟩
        refine s_assign (v := .int .i64 (code true)) (ev_t rfl rfl) (w0 rfl) ?_
        refine c_done (n_then (c_ret ?_))
        refine ret1 (v := .int .i64 (code true)) rfl rfl rfl ?_
        refine ⟨_, rfl, ?_, (Ext.trans (NewB.ext n3) x11)⟩
        (refine congrArg (Value.int .i64) (congrArg code ?_); first | (simp [tmB, *]; done) | (simp [tmB, varB, *]; done) | (simp [tmB, varB, *]; (repeat' split) <;> simp_all [varB]; done))
      · refine s_move (v := .bool false) (vb (ev_t rfl rfl) (decide_eq_false h10)) (wy rfl rfl rfl rfl) ?_
        refine s_field (off := 0) (o' := 0) F_f33_0 (ev_t rfl rfl) rfl (wy rfl rfl rfl rfl) ?_
        refine s_load (v := .string x.v) F_o9 (ev_t rfl rfl) (cell_of_blk (i := 0) (NewB.blk n3) rfl) (wy rfl rfl rfl rfl) ?_
        refine s_call F_e103 (wy rfl rfl rfl rfl) ev_f (m3 (ev_t rfl rfl) ev_c ev_c) (args := #[.string x.v, .int .u8 65, .int .u8 90]) rfl (t_word x.v 65 90 _ (Tm.wf.v hx)) ?_
        rintro _ w14 ⟨rfl, x13⟩
        refine s_pick0 (v := .bool (wordB x.v 65 90)) (ev_t rfl rfl) (ev_t rfl rfl) (wy rfl rfl rfl rfl) ?_
        refine s_pick1 (v := .bool (wordB x.v 65 90)) (ev_t rfl rfl) (ev_t rfl rfl) (w0 rfl) ?_
        refine s_call F_e64 (w0 rfl) ev_f (m1 (ev_t rfl rfl)) (args := #[.bool (wordB x.v 65 90)]) rfl (t_code (wordB x.v 65 90) _) ?_
        rintro _ w16 ⟨rfl, x15⟩
        refine s_assign (v := .int .i64 (code (wordB x.v 65 90))) (ev_t rfl rfl) (w0 rfl) ?_
        refine c_done (n_then (c_ret ?_))
        refine ret1 (v := .int .i64 (code (wordB x.v 65 90))) rfl rfl rfl ?_
        refine ⟨_, rfl, ?_, (Ext.trans (Ext.trans (NewB.ext n3) x13) x15)⟩
        (refine congrArg (Value.int .i64) (congrArg code ?_); first | (simp [tmB, *]; done) | (simp [tmB, varB, *]; done) | (simp [tmB, varB, *]; (repeat' split) <;> simp_all [varB]; done))
    · refine s_move (v := .bool false) (vb (ev_t rfl rfl) h9) (w0 rfl) ?_
      refine s_skip (wn rfl rfl rfl rfl rfl) ?_
      refine s_skip (wn rfl rfl rfl rfl rfl) ?_
      refine s_skip (wn rfl rfl rfl rfl rfl) ?_
      refine s_skip (wn rfl rfl rfl rfl rfl) ?_
      refine s_skip (wu rfl rfl rfl rfl) ?_
      refine s_skip (wu rfl rfl rfl rfl) ?_
      refine s_skip (wu rfl rfl rfl rfl) ?_
      refine s_skip (wn rfl rfl rfl rfl rfl) ?_
      refine s_pick0 (v := .bool false) (ev_t rfl rfl) ev_c (w0 rfl) ?_
      refine s_call F_e64 (w0 rfl) ev_f (m1 (ev_t rfl rfl)) (args := #[.bool false]) rfl (t_code false _) ?_
      rintro _ w18 ⟨rfl, x17⟩
      refine s_assign (v := .int .i64 (code false)) (ev_t rfl rfl) (w0 rfl) ?_
      refine c_done (n_then (c_ret ?_))
      refine ret1 (v := .int .i64 (code false)) rfl rfl rfl ?_
      refine ⟨_, rfl, ?_, (Ext.trans (NewB.ext n3) x17)⟩
      (refine congrArg (Value.int .i64) (congrArg code ?_); first | (simp [tmB, *]; done) | (simp [tmB, varB, *]; done) | (simp [tmB, varB, *]; (repeat' split) <;> simp_all [varB]; done))
set_option maxHeartbeats 4000000 in
theorem t_solid (x : Tm) (w : World) (hx : x.wf) :
    Rt Tryz.prog 119 #[.agg #[.string x.v, .int .i8 x.l.k, .int .i64 x.l.n, .string x.l.s]] w fun v w' => v = .bool (!decide (x.v = ⟨#[95]⟩) && tmB x) ∧ Ext w w' := by
  refine enter Tryz.func119 rfl (l := [.agg #[.string x.v, .int .i8 x.l.k, .int .i64 x.l.n, .string x.l.s]]) rfl Tryz.ntmps119 (Nat.le_of_ble_eq_true rfl) ?_
  refine c_seq (c_reg ?_)
  refine s_box (v := .agg #[.string x.v, .int .i8 x.l.k, .int .i64 x.l.n, .string x.l.s]) (cs := #[.string x.v, .int .i8 x.l.k, .int .i64 x.l.n, .string x.l.s]) (w0 rfl) (ev_t rfl rfl) rfl ?_
  intro w2 g1 n3
  refine s_assign (v := .bool false) ev_c (w0 rfl) ?_
  refine c_done (n_then (c_seq (c_reg ?_)))
  refine s_field (off := 0) (o' := 0) F_f33_0 (ev_t rfl rfl) rfl (w0 rfl) ?_
  refine s_load (v := .string x.v) F_o9 (ev_t rfl rfl) (cell_of_blk (i := 0) (NewB.blk n3) rfl) (w0 rfl) ?_
  refine s_cmpS (r := !decide (x.v = (⟨#[95]⟩ : ByteArray))) (ev_t rfl rfl) ev_c rfl (w0 rfl) ?_
  by_cases h4 : x.v = (⟨#[95]⟩ : ByteArray)
  · refine s_move (v := .bool false) (vb (ev_t rfl rfl) (nb0 h4)) (w0 rfl) ?_
    refine s_skip (wn rfl rfl rfl rfl rfl) ?_
    refine s_skip (wn rfl rfl rfl rfl rfl) ?_
    refine s_skip (wn rfl rfl rfl rfl rfl) ?_
    refine s_pick0 (v := .bool false) (ev_t rfl rfl) ev_c (w0 rfl) ?_
    refine s_assign (v := .bool false) (ev_t rfl rfl) (w0 rfl) ?_
    refine c_done (n_then (c_ret ?_))
    refine ret1 (v := .bool false) rfl rfl rfl ?_
    refine ⟨_, rfl, ?_, (NewB.ext n3)⟩
    (simp [*])
  · refine s_move (v := .bool true) (vb (ev_t rfl rfl) (nb1 h4)) (w0 rfl) ?_
    refine s_loadL (cs := [.string x.v, .int .i8 x.l.k, .int .i64 x.l.n, .string x.l.s]) (ca := #[.string x.v, .int .i8 x.l.k, .int .i64 x.l.n, .string x.l.s]) F_m33 (ev_t rfl rfl) rfl rfl (blk_cells (NewB.blk n3) 0 (cs := [.string x.v, .int .i8 x.l.k, .int .i64 x.l.n, .string x.l.s]) rfl) (wy rfl rfl rfl rfl) ?_
    refine s_call F_e68 (wy rfl rfl rfl rfl) ev_f (m1 (ev_t rfl rfl)) (args := #[.agg #[.string x.v, .int .i8 x.l.k, .int .i64 x.l.n, .string x.l.s]]) rfl (t_CheckTerm x _ hx) ?_
    rintro _ w6 ⟨rfl, x5⟩
    refine s_cmp (r := tmB x) (ev_t rfl rfl) ev_c (ci_t (b := (tmB x)) (by decide)) (wy rfl rfl rfl rfl) ?_
    refine s_pick1 (v := .bool (tmB x)) (ev_t rfl rfl) (ev_t rfl rfl) (w0 rfl) ?_
    refine s_assign (v := .bool (tmB x)) (ev_t rfl rfl) (w0 rfl) ?_
    refine c_done (n_then (c_ret ?_))
    refine ret1 (v := .bool (tmB x)) rfl rfl rfl ?_
    refine ⟨_, rfl, ?_, (Ext.trans (NewB.ext n3) x5)⟩
    (simp [*])
end Go.Proofs.Zw
