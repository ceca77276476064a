/- YtjjkfbjidpolmaaDoorDL: part of the proof of this seat, by an AI agent: walks of the functions that the law reaches. No condition of its own but those that its theorems state. -/
import Derived.Test.YtjjkfbjidpolmaaDoorDK
import Derived.Test.YtjjkfbjidpolmaaDoorWkU
set_option linter.unusedVariables false
set_option linter.unusedSimpArgs false
set_option maxRecDepth 10000
namespace Go.Proofs.Dw
open Go Go.Wk Go.Proofs Go.Lib
attribute [local irreducible] Go.wpList Go.wpStill Go.wpQuiet Go.Code.wp Go.Calls
theorem F_e108 : enterable Tryd.prog 108 = true := by kernel_rfl
theorem F_e62 : enterable Tryd.prog 62 = true := by kernel_rfl
theorem F_e82 : enterable Tryd.prog 82 = true := by kernel_rfl
theorem F_e83 : enterable Tryd.prog 83 = true := by kernel_rfl
theorem F_f46_0 : fieldAt Tryd.prog 46 0 0 = true := by kernel_rfl
theorem F_f46_1 : fieldAt Tryd.prog 46 1 1 = true := by kernel_rfl
theorem F_l44 : sliceT Tryd.prog 44 4 = true := by kernel_rfl
theorem F_o44 : one Tryd.prog 44 = true := by kernel_rfl
set_option maxHeartbeats 4000000 in
theorem t_CheckAtom1 (x : Tm) (w : World) (hx : x.wf) :
    Rt Tryd.prog 83 #[.agg #[.string x.v, .int .i8 x.l.k, .int .i64 x.l.n, .string x.l.s]] w fun v w' => v = .bool (!tmB x) ∧ Ext w w' := by
  refine enter Tryd.func83 rfl (l := [.agg #[.string x.v, .int .i8 x.l.k, .int .i64 x.l.n, .string x.l.s]]) rfl Tryd.ntmps83 (Nat.le_of_ble_eq_true rfl) ?_
  refine c_seq ?_
  refine c_reg ?_
  refine s_box (v := .agg #[.string x.v, .int .i8 x.l.k, .int .i64 x.l.n, .string x.l.s]) (cs := #[.string x.v, .int .i8 x.l.k, .int .i64 x.l.n, .string x.l.s]) (w0 rfl) (ev_t rfl rfl) rfl ?_
  intro w2 g1 n3
  refine s_assign (v := .bool false) ev_c (w0 rfl) ?_
  refine c_done ?_
  refine n_then ?_
  refine c_seq ?_
  refine c_reg ?_
  refine s_loadL (cs := [.string x.v, .int .i8 x.l.k, .int .i64 x.l.n, .string x.l.s]) (ca := #[.string x.v, .int .i8 x.l.k, .int .i64 x.l.n, .string x.l.s]) F_m28 (ev_t rfl rfl) rfl rfl (blk_cells (NewB.blk n3) 0 (cs := [.string x.v, .int .i8 x.l.k, .int .i64 x.l.n, .string x.l.s]) rfl) (w0 rfl) ?_
  refine s_call F_e84 (w0 rfl) ev_f (m1 (ev_t rfl rfl)) (args := #[.agg #[.string x.v, .int .i8 x.l.k, .int .i64 x.l.n, .string x.l.s]]) rfl (t_CheckTerm x _ hx) ?_
  rintro _ w5 ⟨rfl, x4⟩
  refine s_cmp (r := !(tmB x)) (ev_t rfl rfl) ev_c (ci_tn (b := (tmB x)) (by decide)) (w0 rfl) ?_
  refine s_assign (v := .bool (!(tmB x))) (ev_t rfl rfl) (w0 rfl) ?_
  refine c_done ?_
  refine n_then ?_
  refine c_ret ?_
  refine ret1 (v := .bool (!(tmB x))) rfl rfl rfl ?_
  refine ⟨_, rfl, ?_, (Ext.trans (NewB.ext n3) x4)⟩
  rfl
set_option maxHeartbeats 4000000 in
theorem s_IndexFuncT (l : List Tm) (A : Option Addr) (c : Nat) (w : World) (hl : l.length ≤ 140737488351232) (hr : Row RT 4 w A l) :
    Rt Tryd.prog 108 #[.slice A l.length c, .func (.func 83) #[] #[]] w fun v w' => v = .int .i64 (posB (fun y => !tmB y) l) ∧ Ext w w' := by
  refine enter Tryd.func108 rfl (l := [.slice A l.length c, .func (.func 83) #[] #[]]) rfl Tryd.ntmps108 (Nat.le_of_ble_eq_true rfl) ?_
  refine c_seq ?_
  refine c_reg ?_
  refine s_assign (v := .int .i64 0) ev_c (w0 rfl) ?_
  refine c_done ?_
  refine n_then ?_
  refine c_seq ?_
  refine c_seq ?_
  refine c_reg ?_
  refine s_move (v := .slice A l.length c) (ev_t rfl rfl) (w0 rfl) ?_
  refine s_lenL F_l44 (ev_t rfl rfl) (w0 rfl) ?_
  refine s_move (v := .int .i64 0) ev_c (w0 rfl) ?_
  refine c_done ?_
  refine n_then ?_
  refine c_block ?_
  refine c_loop (α := Nat) (fun (i : Nat) env_ w_ => Ext w w_ ∧ (∀ j y, j < i → l[j]? = some y → (!tmB y) = false) ∧ env_ 0 = .slice A l.length c ∧ env_ 1 = .func (.func 83) #[] #[] ∧ env_ 7 = .int .i64 (l.length : Int) ∧ env_ 8 = .int .i64 ((i : Nat) : Int)) (fun i => l.length - i) (0) ⟨Ext.refl _, (fun j y h => absurd h (Nat.not_lt_zero j)), rfl, rfl, rfl, rfl⟩ ?_
  rintro i env3 w1 ⟨x2, i4, e5, e6, e7, e8⟩
  refine c_seq ?_
  refine c_reg ?_
  refine s_cmp (r := decide (((i : Nat) : Int) < (l.length : Int))) (ev_t rfl e8) (ev_t rfl e7) rfl (w0 rfl) ?_
  refine c_done ?_
  refine n_then ?_
  refine c_seq ?_
  by_cases h9 : ((i : Nat) : Int) < (l.length : Int)
  · refine c_cond1 (vb (ev_t rfl rfl) (decide_eq_true h9)) ?_
    refine c_skip ?_
    refine n_then ?_
    refine c_seq ?_
    refine c_block ?_
    refine c_seq ?_
    refine c_reg ?_
    refine s_move (v := .int .i64 ((i : Nat) : Int)) (ev_t rfl e8) (w0 rfl) ?_
    refine s_assign (v := .int .i64 ((i : Nat) : Int)) (ev_t rfl rfl) (w0 rfl) ?_
    refine c_done ?_
    refine n_then ?_
    refine c_seq ?_
    refine c_reg ?_
    refine s_move (v := .func (.func 83) #[] #[]) (ev_t rfl e6) (w0 rfl) ?_
    refine s_move (v := .slice A l.length c) (ev_t rfl e5) (w0 rfl) ?_
    refine s_move (v := .int .i64 ((i : Nat) : Int)) (ev_t rfl rfl) (w0 rfl) ?_
    obtain ⟨b10, o11, x12, csx12, hA13, hx14, hR15, hc16⟩ := Row.at_ hr i (by omega)
    obtain rfl := tmAt_of hx14
    obtain ⟨rfl, wf17⟩ := hR15
    refine s_indexR (j := i) F_l44 (ev_t rfl rfl) hA13 (ev_t rfl rfl) rfl (by omega) (w0 rfl) ?_
    refine s_loadL (cs := [.string ((tmAt l i).v), .int .i8 ((tmAt l i).l.k), .int .i64 ((tmAt l i).l.n), .string ((tmAt l i).l.s)]) (ca := #[.string ((tmAt l i).v), .int .i8 ((tmAt l i).l.k), .int .i64 ((tmAt l i).l.n), .string ((tmAt l i).l.s)]) F_m28 (ev_t rfl rfl) rfl rfl (sub_cells (cells_ext x2 hc16) 0 (cs2 := [.string ((tmAt l i).v), .int .i8 ((tmAt l i).l.k), .int .i64 ((tmAt l i).l.n), .string ((tmAt l i).l.s)]) rfl) (w0 rfl) ?_
    refine s_call F_e83 (w0 rfl) (ev_t rfl rfl) (m1 (ev_t rfl rfl)) (args := #[.agg #[.string ((tmAt l i).v), .int .i8 ((tmAt l i).l.k), .int .i64 ((tmAt l i).l.n), .string ((tmAt l i).l.s)]]) rfl (t_CheckAtom1 (tmAt l i) _ wf17) ?_
    rintro _ w19 ⟨rfl, x18⟩
    refine c_done ?_
    refine n_then ?_
    rcases Bool.eq_false_or_eq_true (!tmB (tmAt l i)) with h20 | h20
    · refine c_cond1 (vb (ev_t rfl rfl) h20) ?_
      refine c_seq ?_
      refine c_reg ?_
      refine s_move (v := .int .i64 ((i : Nat) : Int)) (ev_t rfl rfl) (w0 rfl) ?_
      refine s_assign (v := .int .i64 ((i : Nat) : Int)) (ev_t rfl rfl) (w0 rfl) ?_
      refine c_done ?_
      refine n_then ?_
      refine c_ret ?_
      refine r_block ?_
      refine r_then ?_
      refine r_then ?_
      refine r_block ?_
      refine r_then ?_
      refine ret1 (v := .int .i64 ((i : Nat) : Int)) rfl rfl rfl ?_
      refine ⟨_, rfl, ?_, (Ext.trans x2 x18)⟩
      (refine congrArg (Value.int .i64) (Eq.symm (posB_at i4 (tmAt_there (l := l) (j := i) (by omega)) (by simp [*]))))
    · refine c_cond0 (vb (ev_t rfl rfl) h20) ?_
      refine c_skip ?_
      refine n_block ?_
      refine n_then ?_
      refine c_reg ?_
      refine s_add (r := ((i + 1 : Nat) : Int)) (ev_t rfl e8) ev_c (by omega) (by omega) (w0 rfl) ?_
      refine s_move (v := .int .i64 ((i + 1 : Nat) : Int)) (ev_t rfl rfl) (w0 rfl) ?_
      refine c_done ?_
      exact ⟨(i + 1), _, rfl, ⟨(Ext.trans x2 x18), (kids_stepF (p := fun y => !tmB y) i4 (tmAt_there (by omega)) (by assumption)), e5, e6, e7, rfl⟩, (show l.length - (i + 1) < l.length - i by omega)⟩
  · refine c_cond0 (vb (ev_t rfl rfl) (decide_eq_false h9)) ?_
    refine c_exit ?_
    refine e_then ?_
    refine e_then ?_
    refine e_hit ?_
    refine n_then ?_
    refine c_seq ?_
    refine c_reg ?_
    refine s_assign (v := .int .i64 (-1)) ev_c (w0 rfl) ?_
    refine c_done ?_
    refine n_then ?_
    refine c_ret ?_
    refine ret1 (v := .int .i64 (-1)) rfl rfl rfl ?_
    refine ⟨_, rfl, ?_, x2⟩
    (refine congrArg (Value.int .i64) (Eq.symm (posB_none (by assumption) i4)))
set_option maxHeartbeats 4000000 in
theorem s_ContainsFuncT (l : List Tm) (A : Option Addr) (c : Nat) (w : World) (hl : l.length ≤ 140737488351232) (hr : Row RT 4 w A l) :
    Rt Tryd.prog 82 #[.slice A l.length c, .func (.func 83) #[] #[]] w fun v w' => v = .bool (decide (0 ≤ posB (fun y => !tmB y) l)) ∧ Ext w w' := by
  refine enter Tryd.func82 rfl (l := [.slice A l.length c, .func (.func 83) #[] #[]]) rfl Tryd.ntmps82 (Nat.le_of_ble_eq_true rfl) ?_
  refine c_seq ?_
  refine c_reg ?_
  refine s_assign (v := .bool false) ev_c (w0 rfl) ?_
  refine c_done ?_
  refine n_then ?_
  refine c_seq ?_
  refine c_reg ?_
  refine s_move (v := .slice A l.length c) (ev_t rfl rfl) (w0 rfl) ?_
  refine s_move (v := .func (.func 83) #[] #[]) (ev_t rfl rfl) (w0 rfl) ?_
  refine s_call F_e108 (w0 rfl) ev_f (m2 (ev_t rfl rfl) (ev_t rfl rfl)) (args := #[.slice A l.length c, .func (.func 83) #[] #[]]) rfl (s_IndexFuncT l A c _ (by omega) hr) ?_
  rintro _ w2 ⟨rfl, x1⟩
  refine s_cmp (r := decide (0 ≤ posB (fun y => !tmB y) l)) (ev_t rfl rfl) ev_c rfl (w0 rfl) ?_
  refine s_assign (v := .bool (decide (0 ≤ posB (fun y => !tmB y) l))) (ev_t rfl rfl) (w0 rfl) ?_
  refine c_done ?_
  refine n_then ?_
  refine c_ret ?_
  refine ret1 (v := .bool (decide (0 ≤ posB (fun y => !tmB y) l))) rfl rfl rfl ?_
  refine ⟨_, rfl, ?_, x1⟩
  rfl
set_option maxHeartbeats 4000000 in
theorem t_CheckAtom (x : At) (A : Option Addr) (c : Nat) (w : World) (ho : x.okc c) (hr : Row RT 4 w A x.args) :
    Rt Tryd.prog 55 #[.agg #[.string x.p, .slice A x.args.length c]] w fun v w' => v = .int .i64 (code (atB x)) ∧ Ext w w' := by
  refine enter Tryd.func55 rfl (l := [.agg #[.string x.p, .slice A x.args.length c]]) rfl Tryd.ntmps55 (Nat.le_of_ble_eq_true rfl) ?_
  have hl_ := At.okc.l ho
  have hc_ := At.okc.c ho
  have hp_ := At.okc.p ho
  refine c_seq ?_
  refine c_reg ?_
  refine s_box (v := .agg #[.string x.p, .slice A x.args.length c]) (cs := #[.string x.p, .slice A x.args.length c]) (w0 rfl) (ev_t rfl rfl) rfl ?_
  intro w2 g1 n3
  refine s_assign (v := .int .i64 0) ev_c (w0 rfl) ?_
  refine c_done ?_
  refine n_then ?_
  refine c_seq ?_
  refine c_reg ?_
  refine s_field (off := 0) (o' := 0) F_f46_0 (ev_t rfl rfl) rfl (w0 rfl) ?_
  refine s_load (v := .string x.p) F_o9 (ev_t rfl rfl) (cell_of_blk (i := 0) (NewB.blk n3) rfl) (w0 rfl) ?_
  refine s_call F_e62 (w0 rfl) ev_f (m1 (ev_t rfl rfl)) (args := #[.string x.p]) rfl (t_name x.p _ (by omega)) ?_
  rintro _ w5 ⟨rfl, x4⟩
  rcases Bool.eq_false_or_eq_true (nameB x.p) with h6 | h6
  · refine s_move (v := .bool true) (vb (ev_t rfl rfl) h6) (w0 rfl) ?_
    refine s_field (off := 1) (o' := 1) F_f46_1 (ev_t rfl rfl) rfl (wy rfl rfl rfl rfl) ?_
    refine s_load (v := .slice A x.args.length c) F_o44 (ev_t rfl rfl) (cell_of_blk (i := 1) (Ext.blk x4 (NewB.blk n3)) rfl) (wy rfl rfl rfl rfl) ?_
    refine s_lenL F_l44 (ev_t rfl rfl) (wy rfl rfl rfl rfl) ?_
    refine s_cmp (r := decide ((x.args.length : Int) ≤ 24)) (ev_t rfl rfl) ev_c rfl (wy rfl rfl rfl rfl) ?_
    refine s_pick1 (v := .bool (decide ((x.args.length : Int) ≤ 24))) (ev_t rfl rfl) (ev_t rfl rfl) (w0 rfl) ?_
    by_cases h7 : (x.args.length : Int) ≤ 24
    · refine s_move (v := .bool true) (vb (ev_t rfl rfl) (decide_eq_true h7)) (w0 rfl) ?_
      refine s_field (off := 1) (o' := 1) F_f46_1 (ev_t rfl rfl) rfl (wy rfl rfl rfl rfl) ?_
      refine s_load (v := .slice A x.args.length c) F_o44 (ev_t rfl rfl) (cell_of_blk (i := 1) (Ext.blk x4 (NewB.blk n3)) rfl) (wy rfl rfl rfl rfl) ?_
      refine s_call F_e82 (wy rfl rfl rfl rfl) ev_f (m2 (ev_t rfl rfl) ev_f) (args := #[.slice A x.args.length c, .func (.func 83) #[] #[]]) rfl (s_ContainsFuncT x.args A c _ (by omega) (Row.extT (Row.extT hr (NewB.ext n3)) x4)) ?_
      rintro _ w9 ⟨rfl, x8⟩
      refine s_not (b := decide (0 ≤ posB (fun y => !tmB y) x.args)) (ev_t rfl rfl) (wy rfl rfl rfl rfl) ?_
      refine s_pick1 (v := .bool (!(decide (0 ≤ posB (fun y => !tmB y) x.args)))) (ev_t rfl rfl) (ev_t rfl rfl) (w0 rfl) ?_
      refine s_call F_e50 (w0 rfl) ev_f (m1 (ev_t rfl rfl)) (args := #[.bool (!(decide (0 ≤ posB (fun y => !tmB y) x.args)))]) rfl (t_code (!(decide (0 ≤ posB (fun y => !tmB y) x.args))) _) ?_
      rintro _ w11 ⟨rfl, x10⟩
      refine s_assign (v := .int .i64 (code (!(decide (0 ≤ posB (fun y => !tmB y) x.args))))) (ev_t rfl rfl) (w0 rfl) ?_
      refine c_done ?_
      refine n_then ?_
      refine c_ret ?_
      refine ret1 (v := .int .i64 (code (!(decide (0 ≤ posB (fun y => !tmB y) x.args))))) rfl rfl rfl ?_
      refine ⟨_, rfl, ?_, (Ext.trans (Ext.trans (Ext.trans (NewB.ext n3) x4) x8) x10)⟩
      (refine congrArg (Value.int .i64) (congrArg code ?_); unfold atB; try rw [← posB_all]; simp only [*, decide_true, decide_false, if_true, if_false, Bool.and_true, Bool.true_and, Bool.false_and, Bool.and_false, Bool.not_true, Bool.not_false, Bool.false_eq_true, reduceIte, not_true_eq_false, not_false_eq_true])
    · refine s_move (v := .bool false) (vb (ev_t rfl rfl) (decide_eq_false h7)) (w0 rfl) ?_
      refine s_skip (wn rfl rfl rfl rfl rfl) ?_
      refine s_skip (wn rfl rfl rfl rfl rfl) ?_
      refine s_skip (wn rfl rfl rfl rfl rfl) ?_
      refine s_skip (wn rfl rfl rfl rfl rfl) ?_
      refine s_pick0 (v := .bool false) (ev_t rfl rfl) ev_c (w0 rfl) ?_
      refine s_call F_e50 (w0 rfl) ev_f (m1 (ev_t rfl rfl)) (args := #[.bool false]) rfl (t_code false _) ?_
      rintro _ w13 ⟨rfl, x12⟩
      refine s_assign (v := .int .i64 (code false)) (ev_t rfl rfl) (w0 rfl) ?_
      refine c_done ?_
      refine n_then ?_
      refine c_ret ?_
      refine ret1 (v := .int .i64 (code false)) rfl rfl rfl ?_
      refine ⟨_, rfl, ?_, (Ext.trans (Ext.trans (NewB.ext n3) x4) x12)⟩
      (refine congrArg (Value.int .i64) (congrArg code ?_); unfold atB; try rw [← posB_all]; simp only [*, decide_true, decide_false, if_true, if_false, Bool.and_true, Bool.true_and, Bool.false_and, Bool.and_false, Bool.not_true, Bool.not_false, Bool.false_eq_true, reduceIte, not_true_eq_false, not_false_eq_true])
  · refine s_move (v := .bool false) (vb (ev_t rfl rfl) h6) (w0 rfl) ?_
    refine s_skip (wn rfl rfl rfl rfl rfl) ?_
    refine s_skip (wn rfl rfl rfl rfl rfl) ?_
    refine s_skip (wn rfl rfl rfl rfl rfl) ?_
    refine s_skip (wn rfl rfl rfl rfl rfl) ?_
    refine s_pick0 (v := .bool false) (ev_t rfl rfl) ev_c (w0 rfl) ?_
    refine s_move (v := .bool false) (ev_t rfl rfl) (w0 rfl) ?_
    refine s_skip (wn rfl rfl rfl rfl rfl) ?_
    refine s_skip (wn rfl rfl rfl rfl rfl) ?_
    refine s_skip (wn rfl rfl rfl rfl rfl) ?_
    refine s_skip (wn rfl rfl rfl rfl rfl) ?_
    refine s_pick0 (v := .bool false) (ev_t rfl rfl) ev_c (w0 rfl) ?_
    refine s_call F_e50 (w0 rfl) ev_f (m1 (ev_t rfl rfl)) (args := #[.bool false]) rfl (t_code false _) ?_
    rintro _ w15 ⟨rfl, x14⟩
    refine s_assign (v := .int .i64 (code false)) (ev_t rfl rfl) (w0 rfl) ?_
    refine c_done ?_
    refine n_then ?_
    refine c_ret ?_
    refine ret1 (v := .int .i64 (code false)) rfl rfl rfl ?_
    refine ⟨_, rfl, ?_, (Ext.trans (Ext.trans (NewB.ext n3) x4) x14)⟩
    (refine congrArg (Value.int .i64) (congrArg code ?_); unfold atB; try rw [← posB_all]; simp only [*, decide_true, decide_false, if_true, if_false, Bool.and_true, Bool.true_and, Bool.false_and, Bool.and_false, Bool.not_true, Bool.not_false, Bool.false_eq_true, reduceIte, not_true_eq_false, not_false_eq_true])
end Go.Proofs.Dw
