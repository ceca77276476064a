/- YtjjkfbjidpolmaaGreatDoorPD: part of the proof of this seat, by an AI agent: walks of the functions that the law reaches; walks of the functions that the law reaches; walks of the functions that the law reaches. No condition of its own but those that its theorems state. -/
import Derived.Test.YtjjkfbjidpolmaaGreatDoorPC
import Derived.Maps.Own
import Derived.Maps.Views
set_option maxHeartbeats 4000000
set_option linter.unusedVariables false
set_option linter.unusedSimpArgs false
set_option maxRecDepth 10000
namespace Go.Proofs.Zw
open Go Go.Wk Go.Proofs Go.Lib
attribute [local irreducible] Go.wpList Go.wpStill Go.wpQuiet Go.Code.wp Go.Calls
theorem F_e107 : enterable Tryz.prog 107 = true := by kernel_rfl
theorem F_e72 : enterable Tryz.prog 72 = true := by kernel_rfl
theorem F_e75 : enterable Tryz.prog 75 = true := by kernel_rfl
theorem F_f38_0 : fieldAt Tryz.prog 38 0 0 = true := by kernel_rfl
theorem F_f38_1 : fieldAt Tryz.prog 38 1 1 = true := by kernel_rfl
theorem F_f38_2 : fieldAt Tryz.prog 38 2 3 = true := by kernel_rfl
theorem F_f38_3 : fieldAt Tryz.prog 38 3 4 = true := by kernel_rfl
theorem F_f38_4 : fieldAt Tryz.prog 38 4 10 = true := by kernel_rfl
theorem F_m38 : many Tryz.prog 38 16 = true := by kernel_rfl
theorem F_o26 : one Tryz.prog 26 = true := by kernel_rfl
theorem F_o27 : one Tryz.prog 27 = true := by kernel_rfl
theorem r4_nothing (x : Ex) (A : Option Addr) (c : Nat) (w : World) (ho : x.okc c) (hr : Row RE 6 w A x.kids) :
    Rt Tryz.prog 107 #[.agg #[.int .i8 x.op,.string x.t.v,.int .i8 x.t.l.k,.int .i64 x.t.l.n,.string x.t.l.s,.slice A x.kids.length c]] w fun v w' => v = .bool (noE x) ∧ Ext w w' := by
  refine enter Tryz.func107 rfl (l := [.agg #[.int .i8 x.op,.string x.t.v,.int .i8 x.t.l.k,.int .i64 x.t.l.n,.string x.t.l.s,.slice A x.kids.length c]]) rfl Tryz.ntmps107 (Nat.le_of_ble_eq_true rfl) ?_
  have hl_ := Ex.okc.l ho
  have hc_ := Ex.okc.c ho
  refine c_seq (c_reg (s_box (v := .agg #[.int .i8 x.op,.string x.t.v,.int .i8 x.t.l.k,.int .i64 x.t.l.n,.string x.t.l.s,.slice A x.kids.length c]) (cs := #[.int .i8 x.op,.string x.t.v,.int .i8 x.t.l.k,.int .i64 x.t.l.n,.string x.t.l.s,.slice A x.kids.length c]) (w0 rfl) (ej rfl rfl) rfl ?_))
  intro w2 g1 n3
  refine s_assign (v := .bool false) ev_c (w0 rfl) (c_done (n_then (c_seq (c_reg (s_build (v := .agg #[.string (⟨#[]⟩ : ByteArray),.int .i8 0,.int .i64 0,.string (⟨#[]⟩ : ByteArray)]) (vs := []) b0 (bd33) (w0 rfl) (s_alloc (cs := #[.string (⟨#[]⟩ : ByteArray),.int .i8 0,.int .i64 0,.string (⟨#[]⟩ : ByteArray)]) (w0 rfl) F_z33 rfl ?_))))))
  intro w5 g4 n6
  refine s_store (cs' := #[.string (⟨#[]⟩ : ByteArray),.int .i8 0,.int .i64 0,.string (⟨#[]⟩ : ByteArray)]) F_sz33 (ej rfl rfl) (ej rfl rfl) (l := [.string (⟨#[]⟩ : ByteArray),.int .i8 0,.int .i64 0,.string (⟨#[]⟩ : ByteArray)]) rfl rfl rfl (NewB.blk n6) (Nat.le_of_ble_eq_true rfl) rfl (w0 rfl) ?_
  intro w7 k8
  refine c_done (n_then (c_seq (c_reg (s_field (off := 0) (o' := 0) F_f36_0 (ej rfl rfl) rfl (w0 rfl) (s_load (v := .int .i8 x.op) F_o28 (ej rfl rfl) (cell_of_blk (i := 0) (Ext.blk (Keep.then_ (NewB.ext n6) (Wrote.keep k8) (fun i_ hi_ h_ => by have a_ := NewB.eq n6; have b_ := Keep.size (Ext.refl w2); omega)) (NewB.blk n3)) rfl) (w0 rfl) (s_cmp (r := decide (x.op = 0)) (ej rfl rfl) ev_c rfl (w0 rfl) ?_))))))
  by_cases h9 : x.op = 0
  · refine s_move (v := .bool true) (vb (ej rfl rfl) (decide_eq_true h9)) (w0 rfl) (s_field (off := 1) (o' := 1) F_f36_1 (ej rfl rfl) rfl (wy rfl rfl rfl rfl) (s_loadL (cs := [.string x.t.v,.int .i8 x.t.l.k,.int .i64 x.t.l.n,.string x.t.l.s]) F_m33 (ej rfl rfl) rfl rfl (blk_cells (Ext.blk (Keep.then_ (NewB.ext n6) (Wrote.keep k8) (fun i_ hi_ h_ => by have a_ := NewB.eq n6; have b_ := Keep.size (Ext.refl w2); omega)) (NewB.blk n3)) 1 rfl) (wy rfl rfl rfl rfl) (s_loadL (cs := [.string (⟨#[]⟩ : ByteArray),.int .i8 0,.int .i64 0,.string (⟨#[]⟩ : ByteArray)]) F_m33 (ej rfl rfl) rfl rfl (blk_cells (Wrote.blk k8) 0 rfl) (wy rfl rfl rfl rfl) (s_cmpG (r := zT x.t) (ej rfl rfl) (ej rfl rfl) ((fun w_ => eqzT33eql x.t _ _ w_)) (wy rfl rfl rfl rfl) (s_pick1 (v := .bool (zT x.t)) (ej rfl rfl) (ej rfl rfl) (w0 rfl) ?_)))))
    rcases Bool.eq_false_or_eq_true (zT x.t) with h10 | h10
    · refine s_move (v := .bool true) (vb (ej rfl rfl) h10) (w0 rfl) (s_field (off := 5) (o' := 5) F_f36_2 (ej rfl rfl) rfl (wy rfl rfl rfl rfl) (s_load (v := .slice A x.kids.length c) F_o34 (ej rfl rfl) (cell_of_blk (i := 5) (Ext.blk (Keep.then_ (NewB.ext n6) (Wrote.keep k8) (fun i_ hi_ h_ => by have a_ := NewB.eq n6; have b_ := Keep.size (Ext.refl w2); omega)) (NewB.blk n3)) rfl) (wy rfl rfl rfl rfl) (s_lenL F_l34 (ej rfl rfl) (wy rfl rfl rfl rfl) (s_cmp (r := decide ((x.kids.length : Int) = 0)) (ej rfl rfl) ev_c rfl (wy rfl rfl rfl rfl) (s_pick1 (v := .bool (decide ((x.kids.length : Int) = 0))) (ej rfl rfl) (ej rfl rfl) (w0 rfl) (s_assign (v := .bool (decide ((x.kids.length : Int) = 0))) (ej rfl rfl) (w0 rfl) (c_done (n_then (c_ret (ret1 (v := .bool (decide ((x.kids.length : Int) = 0))) rfl rfl rfl ?_))))))))))
      refine ⟨_,rfl,?_,(Keep.then_ (Ext.trans (NewB.ext n3) (NewB.ext n6)) (Wrote.keep k8) (fun i_ hi_ h_ => by have a_ := NewB.eq n6; have b_ := Keep.size (NewB.ext n3); omega))⟩
      (refine congrArg Value.bool ?_; unfold noE; simp only [*,decide_true,decide_false,if_true,if_false,Bool.and_true,Bool.true_and,Bool.false_and,Bool.and_false,Bool.not_true,Bool.not_false,Bool.false_eq_true,reduceIte,not_true_eq_false,not_false_eq_true])
    refine s_move (v := .bool false) (vb (ej rfl rfl) h10) (w0 rfl) (s_skip (wn rfl rfl rfl rfl rfl) (s_skip (wn rfl rfl rfl rfl rfl) (s_skip (wn rfl rfl rfl rfl rfl) (s_skip (wn rfl rfl rfl rfl rfl) (s_pick0 (v := .bool false) (ej rfl rfl) ev_c (w0 rfl) (s_assign (v := .bool false) (ej rfl rfl) (w0 rfl) (c_done (n_then (c_ret (ret1 (v := .bool false) rfl rfl rfl ?_))))))))))
    refine ⟨_,rfl,?_,(Keep.then_ (Ext.trans (NewB.ext n3) (NewB.ext n6)) (Wrote.keep k8) (fun i_ hi_ h_ => by have a_ := NewB.eq n6; have b_ := Keep.size (NewB.ext n3); omega))⟩
    (refine congrArg Value.bool ?_; unfold noE; simp only [*,decide_true,decide_false,if_true,if_false,Bool.and_true,Bool.true_and,Bool.false_and,Bool.and_false,Bool.not_true,Bool.not_false,Bool.false_eq_true,reduceIte,not_true_eq_false,not_false_eq_true])
  refine s_move (v := .bool false) (vb (ej rfl rfl) (decide_eq_false h9)) (w0 rfl) (s_skip (wn rfl rfl rfl rfl rfl) (s_skip (wn rfl rfl rfl rfl rfl) (s_skip (wn rfl rfl rfl rfl rfl) (s_skip (wn rfl rfl rfl rfl rfl) (s_pick0 (v := .bool false) (ej rfl rfl) ev_c (w0 rfl) (s_move (v := .bool false) (ej rfl rfl) (w0 rfl) (s_skip (wn rfl rfl rfl rfl rfl) (s_skip (wn rfl rfl rfl rfl rfl) (s_skip (wn rfl rfl rfl rfl rfl) (s_skip (wn rfl rfl rfl rfl rfl) (s_pick0 (v := .bool false) (ej rfl rfl) ev_c (w0 rfl) ?_)))))))))))
  refine s_assign (v := .bool false) (ej rfl rfl) (w0 rfl) (c_done (n_then (c_ret (ret1 (v := .bool false) rfl rfl rfl ?_))))
  refine ⟨_,rfl,?_,(Keep.then_ (Ext.trans (NewB.ext n3) (NewB.ext n6)) (Wrote.keep k8) (fun i_ hi_ h_ => by have a_ := NewB.eq n6; have b_ := Keep.size (NewB.ext n3); omega))⟩
  (refine congrArg Value.bool ?_; unfold noE; simp only [*,decide_true,decide_false,if_true,if_false,Bool.and_true,Bool.true_and,Bool.false_and,Bool.and_false,Bool.not_true,Bool.not_false,Bool.false_eq_true,reduceIte,not_true_eq_false,not_false_eq_true])
theorem r4_literal (x : Lt) (Aa A1 A2 : Option Addr) (ca c1 c2 : Nat) (w : World) (ho : x.okc ca c1 c2) (hra : Row RT 4 w Aa x.a.args) (hr1 : Row RE 6 w A1 x.e1.kids) (hr2 : Row RE 6 w A2 x.e2.kids) :
    Rt Tryz.prog 72 #[.agg #[.int .i8 x.k,.string x.a.p,.slice Aa x.a.args.length ca,.int .i8 x.r,.int .i8 x.e1.op,.string x.e1.t.v,.int .i8 x.e1.t.l.k,.int .i64 x.e1.t.l.n,.string x.e1.t.l.s,.slice A1 x.e1.kids.length c1,.int .i8 x.e2.op,.string x.e2.t.v,.int .i8 x.e2.t.l.k,.int .i64 x.e2.t.l.n,.string x.e2.t.l.s,.slice A2 x.e2.kids.length c2]] w fun v w' => v = .bool (ltB x) ∧ Ext w w' := by
  refine enter Tryz.func72 rfl (l := [.agg #[.int .i8 x.k,.string x.a.p,.slice Aa x.a.args.length ca,.int .i8 x.r,.int .i8 x.e1.op,.string x.e1.t.v,.int .i8 x.e1.t.l.k,.int .i64 x.e1.t.l.n,.string x.e1.t.l.s,.slice A1 x.e1.kids.length c1,.int .i8 x.e2.op,.string x.e2.t.v,.int .i8 x.e2.t.l.k,.int .i64 x.e2.t.l.n,.string x.e2.t.l.s,.slice A2 x.e2.kids.length c2]]) rfl Tryz.ntmps72 (Nat.le_of_ble_eq_true rfl) ?_
  have hoa_ := Lt.okc.a ho
  have ho1_ := Lt.okc.e1 ho
  have ho2_ := Lt.okc.e2 ho
  have hl1_ := Ex.okc.l ho1_
  have hl2_ := Ex.okc.l ho2_
  have hc1_ := Ex.okc.c ho1_
  have hc2_ := Ex.okc.c ho2_
  have hla_ := At.okc.l hoa_
  have hca_ := At.okc.c hoa_
  have hpa_ := At.okc.p hoa_
  refine c_seq (c_reg (s_box (v := .agg #[.int .i8 x.k,.string x.a.p,.slice Aa x.a.args.length ca,.int .i8 x.r,.int .i8 x.e1.op,.string x.e1.t.v,.int .i8 x.e1.t.l.k,.int .i64 x.e1.t.l.n,.string x.e1.t.l.s,.slice A1 x.e1.kids.length c1,.int .i8 x.e2.op,.string x.e2.t.v,.int .i8 x.e2.t.l.k,.int .i64 x.e2.t.l.n,.string x.e2.t.l.s,.slice A2 x.e2.kids.length c2]) (cs := #[.int .i8 x.k,.string x.a.p,.slice Aa x.a.args.length ca,.int .i8 x.r,.int .i8 x.e1.op,.string x.e1.t.v,.int .i8 x.e1.t.l.k,.int .i64 x.e1.t.l.n,.string x.e1.t.l.s,.slice A1 x.e1.kids.length c1,.int .i8 x.e2.op,.string x.e2.t.v,.int .i8 x.e2.t.l.k,.int .i64 x.e2.t.l.n,.string x.e2.t.l.s,.slice A2 x.e2.kids.length c2]) (w0 rfl) (ej rfl rfl) rfl ?_))
  intro w2 g1 n3
  refine s_assign (v := .bool false) ev_c (w0 rfl) (c_done (n_then (c_seq (c_seq (c_reg (s_field (off := 0) (o' := 0) F_f38_0 (ej rfl rfl) rfl (w0 rfl) (s_load (v := .int .i8 x.k) F_o26 (ej rfl rfl) (cell_of_blk (i := 0) (NewB.blk n3) rfl) (w0 rfl) (c_done (n_then (c_block (c_seq ?_)))))))))))
  refine c_seq (c_reg (s_cmp (r := decide (x.k = 1)) (ej rfl rfl) ev_c rfl (w0 rfl) (s_assign (v := .bool (decide (x.k = 1))) (ej rfl rfl) (w0 rfl) (c_done (n_then ?_)))))
  by_cases h4 : x.k = 1
  · refine c_cond1 (vb (ej rfl rfl) (decide_eq_true h4)) (c_skip (n_then (c_cond1 (vb (ej rfl rfl) (decide_eq_true h4)) (c_seq (c_reg (s_field (off := 1) (o' := 1) F_f38_1 (ej rfl rfl) rfl (w0 rfl) (s_loadL (cs := [.string x.a.p,.slice Aa x.a.args.length ca]) F_m24 (ej rfl rfl) rfl rfl (blk_cells (NewB.blk n3) 1 rfl) (w0 rfl) (s_call F_e61 (w0 rfl) ev_f (m1 (ej rfl rfl)) (args := #[.agg #[.string x.a.p,.slice Aa x.a.args.length ca]]) rfl (r4_atom x.a Aa ca _ hoa_ (Row.extT hra (NewB.ext n3))) ?_))))))))
    rintro _ w6 ⟨rfl,x5⟩
    rcases Bool.eq_false_or_eq_true (atB x.a) with h7 | h7
    · refine s_move (v := .bool true) (vb (ej rfl rfl) h7) (w0 rfl) (s_field (off := 3) (o' := 3) F_f38_2 (ej rfl rfl) rfl (wy rfl rfl rfl rfl) (s_load (v := .int .i8 x.r) F_o27 (ej rfl rfl) (cell_of_blk (i := 3) (Ext.blk x5 (NewB.blk n3)) rfl) (wy rfl rfl rfl rfl) (s_cmp (r := decide (x.r = 0)) (ej rfl rfl) ev_c rfl (wy rfl rfl rfl rfl) (s_pick1 (v := .bool (decide (x.r = 0))) (ej rfl rfl) (ej rfl rfl) (w0 rfl) ?_))))
      by_cases h8 : x.r = 0
      · refine s_move (v := .bool true) (vb (ej rfl rfl) (decide_eq_true h8)) (w0 rfl) (s_field (off := 4) (o' := 4) F_f38_3 (ej rfl rfl) rfl (wy rfl rfl rfl rfl) (s_loadL (cs := [.int .i8 x.e1.op,.string x.e1.t.v,.int .i8 x.e1.t.l.k,.int .i64 x.e1.t.l.n,.string x.e1.t.l.s,.slice A1 x.e1.kids.length c1]) F_m36 (ej rfl rfl) rfl rfl (blk_cells (Ext.blk x5 (NewB.blk n3)) 4 rfl) (wy rfl rfl rfl rfl) (s_call F_e107 (wy rfl rfl rfl rfl) ev_f (m1 (ej rfl rfl)) (args := #[.agg #[.int .i8 x.e1.op,.string x.e1.t.v,.int .i8 x.e1.t.l.k,.int .i64 x.e1.t.l.n,.string x.e1.t.l.s,.slice A1 x.e1.kids.length c1]]) rfl (r4_nothing x.e1 A1 c1 _ ho1_ (Row.extE (Row.extE hr1 (NewB.ext n3)) x5)) ?_)))
        rintro _ w10 ⟨rfl,x9⟩
        refine s_pick1 (v := .bool (noE x.e1)) (ej rfl rfl) (ej rfl rfl) (w0 rfl) ?_
        rcases Bool.eq_false_or_eq_true (noE x.e1) with h11 | h11
        · refine s_move (v := .bool true) (vb (ej rfl rfl) h11) (w0 rfl) (s_field (off := 10) (o' := 10) F_f38_4 (ej rfl rfl) rfl (wy rfl rfl rfl rfl) (s_loadL (cs := [.int .i8 x.e2.op,.string x.e2.t.v,.int .i8 x.e2.t.l.k,.int .i64 x.e2.t.l.n,.string x.e2.t.l.s,.slice A2 x.e2.kids.length c2]) F_m36 (ej rfl rfl) rfl rfl (blk_cells (Ext.blk x9 (Ext.blk x5 (NewB.blk n3))) 10 rfl) (wy rfl rfl rfl rfl) (s_call F_e107 (wy rfl rfl rfl rfl) ev_f (m1 (ej rfl rfl)) (args := #[.agg #[.int .i8 x.e2.op,.string x.e2.t.v,.int .i8 x.e2.t.l.k,.int .i64 x.e2.t.l.n,.string x.e2.t.l.s,.slice A2 x.e2.kids.length c2]]) rfl (r4_nothing x.e2 A2 c2 _ ho2_ (Row.extE (Row.extE (Row.extE hr2 (NewB.ext n3)) x5) x9)) ?_)))
          rintro _ w13 ⟨rfl,x12⟩
          refine s_pick1 (v := .bool (noE x.e2)) (ej rfl rfl) (ej rfl rfl) (w0 rfl) (s_assign (v := .bool (noE x.e2)) (ej rfl rfl) (w0 rfl) (c_done (n_then (c_ret (r_block (r_then (ret1 (v := .bool (noE x.e2)) rfl rfl rfl ?_)))))))
          refine ⟨_,rfl,?_,(Ext.trans (Ext.trans (Ext.trans (NewB.ext n3) x5) x9) x12)⟩
          (refine congrArg Value.bool ?_; unfold ltB; (rw [if_pos (by omega)]; simp only [*,decide_true,decide_false,if_true,if_false,Bool.and_true,Bool.true_and,Bool.false_and,Bool.and_false,Bool.not_true,Bool.not_false,Bool.false_eq_true,reduceIte,not_true_eq_false,not_false_eq_true]; done))
        refine s_move (v := .bool false) (vb (ej rfl rfl) h11) (w0 rfl) (s_skip (wn rfl rfl rfl rfl rfl) (s_skip (wn rfl rfl rfl rfl rfl) (s_skip (wn rfl rfl rfl rfl rfl) (s_pick0 (v := .bool false) (ej rfl rfl) ev_c (w0 rfl) (s_assign (v := .bool false) (ej rfl rfl) (w0 rfl) (c_done (n_then (c_ret (r_block (r_then (ret1 (v := .bool false) rfl rfl rfl ?_)))))))))))
        refine ⟨_,rfl,?_,(Ext.trans (Ext.trans (NewB.ext n3) x5) x9)⟩
        (refine congrArg Value.bool ?_; unfold ltB; (rw [if_pos (by omega)]; simp only [*,decide_true,decide_false,if_true,if_false,Bool.and_true,Bool.true_and,Bool.false_and,Bool.and_false,Bool.not_true,Bool.not_false,Bool.false_eq_true,reduceIte,not_true_eq_false,not_false_eq_true]; done))
      refine s_move (v := .bool false) (vb (ej rfl rfl) (decide_eq_false h8)) (w0 rfl) (s_skip (wn rfl rfl rfl rfl rfl) (s_skip (wn rfl rfl rfl rfl rfl) (s_skip (wn rfl rfl rfl rfl rfl) (s_pick0 (v := .bool false) (ej rfl rfl) ev_c (w0 rfl) (s_move (v := .bool false) (ej rfl rfl) (w0 rfl) (s_skip (wn rfl rfl rfl rfl rfl) (s_skip (wn rfl rfl rfl rfl rfl) (s_skip (wn rfl rfl rfl rfl rfl) (s_pick0 (v := .bool false) (ej rfl rfl) ev_c (w0 rfl) (s_assign (v := .bool false) (ej rfl rfl) (w0 rfl) (c_done ?_)))))))))))
      refine n_then (c_ret (r_block (r_then (ret1 (v := .bool false) rfl rfl rfl ?_))))
      refine ⟨_,rfl,?_,(Ext.trans (NewB.ext n3) x5)⟩
      (refine congrArg Value.bool ?_; unfold ltB; (rw [if_pos (by omega)]; simp only [*,decide_true,decide_false,if_true,if_false,Bool.and_true,Bool.true_and,Bool.false_and,Bool.and_false,Bool.not_true,Bool.not_false,Bool.false_eq_true,reduceIte,not_true_eq_false,not_false_eq_true]; done))
    refine s_move (v := .bool false) (vb (ej rfl rfl) h7) (w0 rfl) (s_skip (wn rfl rfl rfl rfl rfl) (s_skip (wn rfl rfl rfl rfl rfl) (s_skip (wn rfl rfl rfl rfl rfl) (s_pick0 (v := .bool false) (ej rfl rfl) ev_c (w0 rfl) (s_move (v := .bool false) (ej rfl rfl) (w0 rfl) (s_skip (wn rfl rfl rfl rfl rfl) (s_skip (wn rfl rfl rfl rfl rfl) (s_skip (wn rfl rfl rfl rfl rfl) (s_pick0 (v := .bool false) (ej rfl rfl) ev_c (w0 rfl) (s_move (v := .bool false) (ej rfl rfl) (w0 rfl) (s_skip (wn rfl rfl rfl rfl rfl) ?_)))))))))))
    refine s_skip (wn rfl rfl rfl rfl rfl) (s_skip (wn rfl rfl rfl rfl rfl) (s_pick0 (v := .bool false) (ej rfl rfl) ev_c (w0 rfl) (s_assign (v := .bool false) (ej rfl rfl) (w0 rfl) (c_done (n_then (c_ret (r_block (r_then (ret1 (v := .bool false) rfl rfl rfl ?_)))))))))
    refine ⟨_,rfl,?_,(Ext.trans (NewB.ext n3) x5)⟩
    (refine congrArg Value.bool ?_; unfold ltB; (rw [if_pos (by omega)]; simp only [*,decide_true,decide_false,if_true,if_false,Bool.and_true,Bool.true_and,Bool.false_and,Bool.and_false,Bool.not_true,Bool.not_false,Bool.false_eq_true,reduceIte,not_true_eq_false,not_false_eq_true]; done))
  refine c_cond0 (vb (ej rfl rfl) (decide_eq_false h4)) (c_reg (s_cmp (r := decide (x.k = 2)) (ej rfl rfl) ev_c rfl (w0 rfl) (s_assign (v := .bool (decide (x.k = 2))) (ej rfl rfl) (w0 rfl) (c_done (n_then ?_)))))
  by_cases h14 : x.k = 2
  · refine c_cond1 (vb (ej rfl rfl) (decide_eq_true h14)) (c_seq (c_reg (s_field (off := 1) (o' := 1) F_f38_1 (ej rfl rfl) rfl (w0 rfl) (s_loadL (cs := [.string x.a.p,.slice Aa x.a.args.length ca]) F_m24 (ej rfl rfl) rfl rfl (blk_cells (NewB.blk n3) 1 rfl) (w0 rfl) (s_call F_e61 (w0 rfl) ev_f (m1 (ej rfl rfl)) (args := #[.agg #[.string x.a.p,.slice Aa x.a.args.length ca]]) rfl (r4_atom x.a Aa ca _ hoa_ (Row.extT hra (NewB.ext n3))) ?_)))))
    rintro _ w16 ⟨rfl,x15⟩
    rcases Bool.eq_false_or_eq_true (atB x.a) with h17 | h17
    · refine s_move (v := .bool true) (vb (ej rfl rfl) h17) (w0 rfl) (s_field (off := 3) (o' := 3) F_f38_2 (ej rfl rfl) rfl (wy rfl rfl rfl rfl) (s_load (v := .int .i8 x.r) F_o27 (ej rfl rfl) (cell_of_blk (i := 3) (Ext.blk x15 (NewB.blk n3)) rfl) (wy rfl rfl rfl rfl) (s_cmp (r := decide (x.r = 0)) (ej rfl rfl) ev_c rfl (wy rfl rfl rfl rfl) (s_pick1 (v := .bool (decide (x.r = 0))) (ej rfl rfl) (ej rfl rfl) (w0 rfl) ?_))))
      by_cases h18 : x.r = 0
      · refine s_move (v := .bool true) (vb (ej rfl rfl) (decide_eq_true h18)) (w0 rfl) (s_field (off := 4) (o' := 4) F_f38_3 (ej rfl rfl) rfl (wy rfl rfl rfl rfl) (s_loadL (cs := [.int .i8 x.e1.op,.string x.e1.t.v,.int .i8 x.e1.t.l.k,.int .i64 x.e1.t.l.n,.string x.e1.t.l.s,.slice A1 x.e1.kids.length c1]) F_m36 (ej rfl rfl) rfl rfl (blk_cells (Ext.blk x15 (NewB.blk n3)) 4 rfl) (wy rfl rfl rfl rfl) (s_call F_e107 (wy rfl rfl rfl rfl) ev_f (m1 (ej rfl rfl)) (args := #[.agg #[.int .i8 x.e1.op,.string x.e1.t.v,.int .i8 x.e1.t.l.k,.int .i64 x.e1.t.l.n,.string x.e1.t.l.s,.slice A1 x.e1.kids.length c1]]) rfl (r4_nothing x.e1 A1 c1 _ ho1_ (Row.extE (Row.extE hr1 (NewB.ext n3)) x15)) ?_)))
        rintro _ w20 ⟨rfl,x19⟩
        refine s_pick1 (v := .bool (noE x.e1)) (ej rfl rfl) (ej rfl rfl) (w0 rfl) ?_
        rcases Bool.eq_false_or_eq_true (noE x.e1) with h21 | h21
        · refine s_move (v := .bool true) (vb (ej rfl rfl) h21) (w0 rfl) (s_field (off := 10) (o' := 10) F_f38_4 (ej rfl rfl) rfl (wy rfl rfl rfl rfl) (s_loadL (cs := [.int .i8 x.e2.op,.string x.e2.t.v,.int .i8 x.e2.t.l.k,.int .i64 x.e2.t.l.n,.string x.e2.t.l.s,.slice A2 x.e2.kids.length c2]) F_m36 (ej rfl rfl) rfl rfl (blk_cells (Ext.blk x19 (Ext.blk x15 (NewB.blk n3))) 10 rfl) (wy rfl rfl rfl rfl) (s_call F_e107 (wy rfl rfl rfl rfl) ev_f (m1 (ej rfl rfl)) (args := #[.agg #[.int .i8 x.e2.op,.string x.e2.t.v,.int .i8 x.e2.t.l.k,.int .i64 x.e2.t.l.n,.string x.e2.t.l.s,.slice A2 x.e2.kids.length c2]]) rfl (r4_nothing x.e2 A2 c2 _ ho2_ (Row.extE (Row.extE (Row.extE hr2 (NewB.ext n3)) x15) x19)) ?_)))
          rintro _ w23 ⟨rfl,x22⟩
          refine s_pick1 (v := .bool (noE x.e2)) (ej rfl rfl) (ej rfl rfl) (w0 rfl) (s_assign (v := .bool (noE x.e2)) (ej rfl rfl) (w0 rfl) (c_done (n_then (c_ret (r_block (r_then (ret1 (v := .bool (noE x.e2)) rfl rfl rfl ?_)))))))
          refine ⟨_,rfl,?_,(Ext.trans (Ext.trans (Ext.trans (NewB.ext n3) x15) x19) x22)⟩
          (refine congrArg Value.bool ?_; unfold ltB; (rw [if_pos (by omega)]; simp only [*,decide_true,decide_false,if_true,if_false,Bool.and_true,Bool.true_and,Bool.false_and,Bool.and_false,Bool.not_true,Bool.not_false,Bool.false_eq_true,reduceIte,not_true_eq_false,not_false_eq_true]; done))
        refine s_move (v := .bool false) (vb (ej rfl rfl) h21) (w0 rfl) (s_skip (wn rfl rfl rfl rfl rfl) (s_skip (wn rfl rfl rfl rfl rfl) (s_skip (wn rfl rfl rfl rfl rfl) (s_pick0 (v := .bool false) (ej rfl rfl) ev_c (w0 rfl) (s_assign (v := .bool false) (ej rfl rfl) (w0 rfl) (c_done (n_then (c_ret (r_block (r_then (ret1 (v := .bool false) rfl rfl rfl ?_)))))))))))
        refine ⟨_,rfl,?_,(Ext.trans (Ext.trans (NewB.ext n3) x15) x19)⟩
        (refine congrArg Value.bool ?_; unfold ltB; (rw [if_pos (by omega)]; simp only [*,decide_true,decide_false,if_true,if_false,Bool.and_true,Bool.true_and,Bool.false_and,Bool.and_false,Bool.not_true,Bool.not_false,Bool.false_eq_true,reduceIte,not_true_eq_false,not_false_eq_true]; done))
      refine s_move (v := .bool false) (vb (ej rfl rfl) (decide_eq_false h18)) (w0 rfl) (s_skip (wn rfl rfl rfl rfl rfl) (s_skip (wn rfl rfl rfl rfl rfl) (s_skip (wn rfl rfl rfl rfl rfl) (s_pick0 (v := .bool false) (ej rfl rfl) ev_c (w0 rfl) (s_move (v := .bool false) (ej rfl rfl) (w0 rfl) (s_skip (wn rfl rfl rfl rfl rfl) (s_skip (wn rfl rfl rfl rfl rfl) (s_skip (wn rfl rfl rfl rfl rfl) (s_pick0 (v := .bool false) (ej rfl rfl) ev_c (w0 rfl) (s_assign (v := .bool false) (ej rfl rfl) (w0 rfl) (c_done ?_)))))))))))
      refine n_then (c_ret (r_block (r_then (ret1 (v := .bool false) rfl rfl rfl ?_))))
      refine ⟨_,rfl,?_,(Ext.trans (NewB.ext n3) x15)⟩
      (refine congrArg Value.bool ?_; unfold ltB; (rw [if_pos (by omega)]; simp only [*,decide_true,decide_false,if_true,if_false,Bool.and_true,Bool.true_and,Bool.false_and,Bool.and_false,Bool.not_true,Bool.not_false,Bool.false_eq_true,reduceIte,not_true_eq_false,not_false_eq_true]; done))
    refine s_move (v := .bool false) (vb (ej rfl rfl) h17) (w0 rfl) (s_skip (wn rfl rfl rfl rfl rfl) (s_skip (wn rfl rfl rfl rfl rfl) (s_skip (wn rfl rfl rfl rfl rfl) (s_pick0 (v := .bool false) (ej rfl rfl) ev_c (w0 rfl) (s_move (v := .bool false) (ej rfl rfl) (w0 rfl) (s_skip (wn rfl rfl rfl rfl rfl) (s_skip (wn rfl rfl rfl rfl rfl) (s_skip (wn rfl rfl rfl rfl rfl) (s_pick0 (v := .bool false) (ej rfl rfl) ev_c (w0 rfl) (s_move (v := .bool false) (ej rfl rfl) (w0 rfl) (s_skip (wn rfl rfl rfl rfl rfl) ?_)))))))))))
    refine s_skip (wn rfl rfl rfl rfl rfl) (s_skip (wn rfl rfl rfl rfl rfl) (s_pick0 (v := .bool false) (ej rfl rfl) ev_c (w0 rfl) (s_assign (v := .bool false) (ej rfl rfl) (w0 rfl) (c_done (n_then (c_ret (r_block (r_then (ret1 (v := .bool false) rfl rfl rfl ?_)))))))))
    refine ⟨_,rfl,?_,(Ext.trans (NewB.ext n3) x15)⟩
    (refine congrArg Value.bool ?_; unfold ltB; (rw [if_pos (by omega)]; simp only [*,decide_true,decide_false,if_true,if_false,Bool.and_true,Bool.true_and,Bool.false_and,Bool.and_false,Bool.not_true,Bool.not_false,Bool.false_eq_true,reduceIte,not_true_eq_false,not_false_eq_true]; done))
  refine c_cond0 (vb (ej rfl rfl) (decide_eq_false h14)) (c_seq (c_reg (s_cmp (r := decide (x.k = 3)) (ej rfl rfl) ev_c rfl (w0 rfl) (s_assign (v := .bool (decide (x.k = 3))) (ej rfl rfl) (w0 rfl) (c_done (n_then ?_))))))
  by_cases h24 : x.k = 3
  · refine c_cond1 (vb (ej rfl rfl) (decide_eq_true h24)) (c_seq (c_reg (s_field (off := 1) (o' := 1) F_f38_1 (ej rfl rfl) rfl (w0 rfl) (s_field (off := 0) (o' := 1) F_f24_0 (ej rfl rfl) rfl (w0 rfl) (s_load (v := .string x.a.p) F_o9 (ej rfl rfl) (cell_of_blk (i := 1) (NewB.blk n3) rfl) (w0 rfl) (s_cmpS (r := decide (x.a.p = (⟨#[]⟩ : ByteArray))) (ej rfl rfl) ev_c rfl (w0 rfl) ?_))))))
    by_cases h25 : x.a.p = (⟨#[]⟩ : ByteArray)
    · refine s_move (v := .bool true) (vb (ej rfl rfl) (decide_eq_true h25)) (w0 rfl) (s_field (off := 1) (o' := 1) F_f38_1 (ej rfl rfl) rfl (wy rfl rfl rfl rfl) (s_field (off := 1) (o' := 2) F_f24_1 (ej rfl rfl) rfl (wy rfl rfl rfl rfl) (s_load (v := .slice Aa x.a.args.length ca) F_o22 (ej rfl rfl) (cell_of_blk (i := 2) (NewB.blk n3) rfl) (wy rfl rfl rfl rfl) (s_lenL F_l22 (ej rfl rfl) (wy rfl rfl rfl rfl) (s_cmp (r := decide ((x.a.args.length : Int) = 0)) (ej rfl rfl) ev_c rfl (wy rfl rfl rfl rfl) (s_pick1 (v := .bool (decide ((x.a.args.length : Int) = 0))) (ej rfl rfl) (ej rfl rfl) (w0 rfl) ?_))))))
      by_cases h26 : (x.a.args.length : Int) = 0
      · refine s_move (v := .bool true) (vb (ej rfl rfl) (decide_eq_true h26)) (w0 rfl) (s_field (off := 3) (o' := 3) F_f38_2 (ej rfl rfl) rfl (wy rfl rfl rfl rfl) (s_load (v := .int .i8 x.r) F_o27 (ej rfl rfl) (cell_of_blk (i := 3) (NewB.blk n3) rfl) (wy rfl rfl rfl rfl) (s_cmp (r := decide (1 ≤ x.r)) (ej rfl rfl) ev_c rfl (wy rfl rfl rfl rfl) (s_pick1 (v := .bool (decide (1 ≤ x.r))) (ej rfl rfl) (ej rfl rfl) (w0 rfl) ?_))))
        by_cases h27 : 1 ≤ x.r
        · refine s_move (v := .bool true) (vb (ej rfl rfl) (decide_eq_true h27)) (w0 rfl) (s_field (off := 3) (o' := 3) F_f38_2 (ej rfl rfl) rfl (wy rfl rfl rfl rfl) (s_load (v := .int .i8 x.r) F_o27 (ej rfl rfl) (cell_of_blk (i := 3) (NewB.blk n3) rfl) (wy rfl rfl rfl rfl) (s_cmp (r := decide (x.r ≤ 6)) (ej rfl rfl) ev_c rfl (wy rfl rfl rfl rfl) (s_pick1 (v := .bool (decide (x.r ≤ 6))) (ej rfl rfl) (ej rfl rfl) (w0 rfl) ?_))))
          by_cases h28 : x.r ≤ 6
          · refine s_move (v := .bool true) (vb (ej rfl rfl) (decide_eq_true h28)) (w0 rfl) (s_field (off := 4) (o' := 4) F_f38_3 (ej rfl rfl) rfl (wy rfl rfl rfl rfl) (s_loadL (cs := [.int .i8 x.e1.op,.string x.e1.t.v,.int .i8 x.e1.t.l.k,.int .i64 x.e1.t.l.n,.string x.e1.t.l.s,.slice A1 x.e1.kids.length c1]) F_m36 (ej rfl rfl) rfl rfl (blk_cells (NewB.blk n3) 4 rfl) (wy rfl rfl rfl rfl) (s_call F_e108 (wy rfl rfl rfl rfl) ev_f (m2 (ej rfl rfl) ev_c) (args := #[.agg #[.int .i8 x.e1.op,.string x.e1.t.v,.int .i8 x.e1.t.l.k,.int .i64 x.e1.t.l.n,.string x.e1.t.l.s,.slice A1 x.e1.kids.length c1],.int .i64 8]) rfl (r4_expr 8 x.e1 A1 c1 _ (by decide) ho1_ (Row.extE hr1 (NewB.ext n3))) ?_)))
            rintro _ w30 ⟨rfl,x29⟩
            refine s_pick1 (v := .bool (exB 8 x.e1)) (ej rfl rfl) (ej rfl rfl) (w0 rfl) ?_
            rcases Bool.eq_false_or_eq_true (exB 8 x.e1) with h31 | h31
            · refine s_move (v := .bool true) (vb (ej rfl rfl) h31) (w0 rfl) (s_field (off := 10) (o' := 10) F_f38_4 (ej rfl rfl) rfl (wy rfl rfl rfl rfl) (s_loadL (cs := [.int .i8 x.e2.op,.string x.e2.t.v,.int .i8 x.e2.t.l.k,.int .i64 x.e2.t.l.n,.string x.e2.t.l.s,.slice A2 x.e2.kids.length c2]) F_m36 (ej rfl rfl) rfl rfl (blk_cells (Ext.blk x29 (NewB.blk n3)) 10 rfl) (wy rfl rfl rfl rfl) (s_call F_e108 (wy rfl rfl rfl rfl) ev_f (m2 (ej rfl rfl) ev_c) (args := #[.agg #[.int .i8 x.e2.op,.string x.e2.t.v,.int .i8 x.e2.t.l.k,.int .i64 x.e2.t.l.n,.string x.e2.t.l.s,.slice A2 x.e2.kids.length c2],.int .i64 8]) rfl (r4_expr 8 x.e2 A2 c2 _ (by decide) ho2_ (Row.extE (Row.extE hr2 (NewB.ext n3)) x29)) ?_)))
              rintro _ w33 ⟨rfl,x32⟩
              refine s_pick1 (v := .bool (exB 8 x.e2)) (ej rfl rfl) (ej rfl rfl) (w0 rfl) (s_assign (v := .bool (exB 8 x.e2)) (ej rfl rfl) (w0 rfl) (c_done (n_then (c_ret (r_block (r_then (ret1 (v := .bool (exB 8 x.e2)) rfl rfl rfl ?_)))))))
              refine ⟨_,rfl,?_,(Ext.trans (Ext.trans (NewB.ext n3) x29) x32)⟩
              (refine congrArg Value.bool ?_; unfold ltB; (rw [if_neg (by omega),if_pos (by omega)]; simp only [*,decide_true,decide_false,if_true,if_false,Bool.and_true,Bool.true_and,Bool.false_and,Bool.and_false,Bool.not_true,Bool.not_false,Bool.false_eq_true,reduceIte,not_true_eq_false,not_false_eq_true]; done))
            refine s_move (v := .bool false) (vb (ej rfl rfl) h31) (w0 rfl) (s_skip (wn rfl rfl rfl rfl rfl) (s_skip (wn rfl rfl rfl rfl rfl) (s_skip (wn rfl rfl rfl rfl rfl) (s_pick0 (v := .bool false) (ej rfl rfl) ev_c (w0 rfl) (s_assign (v := .bool false) (ej rfl rfl) (w0 rfl) (c_done (n_then (c_ret (r_block (r_then (ret1 (v := .bool false) rfl rfl rfl ?_)))))))))))
            refine ⟨_,rfl,?_,(Ext.trans (NewB.ext n3) x29)⟩
            (refine congrArg Value.bool ?_; unfold ltB; (rw [if_neg (by omega),if_pos (by omega)]; simp only [*,decide_true,decide_false,if_true,if_false,Bool.and_true,Bool.true_and,Bool.false_and,Bool.and_false,Bool.not_true,Bool.not_false,Bool.false_eq_true,reduceIte,not_true_eq_false,not_false_eq_true]; done))
          refine s_move (v := .bool false) (vb (ej rfl rfl) (decide_eq_false h28)) (w0 rfl) (s_skip (wn rfl rfl rfl rfl rfl) (s_skip (wn rfl rfl rfl rfl rfl) (s_skip (wn rfl rfl rfl rfl rfl) (s_pick0 (v := .bool false) (ej rfl rfl) ev_c (w0 rfl) (s_move (v := .bool false) (ej rfl rfl) (w0 rfl) (s_skip (wn rfl rfl rfl rfl rfl) (s_skip (wn rfl rfl rfl rfl rfl) (s_skip (wn rfl rfl rfl rfl rfl) (s_pick0 (v := .bool false) (ej rfl rfl) ev_c (w0 rfl) (s_assign (v := .bool false) (ej rfl rfl) (w0 rfl) (c_done ?_)))))))))))
          refine n_then (c_ret (r_block (r_then (ret1 (v := .bool false) rfl rfl rfl ?_))))
          refine ⟨_,rfl,?_,(NewB.ext n3)⟩
          (refine congrArg Value.bool ?_; unfold ltB; (rw [if_neg (by omega),if_pos (by omega)]; simp only [*,decide_true,decide_false,if_true,if_false,Bool.and_true,Bool.true_and,Bool.false_and,Bool.and_false,Bool.not_true,Bool.not_false,Bool.false_eq_true,reduceIte,not_true_eq_false,not_false_eq_true]; done))
        refine s_move (v := .bool false) (vb (ej rfl rfl) (decide_eq_false h27)) (w0 rfl) (s_skip (wn rfl rfl rfl rfl rfl) (s_skip (wn rfl rfl rfl rfl rfl) (s_skip (wn rfl rfl rfl rfl rfl) (s_pick0 (v := .bool false) (ej rfl rfl) ev_c (w0 rfl) (s_move (v := .bool false) (ej rfl rfl) (w0 rfl) (s_skip (wn rfl rfl rfl rfl rfl) (s_skip (wn rfl rfl rfl rfl rfl) (s_skip (wn rfl rfl rfl rfl rfl) (s_pick0 (v := .bool false) (ej rfl rfl) ev_c (w0 rfl) (s_move (v := .bool false) (ej rfl rfl) (w0 rfl) (s_skip (wn rfl rfl rfl rfl rfl) ?_)))))))))))
        refine s_skip (wn rfl rfl rfl rfl rfl) (s_skip (wn rfl rfl rfl rfl rfl) (s_pick0 (v := .bool false) (ej rfl rfl) ev_c (w0 rfl) (s_assign (v := .bool false) (ej rfl rfl) (w0 rfl) (c_done (n_then (c_ret (r_block (r_then (ret1 (v := .bool false) rfl rfl rfl ?_)))))))))
        refine ⟨_,rfl,?_,(NewB.ext n3)⟩
        (refine congrArg Value.bool ?_; unfold ltB; (rw [if_neg (by omega),if_pos (by omega)]; simp only [*,decide_true,decide_false,if_true,if_false,Bool.and_true,Bool.true_and,Bool.false_and,Bool.and_false,Bool.not_true,Bool.not_false,Bool.false_eq_true,reduceIte,not_true_eq_false,not_false_eq_true]; done))
      refine s_move (v := .bool false) (vb (ej rfl rfl) (decide_eq_false h26)) (w0 rfl) (s_skip (wn rfl rfl rfl rfl rfl) (s_skip (wn rfl rfl rfl rfl rfl) (s_skip (wn rfl rfl rfl rfl rfl) (s_pick0 (v := .bool false) (ej rfl rfl) ev_c (w0 rfl) (s_move (v := .bool false) (ej rfl rfl) (w0 rfl) (s_skip (wn rfl rfl rfl rfl rfl) (s_skip (wn rfl rfl rfl rfl rfl) (s_skip (wn rfl rfl rfl rfl rfl) (s_pick0 (v := .bool false) (ej rfl rfl) ev_c (w0 rfl) (s_move (v := .bool false) (ej rfl rfl) (w0 rfl) (s_skip (wn rfl rfl rfl rfl rfl) ?_)))))))))))
      refine s_skip (wn rfl rfl rfl rfl rfl) (s_skip (wn rfl rfl rfl rfl rfl) (s_pick0 (v := .bool false) (ej rfl rfl) ev_c (w0 rfl) (s_move (v := .bool false) (ej rfl rfl) (w0 rfl) (s_skip (wn rfl rfl rfl rfl rfl) (s_skip (wn rfl rfl rfl rfl rfl) (s_skip (wn rfl rfl rfl rfl rfl) (s_pick0 (v := .bool false) (ej rfl rfl) ev_c (w0 rfl) (s_assign (v := .bool false) (ej rfl rfl) (w0 rfl) (c_done (n_then (c_ret ?_)))))))))))
      refine r_block (r_then (ret1 (v := .bool false) rfl rfl rfl ?_))
      refine ⟨_,rfl,?_,(NewB.ext n3)⟩
      (refine congrArg Value.bool ?_; unfold ltB; (rw [if_neg (by omega),if_pos (by omega)]; simp only [*,decide_true,decide_false,if_true,if_false,Bool.and_true,Bool.true_and,Bool.false_and,Bool.and_false,Bool.not_true,Bool.not_false,Bool.false_eq_true,reduceIte,not_true_eq_false,not_false_eq_true]; done))
    refine s_move (v := .bool false) (vb (ej rfl rfl) (decide_eq_false h25)) (w0 rfl) (s_skip (wn rfl rfl rfl rfl rfl) (s_skip (wn rfl rfl rfl rfl rfl) (s_skip (wn rfl rfl rfl rfl rfl) (s_skip (wn rfl rfl rfl rfl rfl) (s_skip (wn rfl rfl rfl rfl rfl) (s_pick0 (v := .bool false) (ej rfl rfl) ev_c (w0 rfl) (s_move (v := .bool false) (ej rfl rfl) (w0 rfl) (s_skip (wn rfl rfl rfl rfl rfl) (s_skip (wn rfl rfl rfl rfl rfl) (s_skip (wn rfl rfl rfl rfl rfl) (s_pick0 (v := .bool false) (ej rfl rfl) ev_c (w0 rfl) ?_)))))))))))
    refine s_move (v := .bool false) (ej rfl rfl) (w0 rfl) (s_skip (wn rfl rfl rfl rfl rfl) (s_skip (wn rfl rfl rfl rfl rfl) (s_skip (wn rfl rfl rfl rfl rfl) (s_pick0 (v := .bool false) (ej rfl rfl) ev_c (w0 rfl) (s_move (v := .bool false) (ej rfl rfl) (w0 rfl) (s_skip (wn rfl rfl rfl rfl rfl) (s_skip (wn rfl rfl rfl rfl rfl) (s_skip (wn rfl rfl rfl rfl rfl) (s_pick0 (v := .bool false) (ej rfl rfl) ev_c (w0 rfl) (s_move (v := .bool false) (ej rfl rfl) (w0 rfl) (s_skip (wn rfl rfl rfl rfl rfl) ?_)))))))))))
    refine s_skip (wn rfl rfl rfl rfl rfl) (s_skip (wn rfl rfl rfl rfl rfl) (s_pick0 (v := .bool false) (ej rfl rfl) ev_c (w0 rfl) (s_assign (v := .bool false) (ej rfl rfl) (w0 rfl) (c_done (n_then (c_ret (r_block (r_then (ret1 (v := .bool false) rfl rfl rfl ?_)))))))))
    refine ⟨_,rfl,?_,(NewB.ext n3)⟩
    (refine congrArg Value.bool ?_; unfold ltB; (rw [if_neg (by omega),if_pos (by omega)]; simp only [*,decide_true,decide_false,if_true,if_false,Bool.and_true,Bool.true_and,Bool.false_and,Bool.and_false,Bool.not_true,Bool.not_false,Bool.false_eq_true,reduceIte,not_true_eq_false,not_false_eq_true]; done))
  refine c_cond0 (vb (ej rfl rfl) (decide_eq_false h24)) (c_skip (n_block (n_then (c_seq (c_reg (s_assign (v := .bool false) ev_c (w0 rfl) (c_done (n_then (c_ret (ret1 (v := .bool false) rfl rfl rfl ?_))))))))))
  refine ⟨_,rfl,?_,(NewB.ext n3)⟩
  (refine congrArg Value.bool ?_; unfold ltB; (rw [if_neg (by omega),if_neg (by omega)]; done))
theorem t_empty (x : Ex) (A : Option Addr) (c : Nat) (w : World) (ho : x.okc c) (hr : Row RE 6 w A x.kids) :
    Rt Tryz.prog 75 #[.agg #[.int .i8 x.op,.string x.t.v,.int .i8 x.t.l.k,.int .i64 x.t.l.n,.string x.t.l.s,.slice A x.kids.length c]] w fun v w' => v = .bool (noE x) ∧ Ext w w' := by
  refine enter Tryz.func75 rfl (l := [.agg #[.int .i8 x.op,.string x.t.v,.int .i8 x.t.l.k,.int .i64 x.t.l.n,.string x.t.l.s,.slice A x.kids.length c]]) rfl Tryz.ntmps75 (Nat.le_of_ble_eq_true rfl) ?_
  have hl_ := Ex.okc.l ho
  have hc_ := Ex.okc.c ho
  refine c_seq (c_reg (s_box (v := .agg #[.int .i8 x.op,.string x.t.v,.int .i8 x.t.l.k,.int .i64 x.t.l.n,.string x.t.l.s,.slice A x.kids.length c]) (cs := #[.int .i8 x.op,.string x.t.v,.int .i8 x.t.l.k,.int .i64 x.t.l.n,.string x.t.l.s,.slice A x.kids.length c]) (w0 rfl) (ej rfl rfl) rfl ?_))
  intro w2 g1 n3
  refine s_assign (v := .bool false) ev_c (w0 rfl) (c_done (n_then (c_seq (c_reg (s_field (off := 0) (o' := 0) F_f36_0 (ej rfl rfl) rfl (w0 rfl) (s_load (v := .int .i8 x.op) F_o28 (ej rfl rfl) (cell_of_blk (i := 0) (NewB.blk n3) rfl) (w0 rfl) (s_cmp (r := decide (x.op = 0)) (ej rfl rfl) ev_c rfl (w0 rfl) ?_)))))))
  by_cases h4 : x.op = 0
  · refine s_move (v := .bool true) (vb (ej rfl rfl) (decide_eq_true h4)) (w0 rfl) (s_field (off := 1) (o' := 1) F_f36_1 (ej rfl rfl) rfl (wy rfl rfl rfl rfl) (s_loadL (cs := [.string x.t.v,.int .i8 x.t.l.k,.int .i64 x.t.l.n,.string x.t.l.s]) F_m33 (ej rfl rfl) rfl rfl (blk_cells (NewB.blk n3) 1 rfl) (wy rfl rfl rfl rfl) (s_call F_e113 (wy rfl rfl rfl rfl) ev_f (m1 (ej rfl rfl)) (args := #[.agg #[.string x.t.v,.int .i8 x.t.l.k,.int .i64 x.t.l.n,.string x.t.l.s]]) rfl (t_none x.t _) ?_)))
    rintro _ w6 ⟨rfl,x5⟩
    refine s_pick1 (v := .bool (zT x.t)) (ej rfl rfl) (ej rfl rfl) (w0 rfl) ?_
    rcases Bool.eq_false_or_eq_true (zT x.t) with h7 | h7
    · refine s_move (v := .bool true) (vb (ej rfl rfl) h7) (w0 rfl) (s_field (off := 5) (o' := 5) F_f36_2 (ej rfl rfl) rfl (wy rfl rfl rfl rfl) (s_load (v := .slice A x.kids.length c) F_o34 (ej rfl rfl) (cell_of_blk (i := 5) (Ext.blk x5 (NewB.blk n3)) rfl) (wy rfl rfl rfl rfl) (s_lenL F_l34 (ej rfl rfl) (wy rfl rfl rfl rfl) (s_cmp (r := decide ((x.kids.length : Int) = 0)) (ej rfl rfl) ev_c rfl (wy rfl rfl rfl rfl) (s_pick1 (v := .bool (decide ((x.kids.length : Int) = 0))) (ej rfl rfl) (ej rfl rfl) (w0 rfl) (s_assign (v := .bool (decide ((x.kids.length : Int) = 0))) (ej rfl rfl) (w0 rfl) (c_done (n_then (c_ret (ret1 (v := .bool (decide ((x.kids.length : Int) = 0))) rfl rfl rfl ?_))))))))))
      refine ⟨_,rfl,?_,(Ext.trans (NewB.ext n3) x5)⟩
      (refine congrArg Value.bool ?_; unfold noE; simp only [*,decide_true,decide_false,if_true,if_false,Bool.and_true,Bool.true_and,Bool.false_and,Bool.and_false,Bool.not_true,Bool.not_false,Bool.false_eq_true,reduceIte,not_true_eq_false,not_false_eq_true])
    refine s_move (v := .bool false) (vb (ej rfl rfl) h7) (w0 rfl) (s_skip (wn rfl rfl rfl rfl rfl) (s_skip (wn rfl rfl rfl rfl rfl) (s_skip (wn rfl rfl rfl rfl rfl) (s_skip (wn rfl rfl rfl rfl rfl) (s_pick0 (v := .bool false) (ej rfl rfl) ev_c (w0 rfl) (s_assign (v := .bool false) (ej rfl rfl) (w0 rfl) (c_done (n_then (c_ret (ret1 (v := .bool false) rfl rfl rfl ?_))))))))))
    refine ⟨_,rfl,?_,(Ext.trans (NewB.ext n3) x5)⟩
    (refine congrArg Value.bool ?_; unfold noE; simp only [*,decide_true,decide_false,if_true,if_false,Bool.and_true,Bool.true_and,Bool.false_and,Bool.and_false,Bool.not_true,Bool.not_false,Bool.false_eq_true,reduceIte,not_true_eq_false,not_false_eq_true])
  refine s_move (v := .bool false) (vb (ej rfl rfl) (decide_eq_false h4)) (w0 rfl) (s_skip (wn rfl rfl rfl rfl rfl) (s_skip (wn rfl rfl rfl rfl rfl) (s_skip (wn rfl rfl rfl rfl rfl) (s_pick0 (v := .bool false) (ej rfl rfl) ev_c (w0 rfl) (s_move (v := .bool false) (ej rfl rfl) (w0 rfl) (s_skip (wn rfl rfl rfl rfl rfl) (s_skip (wn rfl rfl rfl rfl rfl) (s_skip (wn rfl rfl rfl rfl rfl) (s_skip (wn rfl rfl rfl rfl rfl) (s_pick0 (v := .bool false) (ej rfl rfl) ev_c (w0 rfl) (s_assign (v := .bool false) (ej rfl rfl) (w0 rfl) ?_)))))))))))
  refine c_done (n_then (c_ret (ret1 (v := .bool false) rfl rfl rfl ?_)))
  refine ⟨_,rfl,?_,(NewB.ext n3)⟩
  (refine congrArg Value.bool ?_; unfold noE; simp only [*,decide_true,decide_false,if_true,if_false,Bool.and_true,Bool.true_and,Bool.false_and,Bool.and_false,Bool.not_true,Bool.not_false,Bool.false_eq_true,reduceIte,not_true_eq_false,not_false_eq_true])
theorem t_CheckLiteral (x : Lt) (Aa A1 A2 : Option Addr) (ca c1 c2 : Nat) (w : World) (ho : x.okc ca c1 c2) (hra : Row RT 4 w Aa x.a.args) (hr1 : Row RE 6 w A1 x.e1.kids) (hr2 : Row RE 6 w A2 x.e2.kids) :
    Rt Tryz.prog 39 #[.agg #[.int .i8 x.k,.string x.a.p,.slice Aa x.a.args.length ca,.int .i8 x.r,.int .i8 x.e1.op,.string x.e1.t.v,.int .i8 x.e1.t.l.k,.int .i64 x.e1.t.l.n,.string x.e1.t.l.s,.slice A1 x.e1.kids.length c1,.int .i8 x.e2.op,.string x.e2.t.v,.int .i8 x.e2.t.l.k,.int .i64 x.e2.t.l.n,.string x.e2.t.l.s,.slice A2 x.e2.kids.length c2]] w fun v w' => v = .int .i64 (code (ltB x)) ∧ Ext w w' := by
  refine enter Tryz.func39 rfl (l := [.agg #[.int .i8 x.k,.string x.a.p,.slice Aa x.a.args.length ca,.int .i8 x.r,.int .i8 x.e1.op,.string x.e1.t.v,.int .i8 x.e1.t.l.k,.int .i64 x.e1.t.l.n,.string x.e1.t.l.s,.slice A1 x.e1.kids.length c1,.int .i8 x.e2.op,.string x.e2.t.v,.int .i8 x.e2.t.l.k,.int .i64 x.e2.t.l.n,.string x.e2.t.l.s,.slice A2 x.e2.kids.length c2]]) rfl Tryz.ntmps39 (Nat.le_of_ble_eq_true rfl) ?_
  have hoa_ := Lt.okc.a ho
  have ho1_ := Lt.okc.e1 ho
  have ho2_ := Lt.okc.e2 ho
  have hl1_ := Ex.okc.l ho1_
  have hl2_ := Ex.okc.l ho2_
  have hc1_ := Ex.okc.c ho1_
  have hc2_ := Ex.okc.c ho2_
  have hla_ := At.okc.l hoa_
  have hca_ := At.okc.c hoa_
  have hpa_ := At.okc.p hoa_
  refine c_seq (c_reg (s_box (v := .agg #[.int .i8 x.k,.string x.a.p,.slice Aa x.a.args.length ca,.int .i8 x.r,.int .i8 x.e1.op,.string x.e1.t.v,.int .i8 x.e1.t.l.k,.int .i64 x.e1.t.l.n,.string x.e1.t.l.s,.slice A1 x.e1.kids.length c1,.int .i8 x.e2.op,.string x.e2.t.v,.int .i8 x.e2.t.l.k,.int .i64 x.e2.t.l.n,.string x.e2.t.l.s,.slice A2 x.e2.kids.length c2]) (cs := #[.int .i8 x.k,.string x.a.p,.slice Aa x.a.args.length ca,.int .i8 x.r,.int .i8 x.e1.op,.string x.e1.t.v,.int .i8 x.e1.t.l.k,.int .i64 x.e1.t.l.n,.string x.e1.t.l.s,.slice A1 x.e1.kids.length c1,.int .i8 x.e2.op,.string x.e2.t.v,.int .i8 x.e2.t.l.k,.int .i64 x.e2.t.l.n,.string x.e2.t.l.s,.slice A2 x.e2.kids.length c2]) (w0 rfl) (ej rfl rfl) rfl ?_))
  intro w2 g1 n3
  refine s_assign (v := .int .i64 0) ev_c (w0 rfl) (c_done (n_then (c_seq (c_seq (c_reg (s_field (off := 0) (o' := 0) F_f38_0 (ej rfl rfl) rfl (w0 rfl) (s_load (v := .int .i8 x.k) F_o26 (ej rfl rfl) (cell_of_blk (i := 0) (NewB.blk n3) rfl) (w0 rfl) (c_done (n_then (c_block (c_seq ?_)))))))))))
  refine c_seq (c_reg (s_cmp (r := decide (x.k = 1)) (ej rfl rfl) ev_c rfl (w0 rfl) (s_assign (v := .bool (decide (x.k = 1))) (ej rfl rfl) (w0 rfl) (c_done (n_then ?_)))))
  by_cases h4 : x.k = 1
  · refine c_cond1 (vb (ej rfl rfl) (decide_eq_true h4)) (c_skip (n_then (c_cond1 (vb (ej rfl rfl) (decide_eq_true h4)) (c_seq (c_seq (c_reg (s_field (off := 3) (o' := 3) F_f38_2 (ej rfl rfl) rfl (w0 rfl) (s_load (v := .int .i8 x.r) F_o27 (ej rfl rfl) (cell_of_blk (i := 3) (NewB.blk n3) rfl) (w0 rfl) (s_cmp (r := !decide (x.r = 0)) (ej rfl rfl) ev_c rfl (w0 rfl) ?_)))))))))
    by_cases h5 : x.r = 0
    · refine s_move (v := .bool false) (vb (ej rfl rfl) (nb0 h5)) (w0 rfl) (s_field (off := 4) (o' := 4) F_f38_3 (ej rfl rfl) rfl (wy rfl rfl rfl rfl) (s_loadL (cs := [.int .i8 x.e1.op,.string x.e1.t.v,.int .i8 x.e1.t.l.k,.int .i64 x.e1.t.l.n,.string x.e1.t.l.s,.slice A1 x.e1.kids.length c1]) F_m36 (ej rfl rfl) rfl rfl (blk_cells (NewB.blk n3) 4 rfl) (wy rfl rfl rfl rfl) (s_call F_e75 (wy rfl rfl rfl rfl) ev_f (m1 (ej rfl rfl)) (args := #[.agg #[.int .i8 x.e1.op,.string x.e1.t.v,.int .i8 x.e1.t.l.k,.int .i64 x.e1.t.l.n,.string x.e1.t.l.s,.slice A1 x.e1.kids.length c1]]) rfl (t_empty x.e1 A1 c1 _ ho1_ (Row.extE hr1 (NewB.ext n3))) ?_)))
      rintro _ w7 ⟨rfl,x6⟩
      refine s_not (b := noE x.e1) (ej rfl rfl) (wy rfl rfl rfl rfl) (s_pick0 (v := .bool (!(noE x.e1))) (ej rfl rfl) (ej rfl rfl) (w0 rfl) ?_)
      rcases Bool.eq_false_or_eq_true (noE x.e1) with h8 | h8
      · refine s_move (v := .bool false) (vb (ej rfl rfl) (nbt h8)) (w0 rfl) (s_field (off := 10) (o' := 10) F_f38_4 (ej rfl rfl) rfl (wy rfl rfl rfl rfl) (s_loadL (cs := [.int .i8 x.e2.op,.string x.e2.t.v,.int .i8 x.e2.t.l.k,.int .i64 x.e2.t.l.n,.string x.e2.t.l.s,.slice A2 x.e2.kids.length c2]) F_m36 (ej rfl rfl) rfl rfl (blk_cells (Ext.blk x6 (NewB.blk n3)) 10 rfl) (wy rfl rfl rfl rfl) (s_call F_e75 (wy rfl rfl rfl rfl) ev_f (m1 (ej rfl rfl)) (args := #[.agg #[.int .i8 x.e2.op,.string x.e2.t.v,.int .i8 x.e2.t.l.k,.int .i64 x.e2.t.l.n,.string x.e2.t.l.s,.slice A2 x.e2.kids.length c2]]) rfl (t_empty x.e2 A2 c2 _ ho2_ (Row.extE (Row.extE hr2 (NewB.ext n3)) x6)) ?_)))
        rintro _ w10 ⟨rfl,x9⟩
        refine s_not (b := noE x.e2) (ej rfl rfl) (wy rfl rfl rfl rfl) (s_pick0 (v := .bool (!(noE x.e2))) (ej rfl rfl) (ej rfl rfl) (w0 rfl) (c_done (n_then ?_)))
        rcases Bool.eq_false_or_eq_true (noE x.e2) with h11 | h11
        · refine c_cond0 (vb (ej rfl rfl) (nbt h11)) (c_skip (n_then (c_seq (c_reg (s_field (off := 1) (o' := 1) F_f38_1 (ej rfl rfl) rfl (w0 rfl) (s_loadL (cs := [.string x.a.p,.slice Aa x.a.args.length ca]) F_m24 (ej rfl rfl) rfl rfl (blk_cells (Ext.blk x9 (Ext.blk x6 (NewB.blk n3))) 1 rfl) (w0 rfl) (s_call F_e34 (w0 rfl) ev_f (m1 (ej rfl rfl)) (args := #[.agg #[.string x.a.p,.slice Aa x.a.args.length ca]]) rfl (t_CheckAtom x.a Aa ca _ hoa_ (Row.extT (Row.extT (Row.extT hra (NewB.ext n3)) x6) x9)) ?_)))))))
          rintro _ w13 ⟨rfl,x12⟩
          refine s_assign (v := .int .i64 (code (atB x.a))) (ej rfl rfl) (w0 rfl) (c_done (n_then (c_ret (r_block (r_then (ret1 (v := .int .i64 (code (atB x.a))) rfl rfl rfl ?_))))))
          refine ⟨_,rfl,?_,(Ext.trans (Ext.trans (Ext.trans (NewB.ext n3) x6) x9) x12)⟩
          (refine congrArg (Value.int .i64) ?_; unfold ltB; (rw [if_pos (by omega)]; ((try simp only [*,decide_true,decide_false,if_true,if_false,Bool.and_true,Bool.true_and,Bool.false_and,Bool.and_false,Bool.not_true,Bool.not_false,Bool.false_eq_true,reduceIte,not_true_eq_false,not_false_eq_true]); first | done | rfl); done))
        refine c_cond1 (vb (ej rfl rfl) (nbf h11)) (c_seq (c_reg (s_assign (v := .int .i64 40) ev_c (w0 rfl) (c_done (n_then (c_ret (r_then (r_block (r_then (ret1 (v := .int .i64 40) rfl rfl rfl ?_))))))))))
        refine ⟨_,rfl,?_,(Ext.trans (Ext.trans (NewB.ext n3) x6) x9)⟩
        (refine congrArg (Value.int .i64) ?_; unfold ltB; (rw [if_pos (by omega)]; ((try simp only [*,decide_true,decide_false,if_true,if_false,Bool.and_true,Bool.true_and,Bool.false_and,Bool.and_false,Bool.not_true,Bool.not_false,Bool.false_eq_true,reduceIte,not_true_eq_false,not_false_eq_true]); first | done | rfl); done))
      refine s_move (v := .bool true) (vb (ej rfl rfl) (nbf h8)) (w0 rfl) (s_skip (wn rfl rfl rfl rfl rfl) (s_skip (wn rfl rfl rfl rfl rfl) (s_skip (wn rfl rfl rfl rfl rfl) (s_skip (wn rfl rfl rfl rfl rfl) (s_pick1 (v := .bool true) (ej rfl rfl) ev_c (w0 rfl) (c_done (n_then (c_cond1 (ej rfl rfl) (c_seq (c_reg (s_assign (v := .int .i64 40) ev_c (w0 rfl) ?_)))))))))))
      refine c_done (n_then (c_ret (r_then (r_block (r_then (ret1 (v := .int .i64 40) rfl rfl rfl ?_))))))
      refine ⟨_,rfl,?_,(Ext.trans (NewB.ext n3) x6)⟩
      (refine congrArg (Value.int .i64) ?_; unfold ltB; (rw [if_pos (by omega)]; ((try simp only [*,decide_true,decide_false,if_true,if_false,Bool.and_true,Bool.true_and,Bool.false_and,Bool.and_false,Bool.not_true,Bool.not_false,Bool.false_eq_true,reduceIte,not_true_eq_false,not_false_eq_true]); first | done | rfl); done))
    refine s_move (v := .bool true) (vb (ej rfl rfl) (nb1 h5)) (w0 rfl) (s_skip (wn rfl rfl rfl rfl rfl) (s_skip (wn rfl rfl rfl rfl rfl) (s_skip (wn rfl rfl rfl rfl rfl) (s_skip (wn rfl rfl rfl rfl rfl) (s_pick1 (v := .bool true) (ej rfl rfl) ev_c (w0 rfl) (s_move (v := .bool true) (ej rfl rfl) (w0 rfl) (s_skip (wn rfl rfl rfl rfl rfl) (s_skip (wn rfl rfl rfl rfl rfl) (s_skip (wn rfl rfl rfl rfl rfl) (s_skip (wn rfl rfl rfl rfl rfl) (s_pick1 (v := .bool true) (ej rfl rfl) ev_c (w0 rfl) ?_)))))))))))
    refine c_done (n_then (c_cond1 (ej rfl rfl) (c_seq (c_reg (s_assign (v := .int .i64 40) ev_c (w0 rfl) (c_done (n_then (c_ret (r_then (r_block (r_then ?_)))))))))))
    refine ret1 (v := .int .i64 40) rfl rfl rfl ?_
    refine ⟨_,rfl,?_,(NewB.ext n3)⟩
    (refine congrArg (Value.int .i64) ?_; unfold ltB; (rw [if_pos (by omega)]; ((try simp only [*,decide_true,decide_false,if_true,if_false,Bool.and_true,Bool.true_and,Bool.false_and,Bool.and_false,Bool.not_true,Bool.not_false,Bool.false_eq_true,reduceIte,not_true_eq_false,not_false_eq_true]); first | done | rfl); done))
  refine c_cond0 (vb (ej rfl rfl) (decide_eq_false h4)) (c_reg (s_cmp (r := decide (x.k = 2)) (ej rfl rfl) ev_c rfl (w0 rfl) (s_assign (v := .bool (decide (x.k = 2))) (ej rfl rfl) (w0 rfl) (c_done (n_then ?_)))))
  by_cases h14 : x.k = 2
  · refine c_cond1 (vb (ej rfl rfl) (decide_eq_true h14)) (c_seq (c_seq (c_reg (s_field (off := 3) (o' := 3) F_f38_2 (ej rfl rfl) rfl (w0 rfl) (s_load (v := .int .i8 x.r) F_o27 (ej rfl rfl) (cell_of_blk (i := 3) (NewB.blk n3) rfl) (w0 rfl) (s_cmp (r := !decide (x.r = 0)) (ej rfl rfl) ev_c rfl (w0 rfl) ?_))))))
    by_cases h15 : x.r = 0
    · refine s_move (v := .bool false) (vb (ej rfl rfl) (nb0 h15)) (w0 rfl) (s_field (off := 4) (o' := 4) F_f38_3 (ej rfl rfl) rfl (wy rfl rfl rfl rfl) (s_loadL (cs := [.int .i8 x.e1.op,.string x.e1.t.v,.int .i8 x.e1.t.l.k,.int .i64 x.e1.t.l.n,.string x.e1.t.l.s,.slice A1 x.e1.kids.length c1]) F_m36 (ej rfl rfl) rfl rfl (blk_cells (NewB.blk n3) 4 rfl) (wy rfl rfl rfl rfl) (s_call F_e75 (wy rfl rfl rfl rfl) ev_f (m1 (ej rfl rfl)) (args := #[.agg #[.int .i8 x.e1.op,.string x.e1.t.v,.int .i8 x.e1.t.l.k,.int .i64 x.e1.t.l.n,.string x.e1.t.l.s,.slice A1 x.e1.kids.length c1]]) rfl (t_empty x.e1 A1 c1 _ ho1_ (Row.extE hr1 (NewB.ext n3))) ?_)))
      rintro _ w17 ⟨rfl,x16⟩
      refine s_not (b := noE x.e1) (ej rfl rfl) (wy rfl rfl rfl rfl) (s_pick0 (v := .bool (!(noE x.e1))) (ej rfl rfl) (ej rfl rfl) (w0 rfl) ?_)
      rcases Bool.eq_false_or_eq_true (noE x.e1) with h18 | h18
      · refine s_move (v := .bool false) (vb (ej rfl rfl) (nbt h18)) (w0 rfl) (s_field (off := 10) (o' := 10) F_f38_4 (ej rfl rfl) rfl (wy rfl rfl rfl rfl) (s_loadL (cs := [.int .i8 x.e2.op,.string x.e2.t.v,.int .i8 x.e2.t.l.k,.int .i64 x.e2.t.l.n,.string x.e2.t.l.s,.slice A2 x.e2.kids.length c2]) F_m36 (ej rfl rfl) rfl rfl (blk_cells (Ext.blk x16 (NewB.blk n3)) 10 rfl) (wy rfl rfl rfl rfl) (s_call F_e75 (wy rfl rfl rfl rfl) ev_f (m1 (ej rfl rfl)) (args := #[.agg #[.int .i8 x.e2.op,.string x.e2.t.v,.int .i8 x.e2.t.l.k,.int .i64 x.e2.t.l.n,.string x.e2.t.l.s,.slice A2 x.e2.kids.length c2]]) rfl (t_empty x.e2 A2 c2 _ ho2_ (Row.extE (Row.extE hr2 (NewB.ext n3)) x16)) ?_)))
        rintro _ w20 ⟨rfl,x19⟩
        refine s_not (b := noE x.e2) (ej rfl rfl) (wy rfl rfl rfl rfl) (s_pick0 (v := .bool (!(noE x.e2))) (ej rfl rfl) (ej rfl rfl) (w0 rfl) (c_done (n_then ?_)))
        rcases Bool.eq_false_or_eq_true (noE x.e2) with h21 | h21
        · refine c_cond0 (vb (ej rfl rfl) (nbt h21)) (c_skip (n_then (c_seq (c_reg (s_field (off := 1) (o' := 1) F_f38_1 (ej rfl rfl) rfl (w0 rfl) (s_loadL (cs := [.string x.a.p,.slice Aa x.a.args.length ca]) F_m24 (ej rfl rfl) rfl rfl (blk_cells (Ext.blk x19 (Ext.blk x16 (NewB.blk n3))) 1 rfl) (w0 rfl) (s_call F_e34 (w0 rfl) ev_f (m1 (ej rfl rfl)) (args := #[.agg #[.string x.a.p,.slice Aa x.a.args.length ca]]) rfl (t_CheckAtom x.a Aa ca _ hoa_ (Row.extT (Row.extT (Row.extT hra (NewB.ext n3)) x16) x19)) ?_)))))))
          rintro _ w23 ⟨rfl,x22⟩
          refine s_assign (v := .int .i64 (code (atB x.a))) (ej rfl rfl) (w0 rfl) (c_done (n_then (c_ret (r_block (r_then (ret1 (v := .int .i64 (code (atB x.a))) rfl rfl rfl ?_))))))
          refine ⟨_,rfl,?_,(Ext.trans (Ext.trans (Ext.trans (NewB.ext n3) x16) x19) x22)⟩
          (refine congrArg (Value.int .i64) ?_; unfold ltB; (rw [if_pos (by omega)]; ((try simp only [*,decide_true,decide_false,if_true,if_false,Bool.and_true,Bool.true_and,Bool.false_and,Bool.and_false,Bool.not_true,Bool.not_false,Bool.false_eq_true,reduceIte,not_true_eq_false,not_false_eq_true]); first | done | rfl); done))
        refine c_cond1 (vb (ej rfl rfl) (nbf h21)) (c_seq (c_reg (s_assign (v := .int .i64 40) ev_c (w0 rfl) (c_done (n_then (c_ret (r_then (r_block (r_then (ret1 (v := .int .i64 40) rfl rfl rfl ?_))))))))))
        refine ⟨_,rfl,?_,(Ext.trans (Ext.trans (NewB.ext n3) x16) x19)⟩
        (refine congrArg (Value.int .i64) ?_; unfold ltB; (rw [if_pos (by omega)]; ((try simp only [*,decide_true,decide_false,if_true,if_false,Bool.and_true,Bool.true_and,Bool.false_and,Bool.and_false,Bool.not_true,Bool.not_false,Bool.false_eq_true,reduceIte,not_true_eq_false,not_false_eq_true]); first | done | rfl); done))
      refine s_move (v := .bool true) (vb (ej rfl rfl) (nbf h18)) (w0 rfl) (s_skip (wn rfl rfl rfl rfl rfl) (s_skip (wn rfl rfl rfl rfl rfl) (s_skip (wn rfl rfl rfl rfl rfl) (s_skip (wn rfl rfl rfl rfl rfl) (s_pick1 (v := .bool true) (ej rfl rfl) ev_c (w0 rfl) (c_done (n_then (c_cond1 (ej rfl rfl) (c_seq (c_reg (s_assign (v := .int .i64 40) ev_c (w0 rfl) ?_)))))))))))
      refine c_done (n_then (c_ret (r_then (r_block (r_then (ret1 (v := .int .i64 40) rfl rfl rfl ?_))))))
      refine ⟨_,rfl,?_,(Ext.trans (NewB.ext n3) x16)⟩
      (refine congrArg (Value.int .i64) ?_; unfold ltB; (rw [if_pos (by omega)]; ((try simp only [*,decide_true,decide_false,if_true,if_false,Bool.and_true,Bool.true_and,Bool.false_and,Bool.and_false,Bool.not_true,Bool.not_false,Bool.false_eq_true,reduceIte,not_true_eq_false,not_false_eq_true]); first | done | rfl); done))
    refine s_move (v := .bool true) (vb (ej rfl rfl) (nb1 h15)) (w0 rfl) (s_skip (wn rfl rfl rfl rfl rfl) (s_skip (wn rfl rfl rfl rfl rfl) (s_skip (wn rfl rfl rfl rfl rfl) (s_skip (wn rfl rfl rfl rfl rfl) (s_pick1 (v := .bool true) (ej rfl rfl) ev_c (w0 rfl) (s_move (v := .bool true) (ej rfl rfl) (w0 rfl) (s_skip (wn rfl rfl rfl rfl rfl) (s_skip (wn rfl rfl rfl rfl rfl) (s_skip (wn rfl rfl rfl rfl rfl) (s_skip (wn rfl rfl rfl rfl rfl) (s_pick1 (v := .bool true) (ej rfl rfl) ev_c (w0 rfl) ?_)))))))))))
    refine c_done (n_then (c_cond1 (ej rfl rfl) (c_seq (c_reg (s_assign (v := .int .i64 40) ev_c (w0 rfl) (c_done (n_then (c_ret (r_then (r_block (r_then ?_)))))))))))
    refine ret1 (v := .int .i64 40) rfl rfl rfl ?_
    refine ⟨_,rfl,?_,(NewB.ext n3)⟩
    (refine congrArg (Value.int .i64) ?_; unfold ltB; (rw [if_pos (by omega)]; ((try simp only [*,decide_true,decide_false,if_true,if_false,Bool.and_true,Bool.true_and,Bool.false_and,Bool.and_false,Bool.not_true,Bool.not_false,Bool.false_eq_true,reduceIte,not_true_eq_false,not_false_eq_true]); first | done | rfl); done))
  refine c_cond0 (vb (ej rfl rfl) (decide_eq_false h14)) (c_seq (c_reg (s_cmp (r := decide (x.k = 3)) (ej rfl rfl) ev_c rfl (w0 rfl) (s_assign (v := .bool (decide (x.k = 3))) (ej rfl rfl) (w0 rfl) (c_done (n_then ?_))))))
  by_cases h24 : x.k = 3
  · refine c_cond1 (vb (ej rfl rfl) (decide_eq_true h24)) (c_seq (c_seq (c_reg (s_field (off := 1) (o' := 1) F_f38_1 (ej rfl rfl) rfl (w0 rfl) (s_field (off := 0) (o' := 1) F_f24_0 (ej rfl rfl) rfl (w0 rfl) (s_load (v := .string x.a.p) F_o9 (ej rfl rfl) (cell_of_blk (i := 1) (NewB.blk n3) rfl) (w0 rfl) (s_cmpS (r := !decide (x.a.p = (⟨#[]⟩ : ByteArray))) (ej rfl rfl) ev_c rfl (w0 rfl) ?_)))))))
    by_cases h25 : x.a.p = (⟨#[]⟩ : ByteArray)
    · refine s_move (v := .bool false) (vb (ej rfl rfl) (nb0 h25)) (w0 rfl) (s_field (off := 1) (o' := 1) F_f38_1 (ej rfl rfl) rfl (wy rfl rfl rfl rfl) (s_field (off := 1) (o' := 2) F_f24_1 (ej rfl rfl) rfl (wy rfl rfl rfl rfl) (s_load (v := .slice Aa x.a.args.length ca) F_o22 (ej rfl rfl) (cell_of_blk (i := 2) (NewB.blk n3) rfl) (wy rfl rfl rfl rfl) (s_lenL F_l22 (ej rfl rfl) (wy rfl rfl rfl rfl) (s_cmp (r := decide (0 < (x.a.args.length : Int))) (ej rfl rfl) ev_c rfl (wy rfl rfl rfl rfl) (s_pick0 (v := .bool (decide (0 < (x.a.args.length : Int)))) (ej rfl rfl) (ej rfl rfl) (w0 rfl) ?_))))))
      by_cases h26 : 0 < (x.a.args.length : Int)
      · refine s_move (v := .bool true) (vb (ej rfl rfl) (decide_eq_true h26)) (w0 rfl) (s_skip (wn rfl rfl rfl rfl rfl) (s_skip (wn rfl rfl rfl rfl rfl) (s_skip (wn rfl rfl rfl rfl rfl) (s_pick1 (v := .bool true) (ej rfl rfl) ev_c (w0 rfl) (s_move (v := .bool true) (ej rfl rfl) (w0 rfl) (s_skip (wn rfl rfl rfl rfl rfl) (s_skip (wn rfl rfl rfl rfl rfl) (s_skip (wn rfl rfl rfl rfl rfl) (s_pick1 (v := .bool true) (ej rfl rfl) ev_c (w0 rfl) (s_move (v := .bool true) (ej rfl rfl) (w0 rfl) (s_skip (wn rfl rfl rfl rfl rfl) ?_)))))))))))
        refine s_skip (wn rfl rfl rfl rfl rfl) (s_skip (wn rfl rfl rfl rfl rfl) (s_skip (wn rfl rfl rfl rfl rfl) (s_pick1 (v := .bool true) (ej rfl rfl) ev_c (w0 rfl) (c_done (n_then (c_cond1 (ej rfl rfl) (c_seq (c_reg (s_assign (v := .int .i64 40) ev_c (w0 rfl) (c_done (n_then ?_)))))))))))
        refine c_ret (r_then (r_block (r_then (ret1 (v := .int .i64 40) rfl rfl rfl ?_))))
        refine ⟨_,rfl,?_,(NewB.ext n3)⟩
        (refine congrArg (Value.int .i64) ?_; unfold ltB; (rw [if_neg (by omega),if_pos (by omega)]; first | (((try simp only [*,decide_true,decide_false,if_true,if_false,Bool.and_true,Bool.true_and,Bool.false_and,Bool.and_false,Bool.not_true,Bool.not_false,Bool.false_eq_true,reduceIte,not_true_eq_false,not_false_eq_true]); first | done | rfl); done) | (rw [show decide (1 ≤ x.r) = false from decide_eq_false (by omega)]; simp only [Bool.and_false,Bool.false_and]; rfl) | (rw [show decide (x.r ≤ 6) = false from decide_eq_false (by omega)]; simp only [Bool.and_false,Bool.false_and]; rfl) | (rw [show decide ((x.a.args.length : Int) = 0) = false from decide_eq_false (by omega)]; simp only [Bool.and_false,Bool.false_and]; rfl) | (rw [show decide (1 ≤ x.r) = true from decide_eq_true (by omega),show decide (x.r ≤ 6) = true from decide_eq_true (by omega),show decide ((x.a.args.length : Int) = 0) = true from decide_eq_true (by omega)]; ((try simp only [*,decide_true,decide_false,if_true,if_false,Bool.and_true,Bool.true_and,Bool.false_and,Bool.and_false,Bool.not_true,Bool.not_false,Bool.false_eq_true,reduceIte,not_true_eq_false,not_false_eq_true]); first | done | rfl))))
      refine s_move (v := .bool false) (vb (ej rfl rfl) (decide_eq_false h26)) (w0 rfl) (s_field (off := 3) (o' := 3) F_f38_2 (ej rfl rfl) rfl (wy rfl rfl rfl rfl) (s_load (v := .int .i8 x.r) F_o27 (ej rfl rfl) (cell_of_blk (i := 3) (NewB.blk n3) rfl) (wy rfl rfl rfl rfl) (s_cmp (r := decide (x.r < 1)) (ej rfl rfl) ev_c rfl (wy rfl rfl rfl rfl) (s_pick0 (v := .bool (decide (x.r < 1))) (ej rfl rfl) (ej rfl rfl) (w0 rfl) ?_))))
      by_cases h27 : x.r < 1
      · refine s_move (v := .bool true) (vb (ej rfl rfl) (decide_eq_true h27)) (w0 rfl) (s_skip (wn rfl rfl rfl rfl rfl) (s_skip (wn rfl rfl rfl rfl rfl) (s_skip (wn rfl rfl rfl rfl rfl) (s_pick1 (v := .bool true) (ej rfl rfl) ev_c (w0 rfl) (s_move (v := .bool true) (ej rfl rfl) (w0 rfl) (s_skip (wn rfl rfl rfl rfl rfl) (s_skip (wn rfl rfl rfl rfl rfl) (s_skip (wn rfl rfl rfl rfl rfl) (s_skip (wn rfl rfl rfl rfl rfl) (s_pick1 (v := .bool true) (ej rfl rfl) ev_c (w0 rfl) (c_done ?_)))))))))))
        refine n_then (c_cond1 (ej rfl rfl) (c_seq (c_reg (s_assign (v := .int .i64 40) ev_c (w0 rfl) (c_done (n_then (c_ret (r_then (r_block (r_then (ret1 (v := .int .i64 40) rfl rfl rfl ?_)))))))))))
        refine ⟨_,rfl,?_,(NewB.ext n3)⟩
        (refine congrArg (Value.int .i64) ?_; unfold ltB; (rw [if_neg (by omega),if_pos (by omega)]; first | (((try simp only [*,decide_true,decide_false,if_true,if_false,Bool.and_true,Bool.true_and,Bool.false_and,Bool.and_false,Bool.not_true,Bool.not_false,Bool.false_eq_true,reduceIte,not_true_eq_false,not_false_eq_true]); first | done | rfl); done) | (rw [show decide (1 ≤ x.r) = false from decide_eq_false (by omega)]; simp only [Bool.and_false,Bool.false_and]; rfl) | (rw [show decide (x.r ≤ 6) = false from decide_eq_false (by omega)]; simp only [Bool.and_false,Bool.false_and]; rfl) | (rw [show decide ((x.a.args.length : Int) = 0) = false from decide_eq_false (by omega)]; simp only [Bool.and_false,Bool.false_and]; rfl) | (rw [show decide (1 ≤ x.r) = true from decide_eq_true (by omega),show decide (x.r ≤ 6) = true from decide_eq_true (by omega),show decide ((x.a.args.length : Int) = 0) = true from decide_eq_true (by omega)]; ((try simp only [*,decide_true,decide_false,if_true,if_false,Bool.and_true,Bool.true_and,Bool.false_and,Bool.and_false,Bool.not_true,Bool.not_false,Bool.false_eq_true,reduceIte,not_true_eq_false,not_false_eq_true]); first | done | rfl))))
      refine s_move (v := .bool false) (vb (ej rfl rfl) (decide_eq_false h27)) (w0 rfl) (s_field (off := 3) (o' := 3) F_f38_2 (ej rfl rfl) rfl (wy rfl rfl rfl rfl) (s_load (v := .int .i8 x.r) F_o27 (ej rfl rfl) (cell_of_blk (i := 3) (NewB.blk n3) rfl) (wy rfl rfl rfl rfl) (s_cmp (r := decide (6 < x.r)) (ej rfl rfl) ev_c rfl (wy rfl rfl rfl rfl) (s_pick0 (v := .bool (decide (6 < x.r))) (ej rfl rfl) (ej rfl rfl) (w0 rfl) ?_))))
      by_cases h28 : 6 < x.r
      · refine s_move (v := .bool true) (vb (ej rfl rfl) (decide_eq_true h28)) (w0 rfl) (s_skip (wn rfl rfl rfl rfl rfl) (s_skip (wn rfl rfl rfl rfl rfl) (s_skip (wn rfl rfl rfl rfl rfl) (s_skip (wn rfl rfl rfl rfl rfl) (s_pick1 (v := .bool true) (ej rfl rfl) ev_c (w0 rfl) (c_done (n_then (c_cond1 (ej rfl rfl) (c_seq (c_reg (s_assign (v := .int .i64 40) ev_c (w0 rfl) ?_)))))))))))
        refine c_done (n_then (c_ret (r_then (r_block (r_then (ret1 (v := .int .i64 40) rfl rfl rfl ?_))))))
        refine ⟨_,rfl,?_,(NewB.ext n3)⟩
        (refine congrArg (Value.int .i64) ?_; unfold ltB; (rw [if_neg (by omega),if_pos (by omega)]; first | (((try simp only [*,decide_true,decide_false,if_true,if_false,Bool.and_true,Bool.true_and,Bool.false_and,Bool.and_false,Bool.not_true,Bool.not_false,Bool.false_eq_true,reduceIte,not_true_eq_false,not_false_eq_true]); first | done | rfl); done) | (rw [show decide (1 ≤ x.r) = false from decide_eq_false (by omega)]; simp only [Bool.and_false,Bool.false_and]; rfl) | (rw [show decide (x.r ≤ 6) = false from decide_eq_false (by omega)]; simp only [Bool.and_false,Bool.false_and]; rfl) | (rw [show decide ((x.a.args.length : Int) = 0) = false from decide_eq_false (by omega)]; simp only [Bool.and_false,Bool.false_and]; rfl) | (rw [show decide (1 ≤ x.r) = true from decide_eq_true (by omega),show decide (x.r ≤ 6) = true from decide_eq_true (by omega),show decide ((x.a.args.length : Int) = 0) = true from decide_eq_true (by omega)]; ((try simp only [*,decide_true,decide_false,if_true,if_false,Bool.and_true,Bool.true_and,Bool.false_and,Bool.and_false,Bool.not_true,Bool.not_false,Bool.false_eq_true,reduceIte,not_true_eq_false,not_false_eq_true]); first | done | rfl))))
      refine s_move (v := .bool false) (vb (ej rfl rfl) (decide_eq_false h28)) (w0 rfl) (s_field (off := 4) (o' := 4) F_f38_3 (ej rfl rfl) rfl (wy rfl rfl rfl rfl) (s_loadL (cs := [.int .i8 x.e1.op,.string x.e1.t.v,.int .i8 x.e1.t.l.k,.int .i64 x.e1.t.l.n,.string x.e1.t.l.s,.slice A1 x.e1.kids.length c1]) F_m36 (ej rfl rfl) rfl rfl (blk_cells (NewB.blk n3) 4 rfl) (wy rfl rfl rfl rfl) (s_call F_e76 (wy rfl rfl rfl rfl) ev_f (m1 (ej rfl rfl)) (args := #[.agg #[.int .i8 x.e1.op,.string x.e1.t.v,.int .i8 x.e1.t.l.k,.int .i64 x.e1.t.l.n,.string x.e1.t.l.s,.slice A1 x.e1.kids.length c1]]) rfl (t_CheckExpr x.e1 A1 c1 _ ho1_ (Row.extE hr1 (NewB.ext n3))) ?_)))
      rintro _ w30 ⟨rfl,x29⟩
      refine s_cmp (r := !(exB 8 x.e1)) (ej rfl rfl) ev_c (ci_tn (b := (exB 8 x.e1)) (by decide)) (wy rfl rfl rfl rfl) (s_pick0 (v := .bool (!(exB 8 x.e1))) (ej rfl rfl) (ej rfl rfl) (w0 rfl) (c_done (n_then ?_)))
      rcases Bool.eq_false_or_eq_true (exB 8 x.e1) with h31 | h31
      · refine c_cond0 (vb (ej rfl rfl) (nbt h31)) (c_skip (n_then (c_seq (c_reg (s_field (off := 10) (o' := 10) F_f38_4 (ej rfl rfl) rfl (w0 rfl) (s_loadL (cs := [.int .i8 x.e2.op,.string x.e2.t.v,.int .i8 x.e2.t.l.k,.int .i64 x.e2.t.l.n,.string x.e2.t.l.s,.slice A2 x.e2.kids.length c2]) F_m36 (ej rfl rfl) rfl rfl (blk_cells (Ext.blk x29 (NewB.blk n3)) 10 rfl) (w0 rfl) (s_call F_e76 (w0 rfl) ev_f (m1 (ej rfl rfl)) (args := #[.agg #[.int .i8 x.e2.op,.string x.e2.t.v,.int .i8 x.e2.t.l.k,.int .i64 x.e2.t.l.n,.string x.e2.t.l.s,.slice A2 x.e2.kids.length c2]]) rfl (t_CheckExpr x.e2 A2 c2 _ ho2_ (Row.extE (Row.extE hr2 (NewB.ext n3)) x29)) ?_)))))))
        rintro _ w33 ⟨rfl,x32⟩
        refine s_assign (v := .int .i64 (code (exB 8 x.e2))) (ej rfl rfl) (w0 rfl) (c_done (n_then (c_ret (r_block (r_then (ret1 (v := .int .i64 (code (exB 8 x.e2))) rfl rfl rfl ?_))))))
        refine ⟨_,rfl,?_,(Ext.trans (Ext.trans (NewB.ext n3) x29) x32)⟩
        (refine congrArg (Value.int .i64) ?_; unfold ltB; (rw [if_neg (by omega),if_pos (by omega)]; first | (((try simp only [*,decide_true,decide_false,if_true,if_false,Bool.and_true,Bool.true_and,Bool.false_and,Bool.and_false,Bool.not_true,Bool.not_false,Bool.false_eq_true,reduceIte,not_true_eq_false,not_false_eq_true]); first | done | rfl); done) | (rw [show decide (1 ≤ x.r) = false from decide_eq_false (by omega)]; simp only [Bool.and_false,Bool.false_and]; rfl) | (rw [show decide (x.r ≤ 6) = false from decide_eq_false (by omega)]; simp only [Bool.and_false,Bool.false_and]; rfl) | (rw [show decide ((x.a.args.length : Int) = 0) = false from decide_eq_false (by omega)]; simp only [Bool.and_false,Bool.false_and]; rfl) | (rw [show decide (1 ≤ x.r) = true from decide_eq_true (by omega),show decide (x.r ≤ 6) = true from decide_eq_true (by omega),show decide ((x.a.args.length : Int) = 0) = true from decide_eq_true (by omega)]; ((try simp only [*,decide_true,decide_false,if_true,if_false,Bool.and_true,Bool.true_and,Bool.false_and,Bool.and_false,Bool.not_true,Bool.not_false,Bool.false_eq_true,reduceIte,not_true_eq_false,not_false_eq_true]); first | done | rfl))))
      refine c_cond1 (vb (ej rfl rfl) (nbf h31)) (c_seq (c_reg (s_assign (v := .int .i64 40) ev_c (w0 rfl) (c_done (n_then (c_ret (r_then (r_block (r_then (ret1 (v := .int .i64 40) rfl rfl rfl ?_))))))))))
      refine ⟨_,rfl,?_,(Ext.trans (NewB.ext n3) x29)⟩
      (refine congrArg (Value.int .i64) ?_; unfold ltB; (rw [if_neg (by omega),if_pos (by omega)]; first | (((try simp only [*,decide_true,decide_false,if_true,if_false,Bool.and_true,Bool.true_and,Bool.false_and,Bool.and_false,Bool.not_true,Bool.not_false,Bool.false_eq_true,reduceIte,not_true_eq_false,not_false_eq_true]); first | done | rfl); done) | (rw [show decide (1 ≤ x.r) = false from decide_eq_false (by omega)]; simp only [Bool.and_false,Bool.false_and]; rfl) | (rw [show decide (x.r ≤ 6) = false from decide_eq_false (by omega)]; simp only [Bool.and_false,Bool.false_and]; rfl) | (rw [show decide ((x.a.args.length : Int) = 0) = false from decide_eq_false (by omega)]; simp only [Bool.and_false,Bool.false_and]; rfl) | (rw [show decide (1 ≤ x.r) = true from decide_eq_true (by omega),show decide (x.r ≤ 6) = true from decide_eq_true (by omega),show decide ((x.a.args.length : Int) = 0) = true from decide_eq_true (by omega)]; ((try simp only [*,decide_true,decide_false,if_true,if_false,Bool.and_true,Bool.true_and,Bool.false_and,Bool.and_false,Bool.not_true,Bool.not_false,Bool.false_eq_true,reduceIte,not_true_eq_false,not_false_eq_true]); first | done | rfl))))
    refine s_move (v := .bool true) (vb (ej rfl rfl) (nb1 h25)) (w0 rfl) (s_skip (wn rfl rfl rfl rfl rfl) (s_skip (wn rfl rfl rfl rfl rfl) (s_skip (wn rfl rfl rfl rfl rfl) (s_skip (wn rfl rfl rfl rfl rfl) (s_skip (wn rfl rfl rfl rfl rfl) (s_pick1 (v := .bool true) (ej rfl rfl) ev_c (w0 rfl) (s_move (v := .bool true) (ej rfl rfl) (w0 rfl) (s_skip (wn rfl rfl rfl rfl rfl) (s_skip (wn rfl rfl rfl rfl rfl) (s_skip (wn rfl rfl rfl rfl rfl) (s_pick1 (v := .bool true) (ej rfl rfl) ev_c (w0 rfl) ?_)))))))))))
    refine s_move (v := .bool true) (ej rfl rfl) (w0 rfl) (s_skip (wn rfl rfl rfl rfl rfl) (s_skip (wn rfl rfl rfl rfl rfl) (s_skip (wn rfl rfl rfl rfl rfl) (s_pick1 (v := .bool true) (ej rfl rfl) ev_c (w0 rfl) (s_move (v := .bool true) (ej rfl rfl) (w0 rfl) (s_skip (wn rfl rfl rfl rfl rfl) (s_skip (wn rfl rfl rfl rfl rfl) (s_skip (wn rfl rfl rfl rfl rfl) (s_skip (wn rfl rfl rfl rfl rfl) (s_pick1 (v := .bool true) (ej rfl rfl) ev_c (w0 rfl) (c_done ?_)))))))))))
    refine n_then (c_cond1 (ej rfl rfl) (c_seq (c_reg (s_assign (v := .int .i64 40) ev_c (w0 rfl) (c_done (n_then (c_ret (r_then (r_block (r_then (ret1 (v := .int .i64 40) rfl rfl rfl ?_)))))))))))
    refine ⟨_,rfl,?_,(NewB.ext n3)⟩
    (refine congrArg (Value.int .i64) ?_; unfold ltB; (rw [if_neg (by omega),if_pos (by omega)]; first | (((try simp only [*,decide_true,decide_false,if_true,if_false,Bool.and_true,Bool.true_and,Bool.false_and,Bool.and_false,Bool.not_true,Bool.not_false,Bool.false_eq_true,reduceIte,not_true_eq_false,not_false_eq_true]); first | done | rfl); done) | (rw [show decide (1 ≤ x.r) = false from decide_eq_false (by omega)]; simp only [Bool.and_false,Bool.false_and]; rfl) | (rw [show decide (x.r ≤ 6) = false from decide_eq_false (by omega)]; simp only [Bool.and_false,Bool.false_and]; rfl) | (rw [show decide ((x.a.args.length : Int) = 0) = false from decide_eq_false (by omega)]; simp only [Bool.and_false,Bool.false_and]; rfl) | (rw [show decide (1 ≤ x.r) = true from decide_eq_true (by omega),show decide (x.r ≤ 6) = true from decide_eq_true (by omega),show decide ((x.a.args.length : Int) = 0) = true from decide_eq_true (by omega)]; ((try simp only [*,decide_true,decide_false,if_true,if_false,Bool.and_true,Bool.true_and,Bool.false_and,Bool.and_false,Bool.not_true,Bool.not_false,Bool.false_eq_true,reduceIte,not_true_eq_false,not_false_eq_true]); first | done | rfl))))
  refine c_cond0 (vb (ej rfl rfl) (decide_eq_false h24)) (c_skip (n_block (n_then (c_seq (c_reg (s_assign (v := .int .i64 40) ev_c (w0 rfl) (c_done (n_then (c_ret (ret1 (v := .int .i64 40) rfl rfl rfl ?_))))))))))
  refine ⟨_,rfl,?_,(NewB.ext n3)⟩
  (refine congrArg (Value.int .i64) ?_; unfold ltB; (rw [if_neg (by omega),if_neg (by omega)]; rfl))
theorem r6_rel (r : Int) (w : World) :
    Rt Tryz.prog 74 #[.int .i8 r] w fun v w' => v = .string (relW r) ∧ Ext w w' := by
  refine enter Tryz.func74 rfl (l := [.int .i8 r]) rfl Tryz.ntmps74 (Nat.le_of_ble_eq_true rfl) ?_
  refine c_seq (c_reg (s_assign (v := .string (⟨#[]⟩ : ByteArray)) ev_c (w0 rfl) (c_done (n_then (c_seq (c_seq (c_reg (s_move (v := .int .i8 r) (ej rfl rfl) (w0 rfl) (c_done (n_then (c_block ?_)))))))))))
  refine c_seq (c_reg (s_cmp (r := decide (r = 1)) (ej rfl rfl) ev_c rfl (w0 rfl) (s_assign (v := .bool (decide (r = 1))) (ej rfl rfl) (w0 rfl) (c_done (n_then ?_)))))
  by_cases h1 : r = 1
  · refine c_cond1 (vb (ej rfl rfl) (decide_eq_true h1)) (c_seq (c_reg (s_assign (v := .string (⟨#[61]⟩ : ByteArray)) ev_c (w0 rfl) (c_done (n_then (c_ret (r_block (r_then (ret1 (v := .string (⟨#[61]⟩ : ByteArray)) rfl rfl rfl ?_)))))))))
    refine ⟨_,rfl,?_,(Ext.refl w)⟩
    (first | rfl | (simp [relW, *]; done) | (simp [relW, *]; omega) | (simp [relW, *] <;> omega))
  refine c_cond0 (vb (ej rfl rfl) (decide_eq_false h1)) (c_seq (c_reg (s_cmp (r := decide (r = 2)) (ej rfl rfl) ev_c rfl (w0 rfl) (s_assign (v := .bool (decide (r = 2))) (ej rfl rfl) (w0 rfl) (c_done (n_then ?_))))))
  by_cases h2 : r = 2
  · refine c_cond1 (vb (ej rfl rfl) (decide_eq_true h2)) (c_seq (c_reg (s_assign (v := .string (⟨#[33,61]⟩ : ByteArray)) ev_c (w0 rfl) (c_done (n_then (c_ret (r_block (r_then (ret1 (v := .string (⟨#[33,61]⟩ : ByteArray)) rfl rfl rfl ?_)))))))))
    refine ⟨_,rfl,?_,(Ext.refl w)⟩
    (first | rfl | (simp [relW, *]; done) | (simp [relW, *]; omega) | (simp [relW, *] <;> omega))
  refine c_cond0 (vb (ej rfl rfl) (decide_eq_false h2)) (c_seq (c_reg (s_cmp (r := decide (r = 3)) (ej rfl rfl) ev_c rfl (w0 rfl) (s_assign (v := .bool (decide (r = 3))) (ej rfl rfl) (w0 rfl) (c_done (n_then ?_))))))
  by_cases h3 : r = 3
  · refine c_cond1 (vb (ej rfl rfl) (decide_eq_true h3)) (c_seq (c_reg (s_assign (v := .string (⟨#[60]⟩ : ByteArray)) ev_c (w0 rfl) (c_done (n_then (c_ret (r_block (r_then (ret1 (v := .string (⟨#[60]⟩ : ByteArray)) rfl rfl rfl ?_)))))))))
    refine ⟨_,rfl,?_,(Ext.refl w)⟩
    (first | rfl | (simp [relW, *]; done) | (simp [relW, *]; omega) | (simp [relW, *] <;> omega))
  refine c_cond0 (vb (ej rfl rfl) (decide_eq_false h3)) (c_seq (c_reg (s_cmp (r := decide (r = 4)) (ej rfl rfl) ev_c rfl (w0 rfl) (s_assign (v := .bool (decide (r = 4))) (ej rfl rfl) (w0 rfl) (c_done (n_then ?_))))))
  by_cases h4 : r = 4
  · refine c_cond1 (vb (ej rfl rfl) (decide_eq_true h4)) (c_seq (c_reg (s_assign (v := .string (⟨#[60,61]⟩ : ByteArray)) ev_c (w0 rfl) (c_done (n_then (c_ret (r_block (r_then (ret1 (v := .string (⟨#[60,61]⟩ : ByteArray)) rfl rfl rfl ?_)))))))))
    refine ⟨_,rfl,?_,(Ext.refl w)⟩
    (first | rfl | (simp [relW, *]; done) | (simp [relW, *]; omega) | (simp [relW, *] <;> omega))
  refine c_cond0 (vb (ej rfl rfl) (decide_eq_false h4)) (c_seq (c_reg (s_cmp (r := decide (r = 5)) (ej rfl rfl) ev_c rfl (w0 rfl) (s_assign (v := .bool (decide (r = 5))) (ej rfl rfl) (w0 rfl) (c_done (n_then ?_))))))
  by_cases h5 : r = 5
  · refine c_cond1 (vb (ej rfl rfl) (decide_eq_true h5)) (c_seq (c_reg (s_assign (v := .string (⟨#[62]⟩ : ByteArray)) ev_c (w0 rfl) (c_done (n_then (c_ret (r_block (r_then (ret1 (v := .string (⟨#[62]⟩ : ByteArray)) rfl rfl rfl ?_)))))))))
    refine ⟨_,rfl,?_,(Ext.refl w)⟩
    (first | rfl | (simp [relW, *]; done) | (simp [relW, *]; omega) | (simp [relW, *] <;> omega))
  refine c_cond0 (vb (ej rfl rfl) (decide_eq_false h5)) (c_skip (n_block (n_then (c_seq (c_reg (s_assign (v := .string (⟨#[62,61]⟩ : ByteArray)) ev_c (w0 rfl) (c_done (n_then (c_ret (ret1 (v := .string (⟨#[62,61]⟩ : ByteArray)) rfl rfl rfl ?_))))))))))
  refine ⟨_,rfl,?_,(Ext.refl w)⟩
  (first | rfl | (simp [relW, *]; done) | (simp [relW, *]; omega) | (simp [relW, *] <;> omega))
end Go.Proofs.Zw

set_option linter.unusedVariables false
set_option linter.unusedSimpArgs false
set_option maxRecDepth 10000
namespace Go.Proofs.Zw
open Go Go.Wk Go.Proofs Go.Lib
attribute [local irreducible] Go.wpList Go.wpStill Go.wpQuiet Go.Code.wp Go.Calls
theorem F_e37 : enterable Tryz.prog 37 = true := by kernel_rfl
theorem F_e74 : enterable Tryz.prog 74 = true := by kernel_rfl
theorem r6_literal (x : Lt) (Aa A1 A2 : Option Addr) (ca c1 c2 : Nat) (w : World) (ho : x.okc ca c1 c2) (hra : Row RT 4 w Aa x.a.args) (hr1 : Row RE 6 w A1 x.e1.kids) (hr2 : Row RE 6 w A2 x.e2.kids) (hlt : ltB x = true) :
    Rt Tryz.prog 37 #[.agg #[.int .i8 x.k,.string x.a.p,.slice Aa x.a.args.length ca,.int .i8 x.r,.int .i8 x.e1.op,.string x.e1.t.v,.int .i8 x.e1.t.l.k,.int .i64 x.e1.t.l.n,.string x.e1.t.l.s,.slice A1 x.e1.kids.length c1,.int .i8 x.e2.op,.string x.e2.t.v,.int .i8 x.e2.t.l.k,.int .i64 x.e2.t.l.n,.string x.e2.t.l.s,.slice A2 x.e2.kids.length c2]] w fun v w' => v = .string (ltW x) ∧ Ext w w' := by
  refine enter Tryz.func37 rfl (l := [.agg #[.int .i8 x.k,.string x.a.p,.slice Aa x.a.args.length ca,.int .i8 x.r,.int .i8 x.e1.op,.string x.e1.t.v,.int .i8 x.e1.t.l.k,.int .i64 x.e1.t.l.n,.string x.e1.t.l.s,.slice A1 x.e1.kids.length c1,.int .i8 x.e2.op,.string x.e2.t.v,.int .i8 x.e2.t.l.k,.int .i64 x.e2.t.l.n,.string x.e2.t.l.s,.slice A2 x.e2.kids.length c2]]) rfl Tryz.ntmps37 (Nat.le_of_ble_eq_true rfl) ?_
  have hoa_ := Lt.okc.a ho
  have ho1_ := Lt.okc.e1 ho
  have ho2_ := Lt.okc.e2 ho
  have hl1_ := Ex.okc.l ho1_
  have hl2_ := Ex.okc.l ho2_
  have hc1_ := Ex.okc.c ho1_
  have hc2_ := Ex.okc.c ho2_
  have hla_ := At.okc.l hoa_
  have hca_ := At.okc.c hoa_
  have hpa_ := At.okc.p hoa_
  have hrz_ := relW_size x.r
  refine c_seq (c_reg (s_box (v := .agg #[.int .i8 x.k,.string x.a.p,.slice Aa x.a.args.length ca,.int .i8 x.r,.int .i8 x.e1.op,.string x.e1.t.v,.int .i8 x.e1.t.l.k,.int .i64 x.e1.t.l.n,.string x.e1.t.l.s,.slice A1 x.e1.kids.length c1,.int .i8 x.e2.op,.string x.e2.t.v,.int .i8 x.e2.t.l.k,.int .i64 x.e2.t.l.n,.string x.e2.t.l.s,.slice A2 x.e2.kids.length c2]) (cs := #[.int .i8 x.k,.string x.a.p,.slice Aa x.a.args.length ca,.int .i8 x.r,.int .i8 x.e1.op,.string x.e1.t.v,.int .i8 x.e1.t.l.k,.int .i64 x.e1.t.l.n,.string x.e1.t.l.s,.slice A1 x.e1.kids.length c1,.int .i8 x.e2.op,.string x.e2.t.v,.int .i8 x.e2.t.l.k,.int .i64 x.e2.t.l.n,.string x.e2.t.l.s,.slice A2 x.e2.kids.length c2]) (w0 rfl) (ej rfl rfl) rfl ?_))
  intro w2 g1 n3
  refine s_assign (v := .string (⟨#[]⟩ : ByteArray)) ev_c (w0 rfl) (c_done (n_then (c_seq (c_seq (c_reg (s_field (off := 0) (o' := 0) F_f38_0 (ej rfl rfl) rfl (w0 rfl) (s_load (v := .int .i8 x.k) F_o26 (ej rfl rfl) (cell_of_blk (i := 0) (NewB.blk n3) rfl) (w0 rfl) (c_done (n_then (c_block (c_seq ?_)))))))))))
  refine c_reg (s_cmp (r := decide (x.k = 1)) (ej rfl rfl) ev_c rfl (w0 rfl) (s_assign (v := .bool (decide (x.k = 1))) (ej rfl rfl) (w0 rfl) (c_done (n_then ?_))))
  by_cases h4 : x.k = 1
  · refine c_cond1 (vb (ej rfl rfl) (decide_eq_true h4)) (c_seq (c_reg (s_field (off := 1) (o' := 1) F_f38_1 (ej rfl rfl) rfl (w0 rfl) (s_loadL (cs := [.string x.a.p,.slice Aa x.a.args.length ca]) F_m24 (ej rfl rfl) rfl rfl (blk_cells (NewB.blk n3) 1 rfl) (w0 rfl) ?_))))
    have hz5 := atW_size (lt_at hlt (by omega)) hra
    refine s_call F_e32 (w0 rfl) ev_f (m1 (ej rfl rfl)) (args := #[.agg #[.string x.a.p,.slice Aa x.a.args.length ca]]) rfl (r6_atom x.a Aa ca _ hoa_ (Row.extT hra (NewB.ext n3)) (lt_at hlt (by omega))) ?_
    rintro _ w7 ⟨rfl,x6⟩
    refine s_assign (v := .string (atW x.a)) (ej rfl rfl) (w0 rfl) (c_done (n_then (c_ret (r_block (r_then (ret1 (v := .string (atW x.a)) rfl rfl rfl ?_))))))
    refine ⟨_,rfl,?_,(Ext.trans (NewB.ext n3) x6)⟩
    (refine congrArg Value.string ?_; unfold ltW; first | (rw [if_pos (by omega)]; done) | (rw [if_neg (by omega),if_pos (by omega)]; done) | (rw [if_neg (by omega),if_neg (by omega)]; done))
  refine c_cond0 (vb (ej rfl rfl) (decide_eq_false h4)) (c_seq (c_reg (s_cmp (r := decide (x.k = 2)) (ej rfl rfl) ev_c rfl (w0 rfl) (s_assign (v := .bool (decide (x.k = 2))) (ej rfl rfl) (w0 rfl) (c_done (n_then ?_))))))
  by_cases h8 : x.k = 2
  · refine c_cond1 (vb (ej rfl rfl) (decide_eq_true h8)) (c_seq (c_reg (s_field (off := 1) (o' := 1) F_f38_1 (ej rfl rfl) rfl (w0 rfl) (s_loadL (cs := [.string x.a.p,.slice Aa x.a.args.length ca]) F_m24 (ej rfl rfl) rfl rfl (blk_cells (NewB.blk n3) 1 rfl) (w0 rfl) ?_))))
    have hz9 := atW_size (lt_at hlt (by omega)) hra
    refine s_call F_e32 (w0 rfl) ev_f (m1 (ej rfl rfl)) (args := #[.agg #[.string x.a.p,.slice Aa x.a.args.length ca]]) rfl (r6_atom x.a Aa ca _ hoa_ (Row.extT hra (NewB.ext n3)) (lt_at hlt (by omega))) ?_
    rintro _ w11 ⟨rfl,x10⟩
    refine s_cat ev_c (ej rfl rfl) (by (try simp only [ByteArray.size_append,z0,z1,z2,z3,z4,z5,z6]); omega) (w0 rfl) (s_assign (v := .string ((⟨#[110,111,116,32]⟩ : ByteArray) ++ (atW x.a))) (ej rfl rfl) (w0 rfl) (c_done (n_then (c_ret (r_block (r_then (ret1 (v := .string ((⟨#[110,111,116,32]⟩ : ByteArray) ++ (atW x.a))) rfl rfl rfl ?_)))))))
    refine ⟨_,rfl,?_,(Ext.trans (NewB.ext n3) x10)⟩
    (refine congrArg Value.string ?_; unfold ltW; first | (rw [if_pos (by omega)]; done) | (rw [if_neg (by omega),if_pos (by omega)]; done) | (rw [if_neg (by omega),if_neg (by omega)]; done))
  refine c_cond0 (vb (ej rfl rfl) (decide_eq_false h8)) (c_skip (n_block (n_then (c_seq (c_quiet mixed (by kernel_rfl) (q_val (v := .pointer (some ⟨g1,4,none⟩)) (w0 rfl) (fun w_ c_ => r_field (off := 4) (o' := 4) F_f38_3 (ej rfl rfl) rfl) (q_val (v := .agg #[.int .i8 x.e1.op,.string x.e1.t.v,.int .i8 x.e1.t.l.k,.int .i64 x.e1.t.l.n,.string x.e1.t.l.s,.slice A1 x.e1.kids.length c1]) (w0 rfl) (fun w_ c_ => r_loadL (cs := [.int .i8 x.e1.op,.string x.e1.t.v,.int .i8 x.e1.t.l.k,.int .i64 x.e1.t.l.n,.string x.e1.t.l.s,.slice A1 x.e1.kids.length c1]) F_m36 (ej rfl rfl) rfl rfl (blk_cells (Ext.blk c_ (NewB.blk n3)) 4 rfl)) ?_)))))))
  have hz12 := exW_le (d := 8) (by decide) (lt_e1 hlt (by omega) (by omega)) (Go.Wk.Row.ok hr1 (Ex.okc.t ho1_))
  refine q_call (v := .string (exW 8 x.e1)) F_e73 (w0 rfl) ev_f (m1 (ej rfl rfl)) (args := #[.agg #[.int .i8 x.e1.op,.string x.e1.t.v,.int .i8 x.e1.t.l.k,.int .i64 x.e1.t.l.n,.string x.e1.t.l.s,.slice A1 x.e1.kids.length c1]]) rfl (fun w_ c_ => Rt.mono (r6_expr 8 x.e1 A1 c1 _ (by decide) (lt_e1 hlt (by omega) (by omega)) ho1_ (Row.extE (Row.extE hr1 (NewB.ext n3)) c_)) (fun v_ w2_ h_ => ⟨h_.1,Ext.trans c_ h_.2⟩)) (q_val (v := .string (exW 8 x.e1 ++ (⟨#[32]⟩ : ByteArray))) (w0 rfl) (fun w_ c_ => r_cat (ej rfl rfl) ev_c (by (try simp only [ByteArray.size_append,z0,z1,z2,z3,z4,z5,z6]); omega)) (q_val (v := .pointer (some ⟨g1,3,none⟩)) (w0 rfl) (fun w_ c_ => r_field (off := 3) (o' := 3) F_f38_2 (ej rfl rfl) rfl) (q_val (v := .int .i8 x.r) (w0 rfl) (fun w_ c_ => r_load (v := .int .i8 x.r) F_o27 (ej rfl rfl) (cell_of_blk (i := 3) (Ext.blk c_ (NewB.blk n3)) rfl)) (q_call (v := .string (relW x.r)) F_e74 (w0 rfl) ev_f (m1 (ej rfl rfl)) (args := #[.int .i8 x.r]) rfl (fun w_ c_ => Rt.mono (r6_rel x.r _) (fun v_ w2_ h_ => ⟨h_.1,Ext.trans c_ h_.2⟩)) (q_val (v := .string (exW 8 x.e1 ++ (⟨#[32]⟩ : ByteArray) ++ (relW x.r))) (w0 rfl) (fun w_ c_ => r_cat (ej rfl rfl) (ej rfl rfl) (by (try simp only [ByteArray.size_append,z0,z1,z2,z3,z4,z5,z6]); omega)) (q_val (v := .string (exW 8 x.e1 ++ (⟨#[32]⟩ : ByteArray) ++ (relW x.r) ++ (⟨#[32]⟩ : ByteArray))) (w0 rfl) (fun w_ c_ => r_cat (ej rfl rfl) ev_c (by (try simp only [ByteArray.size_append,z0,z1,z2,z3,z4,z5,z6]); omega)) (q_val (v := .pointer (some ⟨g1,10,none⟩)) (w0 rfl) (fun w_ c_ => r_field (off := 10) (o' := 10) F_f38_4 (ej rfl rfl) rfl) (q_val (v := .agg #[.int .i8 x.e2.op,.string x.e2.t.v,.int .i8 x.e2.t.l.k,.int .i64 x.e2.t.l.n,.string x.e2.t.l.s,.slice A2 x.e2.kids.length c2]) (w0 rfl) (fun w_ c_ => r_loadL (cs := [.int .i8 x.e2.op,.string x.e2.t.v,.int .i8 x.e2.t.l.k,.int .i64 x.e2.t.l.n,.string x.e2.t.l.s,.slice A2 x.e2.kids.length c2]) F_m36 (ej rfl rfl) rfl rfl (blk_cells (Ext.blk c_ (NewB.blk n3)) 10 rfl)) ?_))))))))
  have hz13 := exW_le (d := 8) (by decide) (lt_e2 hlt (by omega) (by omega)) (Go.Wk.Row.ok hr2 (Ex.okc.t ho2_))
  refine q_call (v := .string (exW 8 x.e2)) F_e73 (w0 rfl) ev_f (m1 (ej rfl rfl)) (args := #[.agg #[.int .i8 x.e2.op,.string x.e2.t.v,.int .i8 x.e2.t.l.k,.int .i64 x.e2.t.l.n,.string x.e2.t.l.s,.slice A2 x.e2.kids.length c2]]) rfl (fun w_ c_ => Rt.mono (r6_expr 8 x.e2 A2 c2 _ (by decide) (lt_e2 hlt (by omega) (by omega)) ho2_ (Row.extE (Row.extE hr2 (NewB.ext n3)) c_)) (fun v_ w2_ h_ => ⟨h_.1,Ext.trans c_ h_.2⟩)) (q_val (v := .string (exW 8 x.e1 ++ (⟨#[32]⟩ : ByteArray) ++ (relW x.r) ++ (⟨#[32]⟩ : ByteArray) ++ (exW 8 x.e2))) (w0 rfl) (fun w_ c_ => r_cat (ej rfl rfl) (ej rfl rfl) (by (try simp only [ByteArray.size_append,z0,z1,z2,z3,z4,z5,z6]); omega)) (q_val (v := .string (exW 8 x.e1 ++ (⟨#[32]⟩ : ByteArray) ++ (relW x.r) ++ (⟨#[32]⟩ : ByteArray) ++ (exW 8 x.e2))) (w0 rfl) (fun w_ c_ => r_assign (v := .string (exW 8 x.e1 ++ (⟨#[32]⟩ : ByteArray) ++ (relW x.r) ++ (⟨#[32]⟩ : ByteArray) ++ (exW 8 x.e2))) (ej rfl rfl)) (q_done ?_)))
  intro w14 x15
  refine n_then (c_ret (ret1 (v := .string (exW 8 x.e1 ++ (⟨#[32]⟩ : ByteArray) ++ (relW x.r) ++ (⟨#[32]⟩ : ByteArray) ++ (exW 8 x.e2))) rfl rfl rfl ?_))
  refine ⟨_,rfl,?_,(Ext.trans (NewB.ext n3) x15)⟩
  (refine congrArg Value.string ?_; unfold ltW; first | (rw [if_pos (by omega)]; done) | (rw [if_neg (by omega),if_pos (by omega)]; done) | (rw [if_neg (by omega),if_neg (by omega)]; done))
end Go.Proofs.Zw

set_option linter.unusedVariables false
set_option linter.unusedSimpArgs false
namespace Go.Wk
open Go Go.RowKit Go.Lib
/-- The table of comparisons. -/
def RelT (P : Program) (w : World) : Prop := w.var? P "pedigree/print.rels" = some #[.string ⟨#[]⟩, .string ⟨#[61]⟩, .string ⟨#[33, 61]⟩, .string ⟨#[60]⟩, .string ⟨#[60, 61]⟩, .string ⟨#[62]⟩, .string ⟨#[62, 61]⟩]
theorem RelT.ext {P : Program} {w w' : World} (h : RelT P w) (k : Ext w w') : RelT P w' := var_ext h k
theorem RelT.at_ {P : Program} {w : World} {g : Nat} {op : Int} (h : RelT P w) (hg : P.globalNamed "pedigree/print.rels" = some g) (ho : 1 ≤ op ∧ op ≤ 6) : w.cell? ⟨g, 0 + op.toNat * 1, none⟩ = some (.string (relW op)) := by
  refine var_cell h hg ?_
  have : op = 1 ∨ op = 2 ∨ op = 3 ∨ op = 4 ∨ op = 5 ∨ op = 6 := by omega
  rcases this with rfl | rfl | rfl | rfl | rfl | rfl <;> rfl
end Go.Wk

set_option linter.unusedVariables false
set_option linter.unusedSimpArgs false
set_option maxRecDepth 10000
namespace Go.Proofs.Zw
open Go Go.Wk Go.Proofs Go.Lib
attribute [local irreducible] Go.wpList Go.wpStill Go.wpQuiet Go.Code.wp Go.Calls
theorem F_ar154 : arrayT Tryz.prog 154 7 1 = true := by kernel_rfl
theorem F_gn0 : Tryz.prog.globalNamed "pedigree/print.rels" = some 0 := by kernel_rfl
theorem p_pos (x : Lt) (Aa A1 A2 : Option Addr) (ca c1 c2 : Nat) (g : Nat) (s0 : ByteArray) (wz : World) (w : World) (x0 : Ext wz w) (tb : Tabs Tryz.prog wz) (hb : BW 5 97 wz.heap.size w g s0) (ho : x.okc ca c1 c2) (hra : Row RT 4 wz Aa x.a.args) (hr1 : Row RE 6 wz A1 x.e1.kids) (hr2 : Row RE 6 wz A2 x.e2.kids) (hlt : ltB x = true) (tr : RelT Tryz.prog wz) (hs : s0.size + 1000000 ≤ 100000000000000) (hk : x.k = 1) :
    Rt Tryz.prog 77 #[.pointer (some ⟨g,0,none⟩),.agg #[.int .i8 x.k,.string x.a.p,.slice Aa x.a.args.length ca,.int .i8 x.r,.int .i8 x.e1.op,.string x.e1.t.v,.int .i8 x.e1.t.l.k,.int .i64 x.e1.t.l.n,.string x.e1.t.l.s,.slice A1 x.e1.kids.length c1,.int .i8 x.e2.op,.string x.e2.t.v,.int .i8 x.e2.t.l.k,.int .i64 x.e2.t.l.n,.string x.e2.t.l.s,.slice A2 x.e2.kids.length c2]] w fun v w' => v = .tuple #[] ∧ Wr 5 97 wz.heap.size g (s0 ++ ltW x) w w' := by
  refine enter Tryz.func77 rfl (l := [.pointer (some ⟨g,0,none⟩),.agg #[.int .i8 x.k,.string x.a.p,.slice Aa x.a.args.length ca,.int .i8 x.r,.int .i8 x.e1.op,.string x.e1.t.v,.int .i8 x.e1.t.l.k,.int .i64 x.e1.t.l.n,.string x.e1.t.l.s,.slice A1 x.e1.kids.length c1,.int .i8 x.e2.op,.string x.e2.t.v,.int .i8 x.e2.t.l.k,.int .i64 x.e2.t.l.n,.string x.e2.t.l.s,.slice A2 x.e2.kids.length c2]]) rfl Tryz.ntmps77 (Nat.le_of_ble_eq_true rfl) ?_
  have hB_ := Keep.size x0
  have hoa_ := Lt.okc.a ho
  have ho1_ := Lt.okc.e1 ho
  have ho2_ := Lt.okc.e2 ho
  have hl1_ := Ex.okc.l ho1_
  have hl2_ := Ex.okc.l ho2_
  have hc1_ := Ex.okc.c ho1_
  have hc2_ := Ex.okc.c ho2_
  have hla_ := At.okc.l hoa_
  have hca_ := At.okc.c hoa_
  have hpa_ := At.okc.p hoa_
  have hrz_ := relW_size x.r
  refine c_seq (c_reg (s_box (v := .agg #[.int .i8 x.k,.string x.a.p,.slice Aa x.a.args.length ca,.int .i8 x.r,.int .i8 x.e1.op,.string x.e1.t.v,.int .i8 x.e1.t.l.k,.int .i64 x.e1.t.l.n,.string x.e1.t.l.s,.slice A1 x.e1.kids.length c1,.int .i8 x.e2.op,.string x.e2.t.v,.int .i8 x.e2.t.l.k,.int .i64 x.e2.t.l.n,.string x.e2.t.l.s,.slice A2 x.e2.kids.length c2]) (cs := #[.int .i8 x.k,.string x.a.p,.slice Aa x.a.args.length ca,.int .i8 x.r,.int .i8 x.e1.op,.string x.e1.t.v,.int .i8 x.e1.t.l.k,.int .i64 x.e1.t.l.n,.string x.e1.t.l.s,.slice A1 x.e1.kids.length c1,.int .i8 x.e2.op,.string x.e2.t.v,.int .i8 x.e2.t.l.k,.int .i64 x.e2.t.l.n,.string x.e2.t.l.s,.slice A2 x.e2.kids.length c2]) (w0 rfl) (ej rfl rfl) rfl ?_))
  intro w2 g1 n3
  have ne_g1 : g1 ≠ g := by have a_ := NewB.eq n3; have b_ := BW.lt hb; omega
  refine c_done (n_then (c_reg (s_move (v := .pointer (some ⟨g,0,none⟩)) (ej rfl rfl) (w0 rfl) (s_field (off := 1) (o' := 1) F_f38_1 (ej rfl rfl) rfl (w0 rfl) (s_loadL (cs := [.string x.a.p,.slice Aa x.a.args.length ca]) F_m24 (ej rfl rfl) rfl rfl (blk_cells (NewB.blk n3) 1 rfl) (w0 rfl) (s_call F_e35 (w0 rfl) ev_f (m2 (ej rfl rfl) (ej rfl rfl)) (args := #[.pointer (some ⟨g,0,none⟩),.agg #[.string x.a.p,.slice Aa x.a.args.length ca]]) rfl (p_atom x.a Aa ca g (s0) wz _ (Ext.trans x0 (NewB.ext n3)) tb (BW.ext hb (NewB.ext n3)) hoa_ hra (lt_at hlt (by omega)) (by (try simp only [catL,ByteArray.size_append,z0,z4]); omega)) ?_))))))
  rintro _ w4 ⟨rfl,wr5⟩
  refine c_done (ret0 rfl ?_)
  exact ⟨_,rfl,rfl,Wr.cast (Wr.then_ (Wr.of_ext hb (NewB.ext n3) hB_) wr5) (by unfold ltW; first | (rw [if_pos (by omega)]; done) | (rw [if_neg (by omega),if_pos (by omega)]; simp only [catL,app_nil,app_assoc]; done) | (rw [if_neg (by omega),if_neg (by omega)]; simp only [catL,app_nil,app_assoc]; done))⟩
theorem p_not (x : Lt) (Aa A1 A2 : Option Addr) (ca c1 c2 : Nat) (g : Nat) (s0 : ByteArray) (wz : World) (w : World) (x0 : Ext wz w) (tb : Tabs Tryz.prog wz) (hb : BW 5 97 wz.heap.size w g s0) (ho : x.okc ca c1 c2) (hra : Row RT 4 wz Aa x.a.args) (hr1 : Row RE 6 wz A1 x.e1.kids) (hr2 : Row RE 6 wz A2 x.e2.kids) (hlt : ltB x = true) (tr : RelT Tryz.prog wz) (hs : s0.size + 1000000 ≤ 100000000000000) (hk : x.k = 2) :
    Rt Tryz.prog 78 #[.pointer (some ⟨g,0,none⟩),.agg #[.int .i8 x.k,.string x.a.p,.slice Aa x.a.args.length ca,.int .i8 x.r,.int .i8 x.e1.op,.string x.e1.t.v,.int .i8 x.e1.t.l.k,.int .i64 x.e1.t.l.n,.string x.e1.t.l.s,.slice A1 x.e1.kids.length c1,.int .i8 x.e2.op,.string x.e2.t.v,.int .i8 x.e2.t.l.k,.int .i64 x.e2.t.l.n,.string x.e2.t.l.s,.slice A2 x.e2.kids.length c2]] w fun v w' => v = .tuple #[] ∧ Wr 5 97 wz.heap.size g (s0 ++ ltW x) w w' := by
  refine enter Tryz.func78 rfl (l := [.pointer (some ⟨g,0,none⟩),.agg #[.int .i8 x.k,.string x.a.p,.slice Aa x.a.args.length ca,.int .i8 x.r,.int .i8 x.e1.op,.string x.e1.t.v,.int .i8 x.e1.t.l.k,.int .i64 x.e1.t.l.n,.string x.e1.t.l.s,.slice A1 x.e1.kids.length c1,.int .i8 x.e2.op,.string x.e2.t.v,.int .i8 x.e2.t.l.k,.int .i64 x.e2.t.l.n,.string x.e2.t.l.s,.slice A2 x.e2.kids.length c2]]) rfl Tryz.ntmps78 (Nat.le_of_ble_eq_true rfl) ?_
  have hB_ := Keep.size x0
  have hoa_ := Lt.okc.a ho
  have ho1_ := Lt.okc.e1 ho
  have ho2_ := Lt.okc.e2 ho
  have hl1_ := Ex.okc.l ho1_
  have hl2_ := Ex.okc.l ho2_
  have hc1_ := Ex.okc.c ho1_
  have hc2_ := Ex.okc.c ho2_
  have hla_ := At.okc.l hoa_
  have hca_ := At.okc.c hoa_
  have hpa_ := At.okc.p hoa_
  have hrz_ := relW_size x.r
  refine c_seq (c_reg (s_box (v := .agg #[.int .i8 x.k,.string x.a.p,.slice Aa x.a.args.length ca,.int .i8 x.r,.int .i8 x.e1.op,.string x.e1.t.v,.int .i8 x.e1.t.l.k,.int .i64 x.e1.t.l.n,.string x.e1.t.l.s,.slice A1 x.e1.kids.length c1,.int .i8 x.e2.op,.string x.e2.t.v,.int .i8 x.e2.t.l.k,.int .i64 x.e2.t.l.n,.string x.e2.t.l.s,.slice A2 x.e2.kids.length c2]) (cs := #[.int .i8 x.k,.string x.a.p,.slice Aa x.a.args.length ca,.int .i8 x.r,.int .i8 x.e1.op,.string x.e1.t.v,.int .i8 x.e1.t.l.k,.int .i64 x.e1.t.l.n,.string x.e1.t.l.s,.slice A1 x.e1.kids.length c1,.int .i8 x.e2.op,.string x.e2.t.v,.int .i8 x.e2.t.l.k,.int .i64 x.e2.t.l.n,.string x.e2.t.l.s,.slice A2 x.e2.kids.length c2]) (w0 rfl) (ej rfl rfl) rfl ?_))
  intro w2 g1 n3
  have ne_g1 : g1 ≠ g := by have a_ := NewB.eq n3; have b_ := BW.lt hb; omega
  refine c_done (n_then (c_seq (c_reg (s_move (v := .pointer (some ⟨g,0,none⟩)) (ej rfl rfl) (w0 rfl) (s_bslice (vs := [(0,.string (⟨#[110,111,116,32]⟩ : ByteArray))]) (cs := #[.string (⟨#[110,111,116,32]⟩ : ByteArray)]) (b1 ev_c) (bs106_1_0s (⟨#[110,111,116,32]⟩ : ByteArray)) (w0 rfl) ?_)))))
  intro w5 g4 n6
  have ne_g4 : g4 ≠ g := by have a_ := NewB.eq n6; have b_ := BW.lt (BW.ext hb (NewB.ext n3)); omega
  refine s_call F_e54 (w0 rfl) ev_f (m2 (ej rfl rfl) (ej rfl rfl)) (args := #[.pointer (some ⟨g,0,none⟩),.slice (some ⟨g4,0,none⟩) 1 1]) rfl (p_put 97 _ g g4 (s0) [(⟨#[110,111,116,32]⟩ : ByteArray)] _ (BW.ext (BW.ext hb (NewB.ext n3)) (NewB.ext n6)) (Nat.le_trans (Nat.le_trans hB_ (Keep.size (NewB.ext n3))) (Keep.size (NewB.ext n6))) (by decide) F_lies97 (NewB.blk n6) (by simp only [catL,ByteArray.size_append,z0,z1,z2,z3,z4,z5,z6]; omega) (by simp)) ?_
  rintro _ w7 ⟨rfl,wr8⟩
  refine c_done (n_then (c_reg (s_move (v := .pointer (some ⟨g,0,none⟩)) (ej rfl rfl) (w0 rfl) (s_field (off := 1) (o' := 1) F_f38_1 (ej rfl rfl) rfl (w0 rfl) (s_loadL (cs := [.string x.a.p,.slice Aa x.a.args.length ca]) F_m24 (ej rfl rfl) rfl rfl (blk_cells (Wr.blk wr8 (Ext.blk (NewB.ext n6) (NewB.blk n3)) (Or.inl (by decide)) ne_g1) 1 rfl) (w0 rfl) (s_call F_e35 (w0 rfl) ev_f (m2 (ej rfl rfl) (ej rfl rfl)) (args := #[.pointer (some ⟨g,0,none⟩),.agg #[.string x.a.p,.slice Aa x.a.args.length ca]]) rfl (p_atom x.a Aa ca g (s0 ++ (catL [(⟨#[110,111,116,32]⟩ : ByteArray)])) wz _ (Wr.after wr8 (Ext.trans (Ext.trans x0 (NewB.ext n3)) (NewB.ext n6)) rfl) tb (Wr.bw wr8) hoa_ hra (lt_at hlt (by omega)) (by (try simp only [catL,ByteArray.size_append,z0,z4]); omega)) ?_))))))
  rintro _ w9 ⟨rfl,wr10⟩
  refine c_done (ret0 rfl ?_)
  exact ⟨_,rfl,rfl,Wr.cast (Wr.then_ (Wr.then_ (Wr.of_ext hb (Ext.trans (NewB.ext n3) (NewB.ext n6)) hB_) wr8) wr10) (by unfold ltW; first | (rw [if_pos (by omega)]; done) | (rw [if_neg (by omega),if_pos (by omega)]; simp only [catL,app_nil,app_assoc]; done) | (rw [if_neg (by omega),if_neg (by omega)]; simp only [catL,app_nil,app_assoc]; done))⟩
theorem p_cmp (x : Lt) (Aa A1 A2 : Option Addr) (ca c1 c2 : Nat) (g : Nat) (s0 : ByteArray) (wz : World) (w : World) (x0 : Ext wz w) (tb : Tabs Tryz.prog wz) (hb : BW 5 97 wz.heap.size w g s0) (ho : x.okc ca c1 c2) (hra : Row RT 4 wz Aa x.a.args) (hr1 : Row RE 6 wz A1 x.e1.kids) (hr2 : Row RE 6 wz A2 x.e2.kids) (hlt : ltB x = true) (tr : RelT Tryz.prog wz) (hs : s0.size + 1000000 ≤ 100000000000000) (hk : x.k = 3) :
    Rt Tryz.prog 79 #[.pointer (some ⟨g,0,none⟩),.agg #[.int .i8 x.k,.string x.a.p,.slice Aa x.a.args.length ca,.int .i8 x.r,.int .i8 x.e1.op,.string x.e1.t.v,.int .i8 x.e1.t.l.k,.int .i64 x.e1.t.l.n,.string x.e1.t.l.s,.slice A1 x.e1.kids.length c1,.int .i8 x.e2.op,.string x.e2.t.v,.int .i8 x.e2.t.l.k,.int .i64 x.e2.t.l.n,.string x.e2.t.l.s,.slice A2 x.e2.kids.length c2]] w fun v w' => v = .tuple #[] ∧ Wr 5 97 wz.heap.size g (s0 ++ ltW x) w w' := by
  refine enter Tryz.func79 rfl (l := [.pointer (some ⟨g,0,none⟩),.agg #[.int .i8 x.k,.string x.a.p,.slice Aa x.a.args.length ca,.int .i8 x.r,.int .i8 x.e1.op,.string x.e1.t.v,.int .i8 x.e1.t.l.k,.int .i64 x.e1.t.l.n,.string x.e1.t.l.s,.slice A1 x.e1.kids.length c1,.int .i8 x.e2.op,.string x.e2.t.v,.int .i8 x.e2.t.l.k,.int .i64 x.e2.t.l.n,.string x.e2.t.l.s,.slice A2 x.e2.kids.length c2]]) rfl Tryz.ntmps79 (Nat.le_of_ble_eq_true rfl) ?_
  have hB_ := Keep.size x0
  have hoa_ := Lt.okc.a ho
  have ho1_ := Lt.okc.e1 ho
  have ho2_ := Lt.okc.e2 ho
  have hl1_ := Ex.okc.l ho1_
  have hl2_ := Ex.okc.l ho2_
  have hc1_ := Ex.okc.c ho1_
  have hc2_ := Ex.okc.c ho2_
  have hla_ := At.okc.l hoa_
  have hca_ := At.okc.c hoa_
  have hpa_ := At.okc.p hoa_
  have hrz_ := relW_size x.r
  have hcm_ := lt_cmp hlt (by omega) (by omega)
  obtain ⟨_,hr1_,hr6_,he1_,he2_⟩ := hcm_
  have hz1_ := exW_le (d := 8) (by decide) he1_ (Go.Wk.Row.ok hr1 (Ex.okc.t ho1_))
  have hz2_ := exW_le (d := 8) (by decide) he2_ (Go.Wk.Row.ok hr2 (Ex.okc.t ho2_))
  refine c_seq (c_reg (s_box (v := .agg #[.int .i8 x.k,.string x.a.p,.slice Aa x.a.args.length ca,.int .i8 x.r,.int .i8 x.e1.op,.string x.e1.t.v,.int .i8 x.e1.t.l.k,.int .i64 x.e1.t.l.n,.string x.e1.t.l.s,.slice A1 x.e1.kids.length c1,.int .i8 x.e2.op,.string x.e2.t.v,.int .i8 x.e2.t.l.k,.int .i64 x.e2.t.l.n,.string x.e2.t.l.s,.slice A2 x.e2.kids.length c2]) (cs := #[.int .i8 x.k,.string x.a.p,.slice Aa x.a.args.length ca,.int .i8 x.r,.int .i8 x.e1.op,.string x.e1.t.v,.int .i8 x.e1.t.l.k,.int .i64 x.e1.t.l.n,.string x.e1.t.l.s,.slice A1 x.e1.kids.length c1,.int .i8 x.e2.op,.string x.e2.t.v,.int .i8 x.e2.t.l.k,.int .i64 x.e2.t.l.n,.string x.e2.t.l.s,.slice A2 x.e2.kids.length c2]) (w0 rfl) (ej rfl rfl) rfl ?_))
  intro w2 g1 n3
  have ne_g1 : g1 ≠ g := by have a_ := NewB.eq n3; have b_ := BW.lt hb; omega
  refine c_done (n_then (c_seq (c_reg (s_move (v := .pointer (some ⟨g,0,none⟩)) (ej rfl rfl) (w0 rfl) (s_field (off := 4) (o' := 4) F_f38_3 (ej rfl rfl) rfl (w0 rfl) (s_loadL (cs := [.int .i8 x.e1.op,.string x.e1.t.v,.int .i8 x.e1.t.l.k,.int .i64 x.e1.t.l.n,.string x.e1.t.l.s,.slice A1 x.e1.kids.length c1]) F_m36 (ej rfl rfl) rfl rfl (blk_cells (NewB.blk n3) 4 rfl) (w0 rfl) (s_call F_e84 (w0 rfl) ev_f (m2 (ej rfl rfl) (ej rfl rfl)) (args := #[.pointer (some ⟨g,0,none⟩),.agg #[.int .i8 x.e1.op,.string x.e1.t.v,.int .i8 x.e1.t.l.k,.int .i64 x.e1.t.l.n,.string x.e1.t.l.s,.slice A1 x.e1.kids.length c1]]) rfl (p_expr g wz tb 8 x.e1 A1 c1 _ (s0) (by decide) (by assumption) ho1_ hr1 (Ext.trans x0 (NewB.ext n3)) (BW.ext hb (NewB.ext n3)) (by (try simp only [catL,ByteArray.size_append,z0,z1]); omega)) ?_)))))))
  rintro _ w4 ⟨rfl,wr5⟩
  refine c_done (n_then (c_seq (c_reg (s_move (v := .pointer (some ⟨g,0,none⟩)) (ej rfl rfl) (w0 rfl) (s_field (off := 3) (o' := 3) F_f38_2 (ej rfl rfl) rfl (w0 rfl) (s_load (v := .int .i8 x.r) F_o27 (ej rfl rfl) (cell_of_blk (i := 3) (Wr.blk wr5 (NewB.blk n3) (Or.inl (by decide)) ne_g1) rfl) (w0 rfl) (s_indexA (j := x.r.toNat) F_ar154 ev_g (ej rfl rfl) (by omega) (by omega) (w0 rfl) (s_load (v := .string (relW x.r)) F_o9 (ej rfl rfl) (RelT.at_ (RelT.ext tr (Wr.after wr5 (Ext.trans x0 (NewB.ext n3)) rfl)) F_gn0 (by omega)) (w0 rfl) (s_bslice (vs := [(0,.string (⟨#[32]⟩ : ByteArray)),(1,.string (relW x.r)),(2,.string (⟨#[32]⟩ : ByteArray))]) (cs := #[.string (⟨#[32]⟩ : ByteArray),.string (relW x.r),.string (⟨#[32]⟩ : ByteArray)]) (b3 ev_c (ej rfl rfl) ev_c) (bs106_3_0s_1s_2s (⟨#[32]⟩ : ByteArray) (relW x.r) (⟨#[32]⟩ : ByteArray)) (w0 rfl) ?_)))))))))
  intro w7 g6 n8
  have ne_g6 : g6 ≠ g := by have a_ := NewB.eq n8; have b_ := BW.lt (Wr.bw wr5); omega
  refine s_call F_e54 (w0 rfl) ev_f (m2 (ej rfl rfl) (ej rfl rfl)) (args := #[.pointer (some ⟨g,0,none⟩),.slice (some ⟨g6,0,none⟩) 3 3]) rfl (p_put 97 _ g g6 (s0 ++ (exW 8 x.e1)) [(⟨#[32]⟩ : ByteArray),relW x.r,(⟨#[32]⟩ : ByteArray)] _ (BW.ext (Wr.bw wr5) (NewB.ext n8)) (Nat.le_trans (Nat.le_trans (Nat.le_trans hB_ (Keep.size (NewB.ext n3))) (Wr.size wr5)) (Keep.size (NewB.ext n8))) (by decide) F_lies97 (NewB.blk n8) (by simp only [catL,ByteArray.size_append,z0,z1,z2,z3,z4,z5,z6]; omega) (by simp)) ?_
  rintro _ w9 ⟨rfl,wr10⟩
  refine c_done (n_then (c_reg (s_move (v := .pointer (some ⟨g,0,none⟩)) (ej rfl rfl) (w0 rfl) (s_field (off := 10) (o' := 10) F_f38_4 (ej rfl rfl) rfl (w0 rfl) (s_loadL (cs := [.int .i8 x.e2.op,.string x.e2.t.v,.int .i8 x.e2.t.l.k,.int .i64 x.e2.t.l.n,.string x.e2.t.l.s,.slice A2 x.e2.kids.length c2]) F_m36 (ej rfl rfl) rfl rfl (blk_cells (Wr.blk wr10 (Ext.blk (NewB.ext n8) (Wr.blk wr5 (NewB.blk n3) (Or.inl (by decide)) ne_g1)) (Or.inl (by decide)) ne_g1) 10 rfl) (w0 rfl) (s_call F_e84 (w0 rfl) ev_f (m2 (ej rfl rfl) (ej rfl rfl)) (args := #[.pointer (some ⟨g,0,none⟩),.agg #[.int .i8 x.e2.op,.string x.e2.t.v,.int .i8 x.e2.t.l.k,.int .i64 x.e2.t.l.n,.string x.e2.t.l.s,.slice A2 x.e2.kids.length c2]]) rfl (p_expr g wz tb 8 x.e2 A2 c2 _ (s0 ++ (exW 8 x.e1) ++ (catL [(⟨#[32]⟩ : ByteArray),relW x.r,(⟨#[32]⟩ : ByteArray)])) (by decide) (by assumption) ho2_ hr2 (Wr.after wr10 (Ext.trans (Wr.after wr5 (Ext.trans x0 (NewB.ext n3)) rfl) (NewB.ext n8)) rfl) (Wr.bw wr10) (by (try simp only [catL,ByteArray.size_append,z0,z1]); omega)) ?_))))))
  rintro _ w11 ⟨rfl,wr12⟩
  refine c_done (ret0 rfl ?_)
  exact ⟨_,rfl,rfl,Wr.cast (Wr.then_ (Wr.then_ (Wr.ext (Wr.then_ (Wr.of_ext hb (NewB.ext n3) hB_) wr5) (NewB.ext n8) hB_) wr10) wr12) (by unfold ltW; first | (rw [if_pos (by omega)]; done) | (rw [if_neg (by omega),if_pos (by omega)]; simp only [catL,app_nil,app_assoc]; done) | (rw [if_neg (by omega),if_neg (by omega)]; simp only [catL,app_nil,app_assoc]; done))⟩
end Go.Proofs.Zw

set_option linter.unusedVariables false
set_option linter.unusedSimpArgs false
set_option maxRecDepth 10000
namespace Go.Proofs.Zw
open Go Go.Wk Go.Proofs Go.Lib
attribute [local irreducible] Go.wpList Go.wpStill Go.wpQuiet Go.Code.wp Go.Calls
theorem F_ar121 : arrayT Tryz.prog 121 4 1 = true := by kernel_rfl
theorem F_e77 : enterable Tryz.prog 77 = true := by kernel_rfl
theorem F_e78 : enterable Tryz.prog 78 = true := by kernel_rfl
theorem F_e79 : enterable Tryz.prog 79 = true := by kernel_rfl
theorem F_o77 : one Tryz.prog 77 = true := by kernel_rfl
theorem F_sz121 : (Tryz.prog.info? 121).map (·.size) = some 4 := by kernel_rfl
theorem F_z121 : (Tryz.prog.info? 121).bind (·.zero) = some (.agg #[.nilFunc,.nilFunc,.nilFunc,.nilFunc]) := by kernel_rfl
theorem bd121_1f77_2f78_3f79 : ∀ w : World,(Instr.build 121 [(1,.func (.func 77) #[] #[]),(2,.func (.func 78) #[] #[]),(3,.func (.func 79) #[] #[])].toArray).run Tryz.prog w = .ok (.agg #[.nilFunc,.func (.func 77) #[] #[],.func (.func 78) #[] #[],.func (.func 79) #[] #[]]) w := by
  intros
  kernel_rfl
theorem p_literal1 (x : Lt) (Aa A1 A2 : Option Addr) (ca c1 c2 : Nat) (g : Nat) (s0 : ByteArray) (wz : World) (w : World) (x0 : Ext wz w) (tb : Tabs Tryz.prog wz) (hb : BW 5 97 wz.heap.size w g s0) (ho : x.okc ca c1 c2) (hra : Row RT 4 wz Aa x.a.args) (hr1 : Row RE 6 wz A1 x.e1.kids) (hr2 : Row RE 6 wz A2 x.e2.kids) (hlt : ltB x = true) (tr : RelT Tryz.prog wz) (hs : s0.size + 1000000 ≤ 100000000000000) (hk : x.k = 1) :
    Rt Tryz.prog 40 #[.pointer (some ⟨g,0,none⟩),.agg #[.int .i8 x.k,.string x.a.p,.slice Aa x.a.args.length ca,.int .i8 x.r,.int .i8 x.e1.op,.string x.e1.t.v,.int .i8 x.e1.t.l.k,.int .i64 x.e1.t.l.n,.string x.e1.t.l.s,.slice A1 x.e1.kids.length c1,.int .i8 x.e2.op,.string x.e2.t.v,.int .i8 x.e2.t.l.k,.int .i64 x.e2.t.l.n,.string x.e2.t.l.s,.slice A2 x.e2.kids.length c2]] w fun v w' => v = .tuple #[] ∧ Wr 5 97 wz.heap.size g (s0 ++ ltW x) w w' := by
  refine enter Tryz.func40 rfl (l := [.pointer (some ⟨g,0,none⟩),.agg #[.int .i8 x.k,.string x.a.p,.slice Aa x.a.args.length ca,.int .i8 x.r,.int .i8 x.e1.op,.string x.e1.t.v,.int .i8 x.e1.t.l.k,.int .i64 x.e1.t.l.n,.string x.e1.t.l.s,.slice A1 x.e1.kids.length c1,.int .i8 x.e2.op,.string x.e2.t.v,.int .i8 x.e2.t.l.k,.int .i64 x.e2.t.l.n,.string x.e2.t.l.s,.slice A2 x.e2.kids.length c2]]) rfl Tryz.ntmps40 (Nat.le_of_ble_eq_true rfl) ?_
  have hB_ := Keep.size x0
  have hoa_ := Lt.okc.a ho
  have ho1_ := Lt.okc.e1 ho
  have ho2_ := Lt.okc.e2 ho
  have hl1_ := Ex.okc.l ho1_
  have hl2_ := Ex.okc.l ho2_
  have hc1_ := Ex.okc.c ho1_
  have hc2_ := Ex.okc.c ho2_
  have hla_ := At.okc.l hoa_
  have hca_ := At.okc.c hoa_
  have hpa_ := At.okc.p hoa_
  refine c_seq (c_reg (s_box (v := .agg #[.int .i8 x.k,.string x.a.p,.slice Aa x.a.args.length ca,.int .i8 x.r,.int .i8 x.e1.op,.string x.e1.t.v,.int .i8 x.e1.t.l.k,.int .i64 x.e1.t.l.n,.string x.e1.t.l.s,.slice A1 x.e1.kids.length c1,.int .i8 x.e2.op,.string x.e2.t.v,.int .i8 x.e2.t.l.k,.int .i64 x.e2.t.l.n,.string x.e2.t.l.s,.slice A2 x.e2.kids.length c2]) (cs := #[.int .i8 x.k,.string x.a.p,.slice Aa x.a.args.length ca,.int .i8 x.r,.int .i8 x.e1.op,.string x.e1.t.v,.int .i8 x.e1.t.l.k,.int .i64 x.e1.t.l.n,.string x.e1.t.l.s,.slice A1 x.e1.kids.length c1,.int .i8 x.e2.op,.string x.e2.t.v,.int .i8 x.e2.t.l.k,.int .i64 x.e2.t.l.n,.string x.e2.t.l.s,.slice A2 x.e2.kids.length c2]) (w0 rfl) (ej rfl rfl) rfl ?_))
  intro w2 g1 n3
  have ne_g1 : g1 ≠ g := by have a_ := NewB.eq n3; have b_ := BW.lt hb; omega
  refine c_done (n_then (c_seq (c_reg (s_build (v := .agg #[.nilFunc,.func (.func 77) #[] #[],.func (.func 78) #[] #[],.func (.func 79) #[] #[]]) (vs := [(1,.func (.func 77) #[] #[]),(2,.func (.func 78) #[] #[]),(3,.func (.func 79) #[] #[])]) (b3 ev_f ev_f ev_f) (bd121_1f77_2f78_3f79) (w0 rfl) (s_alloc (cs := #[.nilFunc,.nilFunc,.nilFunc,.nilFunc]) (w0 rfl) F_z121 rfl ?_)))))
  intro w5 g4 n6
  have ne_g4 : g4 ≠ g := by have a_ := NewB.eq n6; have b_ := BW.lt (BW.ext hb (NewB.ext n3)); omega
  refine s_store (cs' := #[.nilFunc,.func (.func 77) #[] #[],.func (.func 78) #[] #[],.func (.func 79) #[] #[]]) F_sz121 (ej rfl rfl) (ej rfl rfl) (l := [.nilFunc,.func (.func 77) #[] #[],.func (.func 78) #[] #[],.func (.func 79) #[] #[]]) rfl rfl rfl (NewB.blk n6) (Nat.le_of_ble_eq_true rfl) rfl (w0 rfl) ?_
  intro w7 k8
  refine c_done (n_then (c_tail 6 mixed (by kernel_rfl) rfl rfl ?_))
  intro w9 x10
  refine t_val (v := .pointer (some ⟨g1,0,none⟩)) (w0 rfl) (r_field (off := 0) (o' := 0) F_f38_0 (ej rfl rfl) rfl) (t_val (v := .int .i8 x.k) (w0 rfl) (r_load (v := .int .i8 x.k) F_o26 (ej rfl rfl) (cell_of_blk (i := 0) (Ext.blk (Ext.trans (Keep.then_ (NewB.ext n6) (Wrote.keep k8) (fun i_ hi_ h_ => by have a_ := NewB.eq n6; have b_ := Keep.size (Ext.refl w2); omega)) x10) (NewB.blk n3)) rfl)) (t_val (v := .pointer (some ⟨g4,1,none⟩)) (w0 rfl) (r_indexA (j := 1) F_ar121 (ej rfl rfl) (ej rfl rfl) (by omega) (by decide)) (t_val (v := .func (.func 77) #[] #[]) (w0 rfl) (r_load (v := .func (.func 77) #[] #[]) F_o77 (ej rfl rfl) (cell_of_blk (i := 1) (Ext.blk x10 (Wrote.blk k8)) rfl)) (t_val (v := .pointer (some ⟨g,0,none⟩)) (w0 rfl) (r_move (v := .pointer (some ⟨g,0,none⟩)) (ej rfl rfl)) (t_val (v := .agg #[.int .i8 x.k,.string x.a.p,.slice Aa x.a.args.length ca,.int .i8 x.r,.int .i8 x.e1.op,.string x.e1.t.v,.int .i8 x.e1.t.l.k,.int .i64 x.e1.t.l.n,.string x.e1.t.l.s,.slice A1 x.e1.kids.length c1,.int .i8 x.e2.op,.string x.e2.t.v,.int .i8 x.e2.t.l.k,.int .i64 x.e2.t.l.n,.string x.e2.t.l.s,.slice A2 x.e2.kids.length c2]) (w0 rfl) (r_loadL (cs := [.int .i8 x.k,.string x.a.p,.slice Aa x.a.args.length ca,.int .i8 x.r,.int .i8 x.e1.op,.string x.e1.t.v,.int .i8 x.e1.t.l.k,.int .i64 x.e1.t.l.n,.string x.e1.t.l.s,.slice A1 x.e1.kids.length c1,.int .i8 x.e2.op,.string x.e2.t.v,.int .i8 x.e2.t.l.k,.int .i64 x.e2.t.l.n,.string x.e2.t.l.s,.slice A2 x.e2.kids.length c2]) F_m38 (ej rfl rfl) rfl rfl (blk_cells (Ext.blk (Ext.trans (Keep.then_ (NewB.ext n6) (Wrote.keep k8) (fun i_ hi_ h_ => by have a_ := NewB.eq n6; have b_ := Keep.size (Ext.refl w2); omega)) x10) (NewB.blk n3)) 0 rfl)) (t_done (s_call F_e77 (w0 rfl) (ej rfl rfl) (m2 (ej rfl rfl) (ej rfl rfl)) (args := #[.pointer (some ⟨g,0,none⟩),.agg #[.int .i8 x.k,.string x.a.p,.slice Aa x.a.args.length ca,.int .i8 x.r,.int .i8 x.e1.op,.string x.e1.t.v,.int .i8 x.e1.t.l.k,.int .i64 x.e1.t.l.n,.string x.e1.t.l.s,.slice A1 x.e1.kids.length c1,.int .i8 x.e2.op,.string x.e2.t.v,.int .i8 x.e2.t.l.k,.int .i64 x.e2.t.l.n,.string x.e2.t.l.s,.slice A2 x.e2.kids.length c2]]) rfl (p_pos x Aa A1 A2 ca c1 c2 g (s0) wz _ (Ext.trans (Keep.then_ (Ext.trans (Ext.trans x0 (NewB.ext n3)) (NewB.ext n6)) (Wrote.keep k8) (fun i_ hi_ h_ => by have a_ := NewB.eq n6; have b_ := Keep.size (Ext.trans x0 (NewB.ext n3)); omega)) x10) tb (BW.ext hb (Ext.trans (Keep.then_ (Ext.trans (NewB.ext n3) (NewB.ext n6)) (Wrote.keep k8) (fun i_ hi_ h_ => by have a_ := NewB.eq n6; have b_ := Keep.size (NewB.ext n3); omega)) x10)) ho hra hr1 hr2 (by assumption) tr (by (try simp only [ByteArray.size_append,z0]); omega) hk) ?_)))))))
  rintro _ w11 ⟨rfl,wr12⟩
  refine c_done (ret0 rfl ?_)
  exact ⟨_,rfl,rfl,Wr.cast (Wr.then_ (Wr.of_ext hb (Ext.trans (Keep.then_ (Ext.trans (NewB.ext n3) (NewB.ext n6)) (Wrote.keep k8) (fun i_ hi_ h_ => by have a_ := NewB.eq n6; have b_ := Keep.size (NewB.ext n3); omega)) x10) hB_) wr12) (rfl)⟩
theorem p_literal2 (x : Lt) (Aa A1 A2 : Option Addr) (ca c1 c2 : Nat) (g : Nat) (s0 : ByteArray) (wz : World) (w : World) (x0 : Ext wz w) (tb : Tabs Tryz.prog wz) (hb : BW 5 97 wz.heap.size w g s0) (ho : x.okc ca c1 c2) (hra : Row RT 4 wz Aa x.a.args) (hr1 : Row RE 6 wz A1 x.e1.kids) (hr2 : Row RE 6 wz A2 x.e2.kids) (hlt : ltB x = true) (tr : RelT Tryz.prog wz) (hs : s0.size + 1000000 ≤ 100000000000000) (hk : x.k = 2) :
    Rt Tryz.prog 40 #[.pointer (some ⟨g,0,none⟩),.agg #[.int .i8 x.k,.string x.a.p,.slice Aa x.a.args.length ca,.int .i8 x.r,.int .i8 x.e1.op,.string x.e1.t.v,.int .i8 x.e1.t.l.k,.int .i64 x.e1.t.l.n,.string x.e1.t.l.s,.slice A1 x.e1.kids.length c1,.int .i8 x.e2.op,.string x.e2.t.v,.int .i8 x.e2.t.l.k,.int .i64 x.e2.t.l.n,.string x.e2.t.l.s,.slice A2 x.e2.kids.length c2]] w fun v w' => v = .tuple #[] ∧ Wr 5 97 wz.heap.size g (s0 ++ ltW x) w w' := by
  refine enter Tryz.func40 rfl (l := [.pointer (some ⟨g,0,none⟩),.agg #[.int .i8 x.k,.string x.a.p,.slice Aa x.a.args.length ca,.int .i8 x.r,.int .i8 x.e1.op,.string x.e1.t.v,.int .i8 x.e1.t.l.k,.int .i64 x.e1.t.l.n,.string x.e1.t.l.s,.slice A1 x.e1.kids.length c1,.int .i8 x.e2.op,.string x.e2.t.v,.int .i8 x.e2.t.l.k,.int .i64 x.e2.t.l.n,.string x.e2.t.l.s,.slice A2 x.e2.kids.length c2]]) rfl Tryz.ntmps40 (Nat.le_of_ble_eq_true rfl) ?_
  have hB_ := Keep.size x0
  have hoa_ := Lt.okc.a ho
  have ho1_ := Lt.okc.e1 ho
  have ho2_ := Lt.okc.e2 ho
  have hl1_ := Ex.okc.l ho1_
  have hl2_ := Ex.okc.l ho2_
  have hc1_ := Ex.okc.c ho1_
  have hc2_ := Ex.okc.c ho2_
  have hla_ := At.okc.l hoa_
  have hca_ := At.okc.c hoa_
  have hpa_ := At.okc.p hoa_
  refine c_seq (c_reg (s_box (v := .agg #[.int .i8 x.k,.string x.a.p,.slice Aa x.a.args.length ca,.int .i8 x.r,.int .i8 x.e1.op,.string x.e1.t.v,.int .i8 x.e1.t.l.k,.int .i64 x.e1.t.l.n,.string x.e1.t.l.s,.slice A1 x.e1.kids.length c1,.int .i8 x.e2.op,.string x.e2.t.v,.int .i8 x.e2.t.l.k,.int .i64 x.e2.t.l.n,.string x.e2.t.l.s,.slice A2 x.e2.kids.length c2]) (cs := #[.int .i8 x.k,.string x.a.p,.slice Aa x.a.args.length ca,.int .i8 x.r,.int .i8 x.e1.op,.string x.e1.t.v,.int .i8 x.e1.t.l.k,.int .i64 x.e1.t.l.n,.string x.e1.t.l.s,.slice A1 x.e1.kids.length c1,.int .i8 x.e2.op,.string x.e2.t.v,.int .i8 x.e2.t.l.k,.int .i64 x.e2.t.l.n,.string x.e2.t.l.s,.slice A2 x.e2.kids.length c2]) (w0 rfl) (ej rfl rfl) rfl ?_))
  intro w2 g1 n3
  have ne_g1 : g1 ≠ g := by have a_ := NewB.eq n3; have b_ := BW.lt hb; omega
  refine c_done (n_then (c_seq (c_reg (s_build (v := .agg #[.nilFunc,.func (.func 77) #[] #[],.func (.func 78) #[] #[],.func (.func 79) #[] #[]]) (vs := [(1,.func (.func 77) #[] #[]),(2,.func (.func 78) #[] #[]),(3,.func (.func 79) #[] #[])]) (b3 ev_f ev_f ev_f) (bd121_1f77_2f78_3f79) (w0 rfl) (s_alloc (cs := #[.nilFunc,.nilFunc,.nilFunc,.nilFunc]) (w0 rfl) F_z121 rfl ?_)))))
  intro w5 g4 n6
  have ne_g4 : g4 ≠ g := by have a_ := NewB.eq n6; have b_ := BW.lt (BW.ext hb (NewB.ext n3)); omega
  refine s_store (cs' := #[.nilFunc,.func (.func 77) #[] #[],.func (.func 78) #[] #[],.func (.func 79) #[] #[]]) F_sz121 (ej rfl rfl) (ej rfl rfl) (l := [.nilFunc,.func (.func 77) #[] #[],.func (.func 78) #[] #[],.func (.func 79) #[] #[]]) rfl rfl rfl (NewB.blk n6) (Nat.le_of_ble_eq_true rfl) rfl (w0 rfl) ?_
  intro w7 k8
  refine c_done (n_then (c_tail 6 mixed (by kernel_rfl) rfl rfl ?_))
  intro w9 x10
  refine t_val (v := .pointer (some ⟨g1,0,none⟩)) (w0 rfl) (r_field (off := 0) (o' := 0) F_f38_0 (ej rfl rfl) rfl) (t_val (v := .int .i8 x.k) (w0 rfl) (r_load (v := .int .i8 x.k) F_o26 (ej rfl rfl) (cell_of_blk (i := 0) (Ext.blk (Ext.trans (Keep.then_ (NewB.ext n6) (Wrote.keep k8) (fun i_ hi_ h_ => by have a_ := NewB.eq n6; have b_ := Keep.size (Ext.refl w2); omega)) x10) (NewB.blk n3)) rfl)) (t_val (v := .pointer (some ⟨g4,2,none⟩)) (w0 rfl) (r_indexA (j := 2) F_ar121 (ej rfl rfl) (ej rfl rfl) (by omega) (by decide)) (t_val (v := .func (.func 78) #[] #[]) (w0 rfl) (r_load (v := .func (.func 78) #[] #[]) F_o77 (ej rfl rfl) (cell_of_blk (i := 2) (Ext.blk x10 (Wrote.blk k8)) rfl)) (t_val (v := .pointer (some ⟨g,0,none⟩)) (w0 rfl) (r_move (v := .pointer (some ⟨g,0,none⟩)) (ej rfl rfl)) (t_val (v := .agg #[.int .i8 x.k,.string x.a.p,.slice Aa x.a.args.length ca,.int .i8 x.r,.int .i8 x.e1.op,.string x.e1.t.v,.int .i8 x.e1.t.l.k,.int .i64 x.e1.t.l.n,.string x.e1.t.l.s,.slice A1 x.e1.kids.length c1,.int .i8 x.e2.op,.string x.e2.t.v,.int .i8 x.e2.t.l.k,.int .i64 x.e2.t.l.n,.string x.e2.t.l.s,.slice A2 x.e2.kids.length c2]) (w0 rfl) (r_loadL (cs := [.int .i8 x.k,.string x.a.p,.slice Aa x.a.args.length ca,.int .i8 x.r,.int .i8 x.e1.op,.string x.e1.t.v,.int .i8 x.e1.t.l.k,.int .i64 x.e1.t.l.n,.string x.e1.t.l.s,.slice A1 x.e1.kids.length c1,.int .i8 x.e2.op,.string x.e2.t.v,.int .i8 x.e2.t.l.k,.int .i64 x.e2.t.l.n,.string x.e2.t.l.s,.slice A2 x.e2.kids.length c2]) F_m38 (ej rfl rfl) rfl rfl (blk_cells (Ext.blk (Ext.trans (Keep.then_ (NewB.ext n6) (Wrote.keep k8) (fun i_ hi_ h_ => by have a_ := NewB.eq n6; have b_ := Keep.size (Ext.refl w2); omega)) x10) (NewB.blk n3)) 0 rfl)) (t_done (s_call F_e78 (w0 rfl) (ej rfl rfl) (m2 (ej rfl rfl) (ej rfl rfl)) (args := #[.pointer (some ⟨g,0,none⟩),.agg #[.int .i8 x.k,.string x.a.p,.slice Aa x.a.args.length ca,.int .i8 x.r,.int .i8 x.e1.op,.string x.e1.t.v,.int .i8 x.e1.t.l.k,.int .i64 x.e1.t.l.n,.string x.e1.t.l.s,.slice A1 x.e1.kids.length c1,.int .i8 x.e2.op,.string x.e2.t.v,.int .i8 x.e2.t.l.k,.int .i64 x.e2.t.l.n,.string x.e2.t.l.s,.slice A2 x.e2.kids.length c2]]) rfl (p_not x Aa A1 A2 ca c1 c2 g (s0) wz _ (Ext.trans (Keep.then_ (Ext.trans (Ext.trans x0 (NewB.ext n3)) (NewB.ext n6)) (Wrote.keep k8) (fun i_ hi_ h_ => by have a_ := NewB.eq n6; have b_ := Keep.size (Ext.trans x0 (NewB.ext n3)); omega)) x10) tb (BW.ext hb (Ext.trans (Keep.then_ (Ext.trans (NewB.ext n3) (NewB.ext n6)) (Wrote.keep k8) (fun i_ hi_ h_ => by have a_ := NewB.eq n6; have b_ := Keep.size (NewB.ext n3); omega)) x10)) ho hra hr1 hr2 (by assumption) tr (by (try simp only [ByteArray.size_append,z0]); omega) hk) ?_)))))))
  rintro _ w11 ⟨rfl,wr12⟩
  refine c_done (ret0 rfl ?_)
  exact ⟨_,rfl,rfl,Wr.cast (Wr.then_ (Wr.of_ext hb (Ext.trans (Keep.then_ (Ext.trans (NewB.ext n3) (NewB.ext n6)) (Wrote.keep k8) (fun i_ hi_ h_ => by have a_ := NewB.eq n6; have b_ := Keep.size (NewB.ext n3); omega)) x10) hB_) wr12) (rfl)⟩
theorem p_literal3 (x : Lt) (Aa A1 A2 : Option Addr) (ca c1 c2 : Nat) (g : Nat) (s0 : ByteArray) (wz : World) (w : World) (x0 : Ext wz w) (tb : Tabs Tryz.prog wz) (hb : BW 5 97 wz.heap.size w g s0) (ho : x.okc ca c1 c2) (hra : Row RT 4 wz Aa x.a.args) (hr1 : Row RE 6 wz A1 x.e1.kids) (hr2 : Row RE 6 wz A2 x.e2.kids) (hlt : ltB x = true) (tr : RelT Tryz.prog wz) (hs : s0.size + 1000000 ≤ 100000000000000) (hk : x.k = 3) :
    Rt Tryz.prog 40 #[.pointer (some ⟨g,0,none⟩),.agg #[.int .i8 x.k,.string x.a.p,.slice Aa x.a.args.length ca,.int .i8 x.r,.int .i8 x.e1.op,.string x.e1.t.v,.int .i8 x.e1.t.l.k,.int .i64 x.e1.t.l.n,.string x.e1.t.l.s,.slice A1 x.e1.kids.length c1,.int .i8 x.e2.op,.string x.e2.t.v,.int .i8 x.e2.t.l.k,.int .i64 x.e2.t.l.n,.string x.e2.t.l.s,.slice A2 x.e2.kids.length c2]] w fun v w' => v = .tuple #[] ∧ Wr 5 97 wz.heap.size g (s0 ++ ltW x) w w' := by
  refine enter Tryz.func40 rfl (l := [.pointer (some ⟨g,0,none⟩),.agg #[.int .i8 x.k,.string x.a.p,.slice Aa x.a.args.length ca,.int .i8 x.r,.int .i8 x.e1.op,.string x.e1.t.v,.int .i8 x.e1.t.l.k,.int .i64 x.e1.t.l.n,.string x.e1.t.l.s,.slice A1 x.e1.kids.length c1,.int .i8 x.e2.op,.string x.e2.t.v,.int .i8 x.e2.t.l.k,.int .i64 x.e2.t.l.n,.string x.e2.t.l.s,.slice A2 x.e2.kids.length c2]]) rfl Tryz.ntmps40 (Nat.le_of_ble_eq_true rfl) ?_
  have hB_ := Keep.size x0
  have hoa_ := Lt.okc.a ho
  have ho1_ := Lt.okc.e1 ho
  have ho2_ := Lt.okc.e2 ho
  have hl1_ := Ex.okc.l ho1_
  have hl2_ := Ex.okc.l ho2_
  have hc1_ := Ex.okc.c ho1_
  have hc2_ := Ex.okc.c ho2_
  have hla_ := At.okc.l hoa_
  have hca_ := At.okc.c hoa_
  have hpa_ := At.okc.p hoa_
  refine c_seq (c_reg (s_box (v := .agg #[.int .i8 x.k,.string x.a.p,.slice Aa x.a.args.length ca,.int .i8 x.r,.int .i8 x.e1.op,.string x.e1.t.v,.int .i8 x.e1.t.l.k,.int .i64 x.e1.t.l.n,.string x.e1.t.l.s,.slice A1 x.e1.kids.length c1,.int .i8 x.e2.op,.string x.e2.t.v,.int .i8 x.e2.t.l.k,.int .i64 x.e2.t.l.n,.string x.e2.t.l.s,.slice A2 x.e2.kids.length c2]) (cs := #[.int .i8 x.k,.string x.a.p,.slice Aa x.a.args.length ca,.int .i8 x.r,.int .i8 x.e1.op,.string x.e1.t.v,.int .i8 x.e1.t.l.k,.int .i64 x.e1.t.l.n,.string x.e1.t.l.s,.slice A1 x.e1.kids.length c1,.int .i8 x.e2.op,.string x.e2.t.v,.int .i8 x.e2.t.l.k,.int .i64 x.e2.t.l.n,.string x.e2.t.l.s,.slice A2 x.e2.kids.length c2]) (w0 rfl) (ej rfl rfl) rfl ?_))
  intro w2 g1 n3
  have ne_g1 : g1 ≠ g := by have a_ := NewB.eq n3; have b_ := BW.lt hb; omega
  refine c_done (n_then (c_seq (c_reg (s_build (v := .agg #[.nilFunc,.func (.func 77) #[] #[],.func (.func 78) #[] #[],.func (.func 79) #[] #[]]) (vs := [(1,.func (.func 77) #[] #[]),(2,.func (.func 78) #[] #[]),(3,.func (.func 79) #[] #[])]) (b3 ev_f ev_f ev_f) (bd121_1f77_2f78_3f79) (w0 rfl) (s_alloc (cs := #[.nilFunc,.nilFunc,.nilFunc,.nilFunc]) (w0 rfl) F_z121 rfl ?_)))))
  intro w5 g4 n6
  have ne_g4 : g4 ≠ g := by have a_ := NewB.eq n6; have b_ := BW.lt (BW.ext hb (NewB.ext n3)); omega
  refine s_store (cs' := #[.nilFunc,.func (.func 77) #[] #[],.func (.func 78) #[] #[],.func (.func 79) #[] #[]]) F_sz121 (ej rfl rfl) (ej rfl rfl) (l := [.nilFunc,.func (.func 77) #[] #[],.func (.func 78) #[] #[],.func (.func 79) #[] #[]]) rfl rfl rfl (NewB.blk n6) (Nat.le_of_ble_eq_true rfl) rfl (w0 rfl) ?_
  intro w7 k8
  refine c_done (n_then (c_tail 6 mixed (by kernel_rfl) rfl rfl ?_))
  intro w9 x10
  refine t_val (v := .pointer (some ⟨g1,0,none⟩)) (w0 rfl) (r_field (off := 0) (o' := 0) F_f38_0 (ej rfl rfl) rfl) (t_val (v := .int .i8 x.k) (w0 rfl) (r_load (v := .int .i8 x.k) F_o26 (ej rfl rfl) (cell_of_blk (i := 0) (Ext.blk (Ext.trans (Keep.then_ (NewB.ext n6) (Wrote.keep k8) (fun i_ hi_ h_ => by have a_ := NewB.eq n6; have b_ := Keep.size (Ext.refl w2); omega)) x10) (NewB.blk n3)) rfl)) (t_val (v := .pointer (some ⟨g4,3,none⟩)) (w0 rfl) (r_indexA (j := 3) F_ar121 (ej rfl rfl) (ej rfl rfl) (by omega) (by decide)) (t_val (v := .func (.func 79) #[] #[]) (w0 rfl) (r_load (v := .func (.func 79) #[] #[]) F_o77 (ej rfl rfl) (cell_of_blk (i := 3) (Ext.blk x10 (Wrote.blk k8)) rfl)) (t_val (v := .pointer (some ⟨g,0,none⟩)) (w0 rfl) (r_move (v := .pointer (some ⟨g,0,none⟩)) (ej rfl rfl)) (t_val (v := .agg #[.int .i8 x.k,.string x.a.p,.slice Aa x.a.args.length ca,.int .i8 x.r,.int .i8 x.e1.op,.string x.e1.t.v,.int .i8 x.e1.t.l.k,.int .i64 x.e1.t.l.n,.string x.e1.t.l.s,.slice A1 x.e1.kids.length c1,.int .i8 x.e2.op,.string x.e2.t.v,.int .i8 x.e2.t.l.k,.int .i64 x.e2.t.l.n,.string x.e2.t.l.s,.slice A2 x.e2.kids.length c2]) (w0 rfl) (r_loadL (cs := [.int .i8 x.k,.string x.a.p,.slice Aa x.a.args.length ca,.int .i8 x.r,.int .i8 x.e1.op,.string x.e1.t.v,.int .i8 x.e1.t.l.k,.int .i64 x.e1.t.l.n,.string x.e1.t.l.s,.slice A1 x.e1.kids.length c1,.int .i8 x.e2.op,.string x.e2.t.v,.int .i8 x.e2.t.l.k,.int .i64 x.e2.t.l.n,.string x.e2.t.l.s,.slice A2 x.e2.kids.length c2]) F_m38 (ej rfl rfl) rfl rfl (blk_cells (Ext.blk (Ext.trans (Keep.then_ (NewB.ext n6) (Wrote.keep k8) (fun i_ hi_ h_ => by have a_ := NewB.eq n6; have b_ := Keep.size (Ext.refl w2); omega)) x10) (NewB.blk n3)) 0 rfl)) (t_done (s_call F_e79 (w0 rfl) (ej rfl rfl) (m2 (ej rfl rfl) (ej rfl rfl)) (args := #[.pointer (some ⟨g,0,none⟩),.agg #[.int .i8 x.k,.string x.a.p,.slice Aa x.a.args.length ca,.int .i8 x.r,.int .i8 x.e1.op,.string x.e1.t.v,.int .i8 x.e1.t.l.k,.int .i64 x.e1.t.l.n,.string x.e1.t.l.s,.slice A1 x.e1.kids.length c1,.int .i8 x.e2.op,.string x.e2.t.v,.int .i8 x.e2.t.l.k,.int .i64 x.e2.t.l.n,.string x.e2.t.l.s,.slice A2 x.e2.kids.length c2]]) rfl (p_cmp x Aa A1 A2 ca c1 c2 g (s0) wz _ (Ext.trans (Keep.then_ (Ext.trans (Ext.trans x0 (NewB.ext n3)) (NewB.ext n6)) (Wrote.keep k8) (fun i_ hi_ h_ => by have a_ := NewB.eq n6; have b_ := Keep.size (Ext.trans x0 (NewB.ext n3)); omega)) x10) tb (BW.ext hb (Ext.trans (Keep.then_ (Ext.trans (NewB.ext n3) (NewB.ext n6)) (Wrote.keep k8) (fun i_ hi_ h_ => by have a_ := NewB.eq n6; have b_ := Keep.size (NewB.ext n3); omega)) x10)) ho hra hr1 hr2 (by assumption) tr (by (try simp only [ByteArray.size_append,z0]); omega) hk) ?_)))))))
  rintro _ w11 ⟨rfl,wr12⟩
  refine c_done (ret0 rfl ?_)
  exact ⟨_,rfl,rfl,Wr.cast (Wr.then_ (Wr.of_ext hb (Ext.trans (Keep.then_ (Ext.trans (NewB.ext n3) (NewB.ext n6)) (Wrote.keep k8) (fun i_ hi_ h_ => by have a_ := NewB.eq n6; have b_ := Keep.size (NewB.ext n3); omega)) x10) hB_) wr12) (rfl)⟩
theorem p_literal (x : Lt) (Aa A1 A2 : Option Addr) (ca c1 c2 : Nat) (g : Nat) (s0 : ByteArray) (wz : World) (w : World) (x0 : Ext wz w) (tb : Tabs Tryz.prog wz) (hb : BW 5 97 wz.heap.size w g s0) (ho : x.okc ca c1 c2) (hra : Row RT 4 wz Aa x.a.args) (hr1 : Row RE 6 wz A1 x.e1.kids) (hr2 : Row RE 6 wz A2 x.e2.kids) (hlt : ltB x = true) (tr : RelT Tryz.prog wz) (hs : s0.size + 1000000 ≤ 100000000000000) : Rt Tryz.prog 40 #[.pointer (some ⟨g,0,none⟩),.agg #[.int .i8 x.k,.string x.a.p,.slice Aa x.a.args.length ca,.int .i8 x.r,.int .i8 x.e1.op,.string x.e1.t.v,.int .i8 x.e1.t.l.k,.int .i64 x.e1.t.l.n,.string x.e1.t.l.s,.slice A1 x.e1.kids.length c1,.int .i8 x.e2.op,.string x.e2.t.v,.int .i8 x.e2.t.l.k,.int .i64 x.e2.t.l.n,.string x.e2.t.l.s,.slice A2 x.e2.kids.length c2]] w fun v w' => v = .tuple #[] ∧ Wr 5 97 wz.heap.size g (s0 ++ ltW x) w w' := by
  by_cases h1 : x.k = 1
  · exact p_literal1 x Aa A1 A2 ca c1 c2 g s0 wz w x0 tb hb ho hra hr1 hr2 hlt tr hs h1
  by_cases h2 : x.k = 2
  · exact p_literal2 x Aa A1 A2 ca c1 c2 g s0 wz w x0 tb hb ho hra hr1 hr2 hlt tr hs h2
  exact p_literal3 x Aa A1 A2 ca c1 c2 g s0 wz w x0 tb hb ho hra hr1 hr2 hlt tr hs (lt_cmp hlt h1 h2).1
end Go.Proofs.Zw

set_option linter.unusedVariables false
set_option linter.unusedSimpArgs false
set_option maxRecDepth 10000
namespace Go.Proofs.Zw
open Go Go.Wk Go.Proofs Go.Lib
attribute [local irreducible] Go.wpList Go.wpStill Go.wpQuiet Go.Code.wp Go.Calls
theorem F_e39 : enterable Tryz.prog 39 = true := by kernel_rfl
theorem F_e40 : enterable Tryz.prog 40 = true := by kernel_rfl
end Go.Proofs.Zw

set_option linter.unusedVariables false
set_option linter.unusedSimpArgs false
set_option maxRecDepth 10000
namespace Go.Proofs.Zw
open Go Go.Wk Go.Proofs Go.Lib
attribute [local irreducible] Go.wpList Go.wpStill Go.wpQuiet Go.Code.wp Go.Calls
theorem F_e98 : enterable Tryz.prog 98 = true := by kernel_rfl
theorem l_literalParts (x : Lt) (Aa A1 A2 : Option Addr) (ca c1 c2 : Nat) (L : Nat) (w : World) (ho : x.okc ca c1 c2) (hra : Row RT 4 w Aa x.a.args) (hr1 : Row RE 6 w A1 x.e1.kids) (hr2 : Row RE 6 w A2 x.e2.kids) (hL : L ≤ 1048576) :
    Rt Tryz.prog 57 #[.agg #[.int .i8 x.k,.string x.a.p,.slice Aa x.a.args.length ca,.int .i8 x.r,.int .i8 x.e1.op,.string x.e1.t.v,.int .i8 x.e1.t.l.k,.int .i64 x.e1.t.l.n,.string x.e1.t.l.s,.slice A1 x.e1.kids.length c1,.int .i8 x.e2.op,.string x.e2.t.v,.int .i8 x.e2.t.l.k,.int .i64 x.e2.t.l.n,.string x.e2.t.l.s,.slice A2 x.e2.kids.length c2],.int .i64 ((L : Nat) : Int)] w fun v w' => (∃ z : Nat,z ≤ L + 1 ∧ v = .int .i64 ((z : Nat) : Int)) ∧ Ext w w' := by
  refine enter Tryz.func57 rfl (l := [.agg #[.int .i8 x.k,.string x.a.p,.slice Aa x.a.args.length ca,.int .i8 x.r,.int .i8 x.e1.op,.string x.e1.t.v,.int .i8 x.e1.t.l.k,.int .i64 x.e1.t.l.n,.string x.e1.t.l.s,.slice A1 x.e1.kids.length c1,.int .i8 x.e2.op,.string x.e2.t.v,.int .i8 x.e2.t.l.k,.int .i64 x.e2.t.l.n,.string x.e2.t.l.s,.slice A2 x.e2.kids.length c2],.int .i64 ((L : Nat) : Int)]) rfl Tryz.ntmps57 (Nat.le_of_ble_eq_true rfl) ?_
  have hoa_ := Lt.okc.a ho
  have ho1_ := Lt.okc.e1 ho
  have ho2_ := Lt.okc.e2 ho
  have hl1_ := Ex.okc.l ho1_
  have hl2_ := Ex.okc.l ho2_
  have hc1_ := Ex.okc.c ho1_
  have hc2_ := Ex.okc.c ho2_
  have hla_ := At.okc.l hoa_
  have hca_ := At.okc.c hoa_
  have hpa_ := At.okc.p hoa_
  refine c_seq (c_reg (s_box (v := .agg #[.int .i8 x.k,.string x.a.p,.slice Aa x.a.args.length ca,.int .i8 x.r,.int .i8 x.e1.op,.string x.e1.t.v,.int .i8 x.e1.t.l.k,.int .i64 x.e1.t.l.n,.string x.e1.t.l.s,.slice A1 x.e1.kids.length c1,.int .i8 x.e2.op,.string x.e2.t.v,.int .i8 x.e2.t.l.k,.int .i64 x.e2.t.l.n,.string x.e2.t.l.s,.slice A2 x.e2.kids.length c2]) (cs := #[.int .i8 x.k,.string x.a.p,.slice Aa x.a.args.length ca,.int .i8 x.r,.int .i8 x.e1.op,.string x.e1.t.v,.int .i8 x.e1.t.l.k,.int .i64 x.e1.t.l.n,.string x.e1.t.l.s,.slice A1 x.e1.kids.length c1,.int .i8 x.e2.op,.string x.e2.t.v,.int .i8 x.e2.t.l.k,.int .i64 x.e2.t.l.n,.string x.e2.t.l.s,.slice A2 x.e2.kids.length c2]) (w0 rfl) (ej rfl rfl) rfl ?_))
  intro w2 g1 n3
  refine s_assign (v := .int .i64 0) ev_c (w0 rfl) (c_done (n_then (c_seq (c_head (fun w_ => Ext w2 w_) 8 mixed (by kernel_rfl) (fun _ x_ => x_) ?_))))
  intro w4 x5
  refine h_val (v := .pointer (some ⟨g1,1,none⟩)) (w0 rfl) (fun w_ c_ => r_field (off := 1) (o' := 1) F_f38_1 (ej rfl rfl) rfl) (h_val (v := .pointer (some ⟨g1,2,none⟩)) (w0 rfl) (fun w_ c_ => r_field (off := 1) (o' := 2) F_f24_1 (ej rfl rfl) rfl) (h_val (v := .slice Aa x.a.args.length ca) (w0 rfl) (fun w_ c_ => r_load (v := .slice Aa x.a.args.length ca) F_o22 (ej rfl rfl) (cell_of_blk (i := 2) (Ext.blk c_ (NewB.blk n3)) rfl)) (h_val (v := .int .i64 (x.a.args.length : Int)) (w0 rfl) (fun w_ c_ => r_lenL F_l22 (ej rfl rfl)) (h_val (v := .int .i64 ((1 + x.a.args.length : Nat) : Int)) (w0 rfl) (fun w_ c_ => r_add (r := ((1 + x.a.args.length : Nat) : Int)) ev_c (ej rfl rfl) (by omega) (by omega)) (h_val (v := .pointer (some ⟨g1,4,none⟩)) (w0 rfl) (fun w_ c_ => r_field (off := 4) (o' := 4) F_f38_3 (ej rfl rfl) rfl) (h_val (v := .agg #[.int .i8 x.e1.op,.string x.e1.t.v,.int .i8 x.e1.t.l.k,.int .i64 x.e1.t.l.n,.string x.e1.t.l.s,.slice A1 x.e1.kids.length c1]) (w0 rfl) (fun w_ c_ => r_loadL (cs := [.int .i8 x.e1.op,.string x.e1.t.v,.int .i8 x.e1.t.l.k,.int .i64 x.e1.t.l.n,.string x.e1.t.l.s,.slice A1 x.e1.kids.length c1]) F_m36 (ej rfl rfl) rfl rfl (blk_cells (Ext.blk c_ (NewB.blk n3)) 4 rfl)) (h_val (v := .int .i64 ((L : Nat) : Int)) (w0 rfl) (fun w_ c_ => r_move (v := .int .i64 ((L : Nat) : Int)) (ej rfl rfl)) (h_done ?_))))))))
  refine tl_cons ?_
  refine s_call F_e98 (w0 rfl) ev_f (m2 (ej rfl rfl) (ej rfl rfl)) (args := #[.agg #[.int .i8 x.e1.op,.string x.e1.t.v,.int .i8 x.e1.t.l.k,.int .i64 x.e1.t.l.n,.string x.e1.t.l.s,.slice A1 x.e1.kids.length c1],.int .i64 ((L : Nat) : Int)]) rfl (l_ExprParts x.e1 A1 c1 L _ ho1_ (Row.extE (Row.extE hr1 (NewB.ext n3)) x5) (by omega)) ?_
  rintro _ w7 ⟨⟨z6,hz9,rfl⟩,x8⟩
  refine tl_done ⟨(Ext.trans x5 x8),?_⟩
  refine tl_cons ?_
  refine s_add (r := ((1 + x.a.args.length + z6 : Nat) : Int)) (ej rfl rfl) (ej rfl rfl) (by omega) (by omega) (w0 rfl) ?_
  refine tl_done ⟨(Ext.trans x5 x8),?_⟩
  refine tl_cons ?_
  refine s_assign (v := .int .i64 ((1 + x.a.args.length + z6 : Nat) : Int)) (ej rfl rfl) (w0 rfl) ?_
  refine tl_done ⟨(Ext.trans x5 x8),?_⟩
  refine tl_nil ?_
  refine n_then (c_seq (c_seq (c_reg (s_move (v := .int .i64 ((1 + x.a.args.length + z6 : Nat) : Int)) (ej rfl rfl) (w0 rfl) (s_move (v := .int .i64 ((L : Nat) : Int)) (ej rfl rfl) (w0 rfl) (s_cmp (r := decide (((L : Nat) : Int) < ((1 + x.a.args.length + z6 : Nat) : Int))) (ej rfl rfl) (ej rfl rfl) rfl (w0 rfl) (c_done (n_then ?_))))))))
  by_cases h10 : ((L : Nat) : Int) < ((1 + x.a.args.length + z6 : Nat) : Int)
  · refine c_cond1 (vb (ej rfl rfl) (decide_eq_true h10)) (c_seq (c_reg (s_move (v := .int .i64 ((L : Nat) : Int)) (ej rfl rfl) (w0 rfl) (s_add (r := ((L + 1 : Nat) : Int)) (ej rfl rfl) ev_c (by omega) (by omega) (w0 rfl) (s_assign (v := .int .i64 ((L + 1 : Nat) : Int)) (ej rfl rfl) (w0 rfl) (c_done (n_then (c_ret (r_then (ret1 (v := .int .i64 ((L + 1 : Nat) : Int)) rfl rfl rfl ?_))))))))))
    exact ⟨_,rfl,⟨L + 1,by omega,rfl⟩,(Ext.trans (Ext.trans (NewB.ext n3) x5) x8)⟩
  refine c_cond0 (vb (ej rfl rfl) (decide_eq_false h10)) (c_skip (n_then (c_seq (c_reg (s_move (v := .int .i64 ((1 + x.a.args.length + z6 : Nat) : Int)) (ej rfl rfl) (w0 rfl) (s_field (off := 10) (o' := 10) F_f38_4 (ej rfl rfl) rfl (w0 rfl) (s_loadL (cs := [.int .i8 x.e2.op,.string x.e2.t.v,.int .i8 x.e2.t.l.k,.int .i64 x.e2.t.l.n,.string x.e2.t.l.s,.slice A2 x.e2.kids.length c2]) F_m36 (ej rfl rfl) rfl rfl (blk_cells (Ext.blk x8 (Ext.blk x5 (NewB.blk n3))) 10 rfl) (w0 rfl) (s_move (v := .int .i64 ((L : Nat) : Int)) (ej rfl rfl) (w0 rfl) (s_move (v := .int .i64 ((1 + x.a.args.length + z6 : Nat) : Int)) (ej rfl rfl) (w0 rfl) (s_sub (r := ((L - (1 + x.a.args.length + z6) : Nat) : Int)) (ej rfl rfl) (ej rfl rfl) (by omega) (by omega) (w0 rfl) (s_call F_e98 (w0 rfl) ev_f (m2 (ej rfl rfl) (ej rfl rfl)) (args := #[.agg #[.int .i8 x.e2.op,.string x.e2.t.v,.int .i8 x.e2.t.l.k,.int .i64 x.e2.t.l.n,.string x.e2.t.l.s,.slice A2 x.e2.kids.length c2],.int .i64 ((L - (1 + x.a.args.length + z6) : Nat) : Int)]) rfl (l_ExprParts x.e2 A2 c2 (L - (1 + x.a.args.length + z6)) _ ho2_ (Row.extE (Row.extE (Row.extE hr2 (NewB.ext n3)) x5) x8) (by omega)) ?_)))))))))))
  rintro _ w12 ⟨⟨z11,hz14,rfl⟩,x13⟩
  refine s_add (r := ((1 + x.a.args.length + z6 + z11 : Nat) : Int)) (ej rfl rfl) (ej rfl rfl) (by omega) (by omega) (w0 rfl) (s_assign (v := .int .i64 ((1 + x.a.args.length + z6 + z11 : Nat) : Int)) (ej rfl rfl) (w0 rfl) (c_done (n_then (c_ret (ret1 (v := .int .i64 ((1 + x.a.args.length + z6 + z11 : Nat) : Int)) rfl rfl rfl ?_)))))
  exact ⟨_,rfl,⟨1 + x.a.args.length + z6 + z11,by omega,rfl⟩,(Ext.trans (Ext.trans (Ext.trans (NewB.ext n3) x5) x8) x13)⟩
end Go.Proofs.Zw

set_option linter.unusedVariables false
set_option linter.unusedSimpArgs false
namespace Go.Wk
open Go Go.RowKit Go.Lib
/-! ### copies with a mark behind each list, of any kind -/
structure TwOk {α : Type} (R : Nat → World → α → List Value → Prop) : Prop where
  mono : ∀ {lo lo' : Nat} {w : World} {x : α} {cs : List Value},R lo w x cs → lo' ≤ lo → R lo' w x cs
  keep : ∀ {lo : Nat} {w w' : World} {x : α} {cs : List Value} {S : Nat → Prop},R lo w x cs → Keep S w w' → (∀ i,S i → i < lo) → R lo w' x cs
structure TwG {α : Type} (R : Nat → World → α → List Value → Prop) (mk : List Value) (m lo : Nat) (w : World) (b : Nat) (l : List α) : Prop where
  above : lo ≤ b
  row : ∀ (j : Nat) (x : α),l[j]? = some x → ∃ cs,R lo w x cs ∧ ∀ (i : Nat) (u : Value),cs[i]? = some u → w.cell? ⟨b,0 + j * m + i,none⟩ = some u
  mark : ∀ (i : Nat) (u : Value),mk[i]? = some u → w.cell? ⟨b,0 + l.length * m + i,none⟩ = some u
section
variable {α : Type} {R : Nat → World → α → List Value → Prop} {mk : List Value} {m lo lo' b : Nat} {w w' : World} {l : List α}
theorem TwG.mono (ok : TwOk R) (h : TwG R mk m lo w b l) (hl : lo' ≤ lo) : TwG R mk m lo' w b l :=
  ⟨Nat.le_trans hl h.above,fun j x hx => by obtain ⟨c,h1,h2⟩ := h.row j x hx; exact ⟨c,ok.mono h1 hl,h2⟩,h.mark⟩
theorem TwG.keep (ok : TwOk R) {S : Nat → Prop} (h : TwG R mk m lo w b l) (k : Keep S w w') (hS : ∀ i,S i → i < lo) : TwG R mk m lo w' b l := by
  have hn : ¬ S b := fun hb => by have := hS b hb; have := h.above; omega
  exact ⟨h.above,fun j x hx => by obtain ⟨c,h1,h2⟩ := h.row j x hx; exact ⟨c,ok.keep h1 k hS,fun i u hu => k.cell (h2 i u hu) hn⟩,fun i u hu => k.cell (h.mark i u hu) hn⟩
theorem TwG.ext (ok : TwOk R) (h : TwG R mk m lo w b l) (k : Ext w w') : TwG R mk m lo w' b l := h.keep ok k (fun _ h => h.elim)
theorem TwG.rows {R0 : World → α → List Value → Prop} (h : TwG R mk m lo w b l) (hR : ∀ x cs,R lo w x cs → R0 w x cs) : Row R0 m w (some ⟨b,0,none⟩) l :=
  .inr ⟨b,0,rfl,fun j y hy => by obtain ⟨c,h1,h2⟩ := h.row j y hy; exact ⟨c,hR _ _ h1,h2⟩⟩
/-- What a block to be filled holds at a place. -/
def EG (R : Nat → World → α → List Value → Prop) (mk : List Value) (lo : Nat) (l : List α) (w : World) (j : Nat) (cs : List Value) : Prop := if j < l.length then ∀ x,l[j]? = some x → R lo w x cs else cs = mk
theorem EG.keep (ok : TwOk R) {j : Nat} {cs : List Value} {S : Nat → Prop} (h : EG R mk lo l w j cs) (k : Keep S w w') (hS : ∀ i,S i → i < lo) : EG R mk lo l w' j cs := by
  unfold EG at *
  split
  · rename_i hj; rw [if_pos hj] at h; exact fun x hx => ok.keep (h x hx) k hS
  · rename_i hj; rw [if_neg hj] at h; exact h
theorem EG.of {j : Nat} {x : α} {cs : List Value} (hx : l[j]? = some x) (h : R lo w x cs) : EG R mk lo l w j cs := by
  unfold EG
  rw [if_pos (List.getElem?_eq_some_iff.1 hx).1]
  intro y hy; rw [hx] at hy; cases hy; exact h
theorem EG.mark : EG R mk lo l w l.length mk := by unfold EG; rw [if_neg (Nat.lt_irrefl _)]
theorem TwG.of_fill (ok : TwOk R) {e N : Nat} (h : Fill (EG R mk lo l) m e w b N (l.length + 1)) (hl : lo' ≤ lo) (hb : lo' ≤ b) : TwG R mk m lo' w b l := by
  refine ⟨hb,fun j x hx => ?_,?_⟩
  · have hj : j < l.length := (List.getElem?_eq_some_iff.1 hx).1
    obtain ⟨c,a1,_,a3⟩ := h.cells j (by omega)
    unfold EG at a1
    rw [if_pos hj] at a1
    exact ⟨c,ok.mono (a1 x hx) hl,a3⟩
  · obtain ⟨c,a1,_,a3⟩ := h.cells l.length (by omega)
    unfold EG at a1
    rw [if_neg (Nat.lt_irrefl _)] at a1
    subst a1
    exact a3
end
/-! ### the kinds -/
structure Ag where
  k : Int
  t : Tm
structure Ag.wf (x : Ag) : Prop where
  k : -128 ≤ x.k ∧ x.k ≤ 127
  t : x.t.wf
structure Ru where
  p : ByteArray
  head : List Ag
  body : List Lt
structure Ru.okc (x : Ru) (ch cb : Nat) : Prop where
  p : x.p.size ≤ 140737488351232
  hl : x.head.length ≤ ch
  hc : x.head.length * 56 ≤ 140737488351232
  bl : x.body.length ≤ cb
  bc : x.body.length * 216 ≤ 140737488351232
def Ag.none : Ag := ⟨0,Tm.none⟩
def agAt (l : List Ag) (j : Nat) : Ag := l.getD j Ag.none
theorem agAt_of {l : List Ag} {y : Ag} {j : Nat} (h : l[j]? = some y) : agAt l j = y := by simp [agAt,List.getD_eq_getElem?_getD,h]
theorem agAt_there {l : List Ag} {j : Nat} (h : j < l.length) : l[j]? = some (agAt l j) := by simp [agAt,List.getD_eq_getElem?_getD,h]
def Ex.zero : Ex := .mk 0 Tm.none []
def Lt.zero : Lt := ⟨0,⟨⟨#[]⟩,[]⟩,0,Ex.zero,Ex.zero⟩
def ltAt (l : List Lt) (j : Nat) : Lt := l.getD j Lt.zero
theorem ltAt_of {l : List Lt} {y : Lt} {j : Nat} (h : l[j]? = some y) : ltAt l j = y := by simp [ltAt,List.getD_eq_getElem?_getD,h]
theorem ltAt_there {l : List Lt} {j : Nat} (h : j < l.length) : l[j]? = some (ltAt l j) := by simp [ltAt,List.getD_eq_getElem?_getD,h]
def ruAt (l : List Ru) (j : Nat) : Ru := l.getD j ⟨⟨#[]⟩,[],[]⟩
theorem ruAt_of {l : List Ru} {y : Ru} {j : Nat} (h : l[j]? = some y) : ruAt l j = y := by simp [ruAt,List.getD_eq_getElem?_getD,h]
theorem ruAt_there {l : List Ru} {j : Nat} (h : j < l.length) : l[j]? = some (ruAt l j) := by simp [ruAt,List.getD_eq_getElem?_getD,h]
def tmCs (x : Tm) : List Value := [.string x.v,.int .i8 x.l.k,.int .i64 x.l.n,.string x.l.s]
def ltCs (x : Lt) (Aa A1 A2 : Option Addr) (ca c1 c2 : Nat) : List Value := [.int .i8 x.k,.string x.a.p,.slice Aa x.a.args.length ca,.int .i8 x.r,.int .i8 x.e1.op,.string x.e1.t.v,.int .i8 x.e1.t.l.k,.int .i64 x.e1.t.l.n,.string x.e1.t.l.s,.slice A1 x.e1.kids.length c1,.int .i8 x.e2.op,.string x.e2.t.v,.int .i8 x.e2.t.l.k,.int .i64 x.e2.t.l.n,.string x.e2.t.l.s,.slice A2 x.e2.kids.length c2]
def ruCs (x : Ru) (Ah Ab : Option Addr) (ch cb : Nat) : List Value := [.string x.p,.slice Ah x.head.length ch,.slice Ab x.body.length cb]
def RG (w : World) (x : Ag) (cs : List Value) : Prop := cs = [.int .i8 x.k,.string x.t.v,.int .i8 x.t.l.k,.int .i64 x.t.l.n,.string x.t.l.s] ∧ x.wf
def RL (w : World) (x : Lt) (cs : List Value) : Prop := ∃ Aa A1 A2 ca c1 c2,cs = ltCs x Aa A1 A2 ca c1 c2 ∧ x.okc ca c1 c2 ∧ Row RT 4 w Aa x.a.args ∧ Row RE 6 w A1 x.e1.kids ∧ Row RE 6 w A2 x.e2.kids
def RU (w : World) (x : Ru) (cs : List Value) : Prop := ∃ Ah Ab ch cb,cs = ruCs x Ah Ab ch cb ∧ x.okc ch cb ∧ Row RG 5 w Ah x.head ∧ Row RL 16 w Ab x.body
theorem Row.extG {w w' : World} {A : Option Addr} {xs : List Ag} (h : Row RG 5 w A xs) (k : Ext w w') : Row RG 5 w' A xs := h.ext k (fun _ _ k h => h)
theorem RL.ext {w w' : World} (k : Ext w w') {x : Lt} {cs : List Value} (h : RL w x cs) : RL w' x cs := by
  obtain ⟨Aa,A1,A2,ca,c1,c2,h1,h2,h3,h4,h5⟩ := h; exact ⟨Aa,A1,A2,ca,c1,c2,h1,h2,h3.extT k,h4.extE k,h5.extE k⟩
theorem Row.extL {w w' : World} {A : Option Addr} {xs : List Lt} (h : Row RL 16 w A xs) (k : Ext w w') : Row RL 16 w' A xs := h.ext k (fun _ _ k h => RL.ext k h)
theorem RU.ext {w w' : World} (k : Ext w w') {x : Ru} {cs : List Value} (h : RU w x cs) : RU w' x cs := by
  obtain ⟨Ah,Ab,ch,cb,h1,h2,h3,h4⟩ := h; exact ⟨Ah,Ab,ch,cb,h1,h2,h3.extG k,h4.extL k⟩
theorem Row.extU {w w' : World} {A : Option Addr} {xs : List Ru} (h : Row RU 3 w A xs) (k : Ext w w') : Row RU 3 w' A xs := h.ext k (fun _ _ k h => RU.ext k h)
/-! ### their copies -/
def markT : List Value := [.string spareW,.int .i8 0,.int .i64 0,.string ⟨#[]⟩]
def markG : List Value := [.int .i8 0,.string spareW,.int .i8 0,.int .i64 0,.string ⟨#[]⟩]
def markL : List Value := [.int .i8 99,.string spareW,.slice none 0 0,.int .i8 0,.int .i8 0,.string ⟨#[]⟩,.int .i8 0,.int .i64 0,.string ⟨#[]⟩,.slice none 0 0,.int .i8 0,.string ⟨#[]⟩,.int .i8 0,.int .i64 0,.string ⟨#[]⟩,.slice none 0 0]
def markU : List Value := [.string spareW,.slice none 0 0,.slice none 0 0]
def QT (lo : Nat) (w : World) (x : Tm) (cs : List Value) : Prop := RT w x cs
def QG (lo : Nat) (w : World) (x : Ag) (cs : List Value) : Prop := RG w x cs
theorem okT : TwOk QT := ⟨fun h _ => h,fun h _ _ => h⟩
theorem okG : TwOk QG := ⟨fun h _ => h,fun h _ _ => h⟩
def QL (lo : Nat) (w : World) (x : Lt) (cs : List Value) : Prop := ∃ ba b1 b2,cs = ltCs x (some ⟨ba,0,none⟩) (some ⟨b1,0,none⟩) (some ⟨b2,0,none⟩) (x.a.args.length + 1) (x.e1.kids.length + 1) (x.e2.kids.length + 1) ∧ x.okc (x.a.args.length + 1) (x.e1.kids.length + 1) (x.e2.kids.length + 1) ∧ TwG QT markT 4 lo w ba x.a.args ∧ TwE lo w b1 x.e1.kids ∧ TwE lo w b2 x.e2.kids
theorem okL : TwOk QL := ⟨fun h hl => by
  obtain ⟨ba,b1,b2,h1,h2,h3,h4,h5⟩ := h; exact ⟨ba,b1,b2,h1,h2,h3.mono okT hl,h4.mono hl,h5.mono hl⟩,fun h k hS => by
  obtain ⟨ba,b1,b2,h1,h2,h3,h4,h5⟩ := h; exact ⟨ba,b1,b2,h1,h2,h3.keep okT k hS,h4.keep k hS,h5.keep k hS⟩⟩
def QU (lo : Nat) (w : World) (x : Ru) (cs : List Value) : Prop := ∃ bh bb,cs = ruCs x (some ⟨bh,0,none⟩) (some ⟨bb,0,none⟩) (x.head.length + 1) (x.body.length + 1) ∧ x.okc (x.head.length + 1) (x.body.length + 1) ∧ TwG QG markG 5 lo w bh x.head ∧ TwG QL markL 16 lo w bb x.body
theorem okU : TwOk QU := ⟨fun h hl => by
  obtain ⟨bh,bb,h1,h2,h3,h4⟩ := h; exact ⟨bh,bb,h1,h2,h3.mono okG hl,h4.mono okL hl⟩,fun h k hS => by
  obtain ⟨bh,bb,h1,h2,h3,h4⟩ := h; exact ⟨bh,bb,h1,h2,h3.keep okG k hS,h4.keep okL k hS⟩⟩
theorem TwG.rowsT {lo : Nat} {w : World} {b : Nat} {l : List Tm} (h : TwG QT markT 4 lo w b l) : Row RT 4 w (some ⟨b,0,none⟩) l := h.rows (fun _ _ h => h)
theorem TwG.rowsG {lo : Nat} {w : World} {b : Nat} {l : List Ag} (h : TwG QG markG 5 lo w b l) : Row RG 5 w (some ⟨b,0,none⟩) l := h.rows (fun _ _ h => h)
theorem QL.rl {lo : Nat} {w : World} {x : Lt} {cs : List Value} (h : QL lo w x cs) : RL w x cs := by
  obtain ⟨ba,b1,b2,h1,h2,h3,h4,h5⟩ := h; exact ⟨_,_,_,_,_,_,h1,h2,h3.rowsT,h4.rows,h5.rows⟩
theorem TwG.rowsL {lo : Nat} {w : World} {b : Nat} {l : List Lt} (h : TwG QL markL 16 lo w b l) : Row RL 16 w (some ⟨b,0,none⟩) l := h.rows (fun _ _ h => h.rl)
theorem QU.ru {lo : Nat} {w : World} {x : Ru} {cs : List Value} (h : QU lo w x cs) : RU w x cs := by
  obtain ⟨bh,bb,h1,h2,h3,h4⟩ := h; exact ⟨_,_,_,_,h1,h2,h3.rowsG,h4.rowsL⟩
theorem TwG.rowsU {lo : Nat} {w : World} {b : Nat} {l : List Ru} (h : TwG QU markU 3 lo w b l) : Row RU 3 w (some ⟨b,0,none⟩) l := h.rows (fun _ _ h => h.ru)
end Go.Wk

set_option linter.unusedVariables false
set_option linter.unusedSimpArgs false
namespace Go.Wk
open Go
/-! ### a drawn region whose first operations come in any order, each with its own trace -/
/-- What is known of the operations that are done (L): what each gave, between which worlds. -/
structure Tr (G : Nat → Value → World → World → Prop) (dst : Nat → Nat) (m : Nat) (w0 : World) (env0 env : Nat → Value) (L : Nat → Prop) (B A : Nat → World) (w : World) : Prop where
  ext : Ext w0 w
  g : ∀ k,L k → G k (env (dst k)) (B k) (A k)
  x0 : ∀ k,L k → Ext w0 (B k)
  x1 : ∀ k,L k → Ext (B k) (A k)
  x2 : ∀ k,L k → Ext (A k) w
  ap : ∀ j k,L j → L k → j ≠ k → Ext (A j) (B k) ∨ Ext (A k) (B j)
  env : ∀ s,(∀ k,k < m → dst k ≠ s) → env s = env0 s
section
variable {P : Program} {ops : Array Oper} {Q : Exit → Act → World → Prop} {n : Nat} {ds : List Deferred} {w w0 : World} {G : Nat → Value → World → World → Prop} {dst : Nat → Nat} {m : Nat} {env0 env : Nat → Value} {B A : Nat → World}
theorem Tr.sub {L L' : Nat → Prop} (h : Tr G dst m w0 env0 env L B A w) (hs : ∀ k,L' k → L k) : Tr G dst m w0 env0 env L' B A w :=
  ⟨h.ext,fun k hk => h.g k (hs k hk),fun k hk => h.x0 k (hs k hk),fun k hk => h.x1 k (hs k hk),fun k hk => h.x2 k (hs k hk),fun j k hj hk => h.ap j k (hs j hj) (hs k hk),h.env⟩
def freeB (md : Region.Mode) (ops : Array Oper) (pre : Nat → List Nat) (m : Nat) : Nat → Array Bool → Bool
  | 0,listed => (List.range m).all (fun k => listed.getD k false) && Region.seqB md ops (ops.size - m) m listed
  | f + 1,listed => !(Region.ready md ops listed).isEmpty && (Region.ready md ops listed).all fun i => decide (i < m) && (pre i).all (fun j => listed.getD j false && decide (j < m)) && !listed.getD i true && freeB md ops pre m f (listed.setIfInBounds i true)
theorem getD_set {l : Array Bool} {i k : Nat} (hi : l.getD i true = false) : (l.setIfInBounds i true).getD k false = true ↔ k = i ∨ l.getD k false = true := by
  have hlt : i < l.size := by
    by_cases h : i < l.size
    · exact h
    · simp [Array.getD,h] at hi
  rw [Array.getD_eq_getD_getElem?,Array.getD_eq_getD_getElem?,Array.getElem?_setIfInBounds]
  by_cases h : i = k
  · subst h; simp [hlt]
  · simp [h,Ne.symm h]
theorem upd_eq {f : Nat → Value} {k : Nat} {v : Value} : upd f k v k = v := by simp [upd]
theorem upd_ne {f : Nat → Value} {k s : Nat} {v : Value} (h : s ≠ k) : upd f k v s = f s := by
  have hb : Nat.beq s k = false := by
    cases hb : Nat.beq s k with
    | false => rfl
    | true => exact absurd (Nat.eq_of_beq_eq_true hb) h
  show (bif Nat.beq s k then v else f s) = f s
  rw [hb]; rfl
theorem trace_go {wd : World} {pre : Nat → List Nat} (l : List Oper) (hl : l.toArray = ops) (hd : ∀ j,j < m → ∀ k,k < m → dst j = dst k → j = k)
    (step : ∀ k,k < m → ∀ (env : Nat → Value) (B A : Nat → World) (w1 : World),Tr G dst m wd env0 env (fun j => j ∈ pre k) B A w1 → ∃ o,ops[k]? = some o ∧ wpList P ops (onlyN fun a' w' => ∃ v,a' = mkA n (upd env (dst k) v) ds ∧ G k v w1 w' ∧ Ext w1 w') [o] (mkA n env ds) w1)
    (fin : ∀ (env : Nat → Value) (B A : Nat → World) (w1 : World),Tr G dst m wd env0 env (fun j => j < m) B A w1 → wpTailS P ops (fun _ => True) (Q .normal) (l.drop m) (mkA n env ds) w1) :
    ∀ (f : Nat) (listed : Array Bool) (env : Nat → Value) (B A : Nat → World) (w1 : World),freeB .any ops pre m f listed = true → Tr G dst m wd env0 env (fun j => listed.getD j false = true ∧ j < m) B A w1 → wpAnyH P .any ops (onlyN (Q .normal)) (fun _ => True) (f + (ops.size - m)) listed (mkA n env ds) w1
  | 0,listed,env,B,A,w1,hB,h => by
    simp only [freeB,Bool.and_eq_true,List.all_eq_true,List.mem_range] at hB
    have hdl : (l.drop m).length = ops.size - m := by rw [← hl]; simp
    rw [Nat.zero_add,← hdl]
    refine wpAnyH_seq (l.drop m) m listed _ _ (fun j => by rw [← hl]; simp [List.getElem?_drop]) (by rw [hdl]; exact hB.2) (fin env B A w1 (h.sub fun k hk => ⟨hB.1 k hk,hk⟩))
  | f + 1,listed,env,B,A,w1,hB,h => by
    simp only [freeB,Bool.and_eq_true,List.all_eq_true,Bool.not_eq_true',decide_eq_true_eq] at hB
    rw [show f + 1 + (ops.size - m) = (f + (ops.size - m)) + 1 by omega]
    refine wpAnyH_all (rs := Region.ready .any ops listed) rfl (by intro h0; rw [h0] at hB; simp at hB) fun i hi => ?_
    obtain ⟨⟨⟨him,hpre⟩,hnl⟩,hB'⟩ := hB.2 i hi
    obtain ⟨o,ho,hs⟩ := step i him env B A w1 (h.sub fun k hk => hpre k hk)
    have hni : ¬ (listed.getD i false = true) := by
      have hlt : i < listed.size := by
        by_cases h : i < listed.size
        · exact h
        · simp [Array.getD,h] at hnl
      simp only [Array.getD,hlt,dif_pos] at hnl ⊢
      rw [hnl]; simp
    refine wpOp_mono (fun a2 w2 h2 => ⟨trivial,?_⟩) (wpOp_tail (md := .any) ho hs)
    obtain ⟨v,rfl,hg,hx⟩ := h2
    refine trace_go l hl hd step fin f _ (upd env (dst i) v) (fun k => if k = i then w1 else B k) (fun k => if k = i then w2 else A k) w2 hB' ?_
    have old : ∀ k,((listed.setIfInBounds i true).getD k false = true ∧ k < m) → k ≠ i → listed.getD k false = true ∧ k < m := fun k hk hn => ⟨((getD_set hnl).1 hk.1).resolve_left hn,hk.2⟩
    refine ⟨Ext.trans h.ext hx,fun k hk => ?_,fun k hk => ?_,fun k hk => ?_,fun k hk => ?_,fun j k hj hk hjk => ?_,fun s hs => ?_⟩
    · by_cases e : k = i
      · subst e; simp only [if_true]; rw [upd_eq]; exact hg
      · have hne : dst k ≠ dst i := fun he => e (hd k hk.2 i him he)
        simp only [if_neg e]; rw [upd_ne hne]; exact h.g k (old k hk e)
    · by_cases e : k = i
      · simp only [if_pos e]; exact h.ext
      · simp only [if_neg e]; exact h.x0 k (old k hk e)
    · by_cases e : k = i
      · simp only [if_pos e]; exact hx
      · simp only [if_neg e]; exact h.x1 k (old k hk e)
    · by_cases e : k = i
      · simp only [if_pos e]; exact Ext.refl _
      · simp only [if_neg e]; exact Ext.trans (h.x2 k (old k hk e)) hx
    · by_cases e : k = i
      · by_cases e2 : j = i
        · exact absurd (e2.trans e.symm) hjk
        · simp only [if_pos e,if_neg e2]; exact .inl (h.x2 j (old j hj e2))
      · by_cases e2 : j = i
        · simp only [if_neg e,if_pos e2]; exact .inr (h.x2 k (old k hk e))
        · simp only [if_neg e,if_neg e2]; exact h.ap j k (old j hj e2) (old k hk e) hjk
    · have hne : s ≠ dst i := fun he => hs i him he.symm
      rw [upd_ne hne]; exact h.env s hs
def traceB (ops : Array Oper) (pre : Nat → List Nat) (m : Nat) : Bool := decide (m ≤ ops.size) && freeB .any ops pre m m (Array.replicate ops.size false)
theorem c_trace {id : Nat} {l : List Oper} (G : Nat → Value → World → World → Prop) (dst : Nat → Nat) (pre : Nat → List Nat) (m : Nat) (hm : P.follows .mixedOrders = true) (hB : traceB l.toArray pre m = true) (hd : ∀ j,j < m → ∀ k,k < m → dst j = dst k → j = k)
    (step : ∀ wd,Ext w wd → ∀ k,k < m → ∀ (env : Nat → Value) (B A : Nat → World) (w1 : World),Tr G dst m wd env0 env (fun j => j ∈ pre k) B A w1 → ∃ o,l.toArray[k]? = some o ∧ wpList P l.toArray (onlyN fun a' w' => ∃ v,a' = mkA n (upd env (dst k) v) ds ∧ G k v w1 w' ∧ Ext w1 w') [o] (mkA n env ds) w1)
    (fin : ∀ wd,Ext w wd → ∀ (env : Nat → Value) (B A : Nat → World) (w1 : World),Tr G dst m wd env0 env (fun j => j < m) B A w1 → wpTailS P l.toArray (fun _ => True) (Q .normal) (l.drop m) (mkA n env ds) w1) : (Code.region id l.toArray true).wp P Q (mkA n env0 ds) w := by
  simp only [traceB,Bool.and_eq_true,decide_eq_true_eq] at hB
  have hd0 : Ext w { w with drawn := w.drawn + 1 } := ⟨rfl,rfl,rfl,Nat.le_refl _,fun _ _ _ => rfl⟩
  refine wp_region_any hm (wpAny_onlyN _ _ _ _ (wpAny_of_held (S := fun _ => True) _ _ _ _ ?_))
  have e : l.toArray.size = m + (l.toArray.size - m) := by omega
  rw [e]
  refine trace_go l rfl hd (step _ hd0) (fin _ hd0) m _ env0 (fun _ => w) (fun _ => w) _ (by rw [← e]; exact hB.2) ?_
  have no : ∀ k,¬ ((Array.replicate (m + (l.toArray.size - m)) false).getD k false = true ∧ k < m) := fun k h => by
    have := h.1
    simp only [Array.getD,Array.getInternal,Array.getElem_replicate] at this
    split at this <;> simp at this
  exact ⟨Ext.refl _,fun k h => absurd h (no k),fun k h => absurd h (no k),fun k h => absurd h (no k),fun k h => absurd h (no k),fun j k _ h => absurd h (no k),fun s _ => rfl⟩
end
/-! ### copies over stores into younger blocks -/
theorem Lt.okc.twin {x : Lt} {ca c1 c2 : Nat} (h : x.okc ca c1 c2) : x.okc (x.a.args.length + 1) (x.e1.kids.length + 1) (x.e2.kids.length + 1) :=
  ⟨h.k,h.r,⟨h.a.p,Nat.le_succ _,h.a.c⟩,⟨h.e1.op,h.e1.t,Nat.le_succ _,h.e1.c⟩,⟨h.e2.op,h.e2.t,Nat.le_succ _,h.e2.c⟩⟩
theorem cmpS_selfn (a : ByteArray) : cmpS .neq a a = some false := by simp [cmpS]
end Go.Wk

set_option linter.unusedVariables false
set_option linter.unusedSimpArgs false
set_option maxRecDepth 10000
namespace Go.Proofs.Zw
open Go Go.Wk Go.Proofs Go.Lib
attribute [local irreducible] Go.wpList Go.wpStill Go.wpQuiet Go.Code.wp Go.Calls
theorem F_e15 : enterable Tryz.prog 15 = true := by kernel_rfl
theorem F_e29 : enterable Tryz.prog 29 = true := by kernel_rfl
theorem F_e41 : enterable Tryz.prog 41 = true := by kernel_rfl
theorem F_e58 : enterable Tryz.prog 58 = true := by kernel_rfl
theorem F_e7 : enterable Tryz.prog 7 = true := by kernel_rfl
theorem F_e80 : enterable Tryz.prog 80 = true := by kernel_rfl
theorem F_e81 : enterable Tryz.prog 81 = true := by kernel_rfl
theorem F_iE22 : (Tryz.prog.info? (Tryz.prog.elem 22)).isSome = true := by kernel_rfl
theorem F_if33 : (Tryz.prog.info? 33).map (fun i => (i.zero,i.size,i.bytes)) = some (some (.agg #[.string (⟨#[]⟩ : ByteArray),.int .i8 0,.int .i64 0,.string (⟨#[]⟩ : ByteArray)]),4,48) := by kernel_rfl
theorem F_sz22 : (Tryz.prog.info? 22).map (·.size) = some 1 := by kernel_rfl
theorem F_sz24 : (Tryz.prog.info? 24).map (·.size) = some 2 := by kernel_rfl
theorem F_sz38 : (Tryz.prog.info? 38).map (·.size) = some 16 := by kernel_rfl
theorem F_uE22 : Tryz.prog.underlying 22 = some (.slice (Tryz.prog.elem 22)) := by kernel_rfl
theorem F_ul22 : Tryz.prog.underlying 22 = some (.slice 33) := by kernel_rfl
theorem F_z24 : (Tryz.prog.info? 24).bind (·.zero) = some (.agg #[.string (⟨#[]⟩ : ByteArray),.slice none 0 0]) := by kernel_rfl
theorem F_z38 : (Tryz.prog.info? 38).bind (·.zero) = some (.agg #[.int .i8 0,.string (⟨#[]⟩ : ByteArray),.slice none 0 0,.int .i8 0,.int .i8 0,.string (⟨#[]⟩ : ByteArray),.int .i8 0,.int .i64 0,.string (⟨#[]⟩ : ByteArray),.slice none 0 0,.int .i8 0,.string (⟨#[]⟩ : ByteArray),.int .i8 0,.int .i64 0,.string (⟨#[]⟩ : ByteArray),.slice none 0 0]) := by kernel_rfl
theorem eqn33 (a0 : ByteArray) (a1 : Int) (a2 : Int) (a3 : ByteArray) (a b : Operand) (w : World) : (do eqGuard .neq 33 a b (.agg #[.string a0,.int .i8 a1,.int .i64 a2,.string a3]) (.agg #[.string a0,.int .i8 a1,.int .i64 a2,.string a3]); binOp .neq 33 (.agg #[.string a0,.int .i8 a1,.int .i64 a2,.string a3]) (.agg #[.string a0,.int .i8 a1,.int .i64 a2,.string a3]) : Sem Value).run Tryz.prog w = .ok (.bool false) w := by
  have hu := Tryz.underlying33
  go_simp
theorem l_markTerm (n : Int) (w : World) (tb : Tabs Tryz.prog w) (hn : 0 ≤ n ∧ n ≤ 1000000) :
    Rt Tryz.prog 58 #[.int .i64 n] w fun v w' => v = .agg #[.string ((⟨#[35]⟩ : ByteArray) ++ itoaB n),.int .i8 0,.int .i64 0,.string (⟨#[]⟩ : ByteArray)] ∧ Ext w w' := by
  refine enter Tryz.func58 rfl (l := [.int .i64 n]) rfl Tryz.ntmps58 (Nat.le_of_ble_eq_true rfl) ?_
  refine c_seq (c_reg (s_alloc (cs := #[.string (⟨#[]⟩ : ByteArray),.int .i8 0,.int .i64 0,.string (⟨#[]⟩ : ByteArray)]) (w0 rfl) F_z33 rfl ?_))
  intro w2 g1 n3
  refine c_done (n_then (c_seq (c_reg (s_move (v := .int .i64 n) (ej rfl rfl) (w0 rfl) (s_call F_e96 (w0 rfl) ev_f (m1 (ej rfl rfl)) (args := #[.int .i64 n]) rfl (l_word n _ (Tabs.ext tb (NewB.ext n3)) (by omega)) ?_)))))
  rintro _ w5 ⟨rfl,x4⟩
  refine s_build (v := .agg #[.string ((⟨#[35]⟩ : ByteArray) ++ itoaB n),.int .i8 0,.int .i64 0,.string (⟨#[]⟩ : ByteArray)]) (vs := [(0,.string ((⟨#[35]⟩ : ByteArray) ++ itoaB n))]) (b1 (ej rfl rfl)) (bd33_0s ((⟨#[35]⟩ : ByteArray) ++ itoaB n)) (w0 rfl) (s_store (cs' := #[.string ((⟨#[35]⟩ : ByteArray) ++ itoaB n),.int .i8 0,.int .i64 0,.string (⟨#[]⟩ : ByteArray)]) F_sz33 (ej rfl rfl) (ej rfl rfl) (l := [.string ((⟨#[35]⟩ : ByteArray) ++ itoaB n),.int .i8 0,.int .i64 0,.string (⟨#[]⟩ : ByteArray)]) rfl rfl rfl (Ext.blk x4 (NewB.blk n3)) (Nat.le_of_ble_eq_true rfl) rfl (w0 rfl) ?_)
  intro w6 k7
  refine c_done (n_then (c_ret (retC (cs := [.string ((⟨#[35]⟩ : ByteArray) ++ itoaB n),.int .i8 0,.int .i64 0,.string (⟨#[]⟩ : ByteArray)]) (ca := #[.string ((⟨#[35]⟩ : ByteArray) ++ itoaB n),.int .i8 0,.int .i64 0,.string (⟨#[]⟩ : ByteArray)]) rfl rfl rfl F_m33 rfl rfl (blk_cells (Wrote.blk k7) 0 (cs := [.string ((⟨#[35]⟩ : ByteArray) ++ itoaB n),.int .i8 0,.int .i64 0,.string (⟨#[]⟩ : ByteArray)]) rfl) ?_)))
  refine ⟨_,rfl,?_,(Keep.then_ (Ext.trans (NewB.ext n3) x4) (Wrote.keep k7) (fun i_ hi_ h_ => by have a_ := NewB.eq n3; have b_ := Keep.size (Ext.refl w); omega))⟩
  rfl
theorem l_isTerm (n : Int) (w : World) (tb : Tabs Tryz.prog w) (hn : 0 ≤ n ∧ n ≤ 1000000) :
    Rt Tryz.prog 81 #[.agg #[.string ((⟨#[35]⟩ : ByteArray) ++ itoaB n),.int .i8 0,.int .i64 0,.string (⟨#[]⟩ : ByteArray)],.int .i64 n] w fun v w' => v = .bool true ∧ Ext w w' := by
  refine enter Tryz.func81 rfl (l := [.agg #[.string ((⟨#[35]⟩ : ByteArray) ++ itoaB n),.int .i8 0,.int .i64 0,.string (⟨#[]⟩ : ByteArray)],.int .i64 n]) rfl Tryz.ntmps81 (Nat.le_of_ble_eq_true rfl) ?_
  refine c_seq (c_reg (s_box (v := .agg #[.string ((⟨#[35]⟩ : ByteArray) ++ itoaB n),.int .i8 0,.int .i64 0,.string (⟨#[]⟩ : ByteArray)]) (cs := #[.string ((⟨#[35]⟩ : ByteArray) ++ itoaB n),.int .i8 0,.int .i64 0,.string (⟨#[]⟩ : ByteArray)]) (w0 rfl) (ej rfl rfl) rfl ?_))
  intro w2 g1 n3
  refine s_assign (v := .bool false) ev_c (w0 rfl) (c_done (n_then (c_seq (c_quiet mixed (by kernel_rfl) (q_val (v := .agg #[.string ((⟨#[35]⟩ : ByteArray) ++ itoaB n),.int .i8 0,.int .i64 0,.string (⟨#[]⟩ : ByteArray)]) (w0 rfl) (fun w_ c_ => r_loadL (cs := [.string ((⟨#[35]⟩ : ByteArray) ++ itoaB n),.int .i8 0,.int .i64 0,.string (⟨#[]⟩ : ByteArray)]) F_m33 (ej rfl rfl) rfl rfl (blk_cells (Ext.blk c_ (NewB.blk n3)) 0 rfl)) (q_val (v := .int .i64 n) (w0 rfl) (fun w_ c_ => r_move (v := .int .i64 n) (ej rfl rfl)) (q_call (v := .string ((⟨#[35]⟩ : ByteArray) ++ itoaB n)) F_e96 (w0 rfl) ev_f (m1 (ej rfl rfl)) (args := #[.int .i64 n]) rfl (fun w_ c_ => Rt.mono (l_word n _ (Tabs.ext tb (Ext.trans (NewB.ext n3) c_)) (by omega)) (fun v_ w2_ h_ => ⟨h_.1,Ext.trans c_ h_.2⟩)) (q_val (v := .agg #[.string ((⟨#[35]⟩ : ByteArray) ++ itoaB n),.int .i8 0,.int .i64 0,.string (⟨#[]⟩ : ByteArray)]) (w0 rfl) (fun w_ c_ => r_build (v := .agg #[.string ((⟨#[35]⟩ : ByteArray) ++ itoaB n),.int .i8 0,.int .i64 0,.string (⟨#[]⟩ : ByteArray)]) (vs := [(0,.string ((⟨#[35]⟩ : ByteArray) ++ itoaB n))]) (b1 (ej rfl rfl)) (bd33_0s ((⟨#[35]⟩ : ByteArray) ++ itoaB n))) (q_val (v := .bool true) (w0 rfl) (fun w_ c_ => r_cmpG (r := true) (ej rfl rfl) (ej rfl rfl) ((fun w_ => eqs33 ((⟨#[35]⟩ : ByteArray) ++ itoaB n) 0 0 (⟨#[]⟩ : ByteArray) _ _ w_))) (q_val (v := .bool true) (w0 rfl) (fun w_ c_ => r_assign (v := .bool true) (ej rfl rfl)) (q_done ?_)))))))))))
  intro w4 x5
  refine n_then (c_ret (ret1 (v := .bool true) rfl rfl rfl ?_))
  refine ⟨_,rfl,?_,(Ext.trans (NewB.ext n3) x5)⟩
  rfl
theorem l_SameTerms (l : List Tm) (A A2 : Option Addr) (c c2 : Nat) (w : World) (hl : l.length * 8 ≤ 140737488351232) (hr : Row RT 4 w A l) (hr2 : Row RT 4 w A2 l) :
    Rt Tryz.prog 80 #[.slice A l.length c,.slice A2 l.length c2] w fun v w' => v = .bool true ∧ Ext w w' := by
  refine enter Tryz.func80 rfl (l := [.slice A l.length c,.slice A2 l.length c2]) rfl Tryz.ntmps80 (Nat.le_of_ble_eq_true rfl) ?_
  refine c_seq (c_reg (s_assign (v := .bool false) ev_c (w0 rfl) (c_done (n_then (c_seq (c_seq (c_reg (s_move (v := .slice A l.length c) (ej rfl rfl) (w0 rfl) (s_lenL F_l22 (ej rfl rfl) (w0 rfl) (s_move (v := .slice A2 l.length c2) (ej rfl rfl) (w0 rfl) (s_lenL F_l22 (ej rfl rfl) (w0 rfl) ?_)))))))))))
  refine s_cmp (r := false) (ej rfl rfl) (ej rfl rfl) (cmpI_selfn _) (w0 rfl) (c_done (n_then (c_cond0 (ej rfl rfl) (c_skip (n_then (c_seq (c_seq (c_reg (s_assign (v := .int .i64 0) ev_c (w0 rfl) (c_done (n_then ?_)))))))))))
  refine c_block (c_loop (α := Nat) (fun (i : Nat) env_ w_ => Ext w w_ ∧ i ≤ l.length ∧ env_ 0 = .slice A l.length c ∧ env_ 1 = .slice A2 l.length c2 ∧ env_ 5 = .int .i64 ((i : Nat) : Int)) (fun i => l.length - i) (0) ⟨Ext.refl _,Nat.zero_le _,rfl,rfl,rfl⟩ ?_)
  rintro i env3 w1 ⟨x2,i4,e5,e6,e7⟩
  refine c_seq (c_seq (c_reg (s_move (v := .int .i64 ((i : Nat) : Int)) (ej rfl e7) (w0 rfl) (s_move (v := .slice A l.length c) (ej rfl e5) (w0 rfl) (s_lenL F_l22 (ej rfl rfl) (w0 rfl) (s_cmp (r := decide (((i : Nat) : Int) < (l.length : Int))) (ej rfl rfl) (ej rfl rfl) rfl (w0 rfl) (c_done (n_then ?_))))))))
  by_cases h8 : ((i : Nat) : Int) < (l.length : Int)
  · refine c_cond1 (vb (ej rfl rfl) (decide_eq_true h8)) (c_skip (n_then (c_seq (c_block (c_seq (c_quiet mixed (by kernel_rfl) (q_val (v := .slice A l.length c) (w0 rfl) (fun w_ c_ => r_move (v := .slice A l.length c) (ej rfl e5)) (q_val (v := .int .i64 ((i : Nat) : Int)) (w0 rfl) (fun w_ c_ => r_move (v := .int .i64 ((i : Nat) : Int)) (ej rfl e7)) ?_))))))))
    obtain ⟨b9,o10,x11,csx11,hA12,hx13,hR14,hc15⟩ := Row.at_ hr i (by omega)
    obtain rfl := tmAt_of hx13
    obtain ⟨rfl,wf16⟩ := hR14
    refine q_val (v := .pointer (some ⟨b9,o10 + i * 4,none⟩)) (w0 rfl) (fun w_ c_ => r_indexR (j := i) F_l22 (ej rfl rfl) hA12 (ej rfl rfl) rfl (by omega)) (q_val (v := .agg #[.string ((tmAt l i).v),.int .i8 ((tmAt l i).l.k),.int .i64 ((tmAt l i).l.n),.string ((tmAt l i).l.s)]) (w0 rfl) (fun w_ c_ => r_loadL (cs := [.string ((tmAt l i).v),.int .i8 ((tmAt l i).l.k),.int .i64 ((tmAt l i).l.n),.string ((tmAt l i).l.s)]) F_m33 (ej rfl rfl) rfl rfl (sub_cells (cells_ext c_ (cells_ext x2 hc15)) 0 rfl)) (q_val (v := .slice A2 l.length c2) (w0 rfl) (fun w_ c_ => r_move (v := .slice A2 l.length c2) (ej rfl e6)) (q_val (v := .int .i64 ((i : Nat) : Int)) (w0 rfl) (fun w_ c_ => r_move (v := .int .i64 ((i : Nat) : Int)) (ej rfl e7)) ?_)))
    obtain ⟨b17,o18,x19,csx19,hA20,hx21,hR22,hc23⟩ := Row.at_ hr2 i (by omega)
    obtain rfl := tmAt_of hx21
    obtain ⟨rfl,wf24⟩ := hR22
    refine q_val (v := .pointer (some ⟨b17,o18 + i * 4,none⟩)) (w0 rfl) (fun w_ c_ => r_indexR (j := i) F_l22 (ej rfl rfl) hA20 (ej rfl rfl) rfl (by omega)) (q_val (v := .agg #[.string ((tmAt l i).v),.int .i8 ((tmAt l i).l.k),.int .i64 ((tmAt l i).l.n),.string ((tmAt l i).l.s)]) (w0 rfl) (fun w_ c_ => r_loadL (cs := [.string ((tmAt l i).v),.int .i8 ((tmAt l i).l.k),.int .i64 ((tmAt l i).l.n),.string ((tmAt l i).l.s)]) F_m33 (ej rfl rfl) rfl rfl (sub_cells (cells_ext c_ (cells_ext x2 hc23)) 0 rfl)) (q_val (v := .bool false) (w0 rfl) (fun w_ c_ => r_cmpG (r := false) (ej rfl rfl) (ej rfl rfl) ((fun w_ => eqn33 ((tmAt l i).v) ((tmAt l i).l.k) ((tmAt l i).l.n) ((tmAt l i).l.s) _ _ w_))) (q_done ?_)))
    intro w25 x26
    refine n_then (c_cond0 (ej rfl rfl) (c_skip (n_block (n_then (c_reg (s_move (v := .int .i64 ((i : Nat) : Int)) (ej rfl e7) (w0 rfl) (s_add (r := ((i + 1 : Nat) : Int)) (ej rfl rfl) ev_c (by omega) (by omega) (w0 rfl) (s_assign (v := .int .i64 ((i + 1 : Nat) : Int)) (ej rfl rfl) (w0 rfl) (c_done ?_)))))))))
    exact ⟨(i + 1),_,rfl,⟨(Ext.trans x2 x26),by omega,e5,e6,rfl⟩,(show l.length - (i + 1) < l.length - i by omega)⟩
  refine c_cond0 (vb (ej rfl rfl) (decide_eq_false h8)) (c_exit (e_then (e_then (e_hit (n_then (c_seq (c_reg (s_assign (v := .bool true) ev_c (w0 rfl) (c_done (n_then (c_ret ?_)))))))))))
  refine ret1 (v := .bool true) rfl rfl rfl ?_
  refine ⟨_,rfl,?_,x2⟩
  rfl
theorem l_TwinTerms (l : List Tm) (A : Option Addr) (c : Nat) (w : World) (hl : l.length * 48 ≤ 140737488351232) (hr : Row RT 4 w A l) (tb : Tabs Tryz.prog w) :
    Rt Tryz.prog 29 #[.slice A l.length c] w fun v w' => ∃ b,v = .slice (some ⟨b,0,none⟩) l.length (l.length + 1) ∧ TwG QT markT 4 w.heap.size w' b l ∧ Ext w w' := by
  refine enter Tryz.func29 rfl (l := [.slice A l.length c]) rfl Tryz.ntmps29 (Nat.le_of_ble_eq_true rfl) ?_
  refine c_seq (c_reg (s_assign (v := .slice none 0 0) ev_c (w0 rfl) (c_done (n_then (c_seq (c_reg (s_move (v := .slice A l.length c) (ej rfl rfl) (w0 rfl) (s_lenL F_l22 (ej rfl rfl) (w0 rfl) (s_add (r := ((l.length + 1 : Nat) : Int)) (ej rfl rfl) ev_c (by omega) (by omega) (w0 rfl) (s_make (k := l.length + 1) F_ul22 F_if33 (ej rfl rfl) (ej rfl rfl) (by omega) (by omega) (w0 rfl) ?_))))))))))
  intro w1 g2 cs3 hs4 n5
  have ge_g2 : w.heap.size ≤ g2 := by have a_ := NewB.eq n5; have b_ := Keep.size (Ext.refl w); omega
  have fl_g2 : Fill (EG QT markT (g2 + 1) l) 4 33 w1 g2 (l.length + 1) 0 := Fill.start n5 hs4
  refine s_assign (v := .slice (some ⟨g2,0,none⟩) (l.length + 1) (l.length + 1)) (ej rfl rfl) (w0 rfl) (c_done (n_then (c_seq (c_seq (c_reg (s_assign (v := .int .i64 0) ev_c (w0 rfl) (c_done (n_then (c_block (c_loop (α := Nat) (fun (i : Nat) env_ w_ => Ext w w_ ∧ i ≤ l.length ∧ Fill (EG QT markT (g2 + 1) l) 4 33 w_ g2 (l.length + 1) i ∧ env_ 0 = .slice A l.length c ∧ env_ 2 = .slice none 0 0 ∧ env_ 3 = .slice (some ⟨g2,0,none⟩) (l.length + 1) (l.length + 1) ∧ env_ 4 = .int .i64 ((i : Nat) : Int)) (fun i => l.length - i) (0) ⟨(NewB.ext n5),Nat.zero_le _,fl_g2,rfl,rfl,rfl,rfl⟩ ?_))))))))))
  rintro i env8 w6 ⟨x7,i9,i10,e11,e12,e13,e14⟩
  refine c_seq (c_seq (c_reg (s_move (v := .int .i64 ((i : Nat) : Int)) (ej rfl e14) (w0 rfl) (s_move (v := .slice A l.length c) (ej rfl e11) (w0 rfl) (s_lenL F_l22 (ej rfl rfl) (w0 rfl) (s_cmp (r := decide (((i : Nat) : Int) < (l.length : Int))) (ej rfl rfl) (ej rfl rfl) rfl (w0 rfl) (c_done (n_then ?_))))))))
  by_cases h15 : ((i : Nat) : Int) < (l.length : Int)
  · refine c_cond1 (vb (ej rfl rfl) (decide_eq_true h15)) (c_skip (n_then (c_seq (c_block (c_reg (s_move (v := .slice (some ⟨g2,0,none⟩) (l.length + 1) (l.length + 1)) (ej rfl e13) (w0 rfl) (s_move (v := .int .i64 ((i : Nat) : Int)) (ej rfl e14) (w0 rfl) (s_move (v := .slice A l.length c) (ej rfl e11) (w0 rfl) (s_move (v := .int .i64 ((i : Nat) : Int)) (ej rfl e14) (w0 rfl) ?_)))))))))
    obtain ⟨b16,o17,x18,csx18,hA19,hx20,hR21,hc22⟩ := Row.at_ hr i (by omega)
    obtain rfl := tmAt_of hx20
    obtain ⟨rfl,wf23⟩ := hR21
    refine s_indexR (j := i) F_l22 (ej rfl rfl) hA19 (ej rfl rfl) rfl (by omega) (w0 rfl) (s_loadL (cs := [.string ((tmAt l i).v),.int .i8 ((tmAt l i).l.k),.int .i64 ((tmAt l i).l.n),.string ((tmAt l i).l.s)]) F_m33 (ej rfl rfl) rfl rfl (sub_cells (cells_ext x7 hc22) 0 rfl) (w0 rfl) (s_indexR (j := i) F_l22 (ej rfl rfl) rfl (ej rfl rfl) rfl (by omega) (w0 rfl) ?_))
    have ee27 : EG QT markT (g2 + 1) l w6 i [.string ((tmAt l i).v),.int .i8 ((tmAt l i).l.k),.int .i64 ((tmAt l i).l.n),.string ((tmAt l i).l.s)] := EG.of (tmAt_there (by omega)) ⟨rfl,wf23⟩
    refine s_storeF (i := i) (l := [.string ((tmAt l i).v),.int .i8 ((tmAt l i).l.k),.int .i64 ((tmAt l i).l.n),.string ((tmAt l i).l.s)]) (Fill.cast i10 (by omega)) (by omega) F_sz33 (ej rfl rfl) (ej rfl rfl) rfl rfl rfl (fun w_ k_ => ⟨fun j_ l_ _ h_ => EG.keep okT h_ k_ (fun i_ q_ => by omega),EG.keep okT ee27 k_ (fun i_ q_ => by omega)⟩) (w0 rfl) ?_
    intro w24 fl25 k26
    refine c_done (n_block (n_then (c_reg (s_move (v := .int .i64 ((i : Nat) : Int)) (ej rfl e14) (w0 rfl) (s_add (r := ((i + 1 : Nat) : Int)) (ej rfl rfl) ev_c (by omega) (by omega) (w0 rfl) (s_assign (v := .int .i64 ((i + 1 : Nat) : Int)) (ej rfl rfl) (w0 rfl) (c_done ?_)))))))
    exact ⟨(i + 1),_,rfl,⟨(Keep.then_ x7 k26 (fun i_ hi_ h_ => by have a_ := ge_g2; omega)),by omega,fl25,e11,e12,e13,rfl⟩,(show l.length - (i + 1) < l.length - i by omega)⟩
  refine c_cond0 (vb (ej rfl rfl) (decide_eq_false h15)) (c_exit (e_then (e_then (e_hit (n_then (c_seq (c_reg (s_move (v := .slice (some ⟨g2,0,none⟩) (l.length + 1) (l.length + 1)) (ej rfl e13) (w0 rfl) (s_move (v := .slice A l.length c) (ej rfl e11) (w0 rfl) (s_lenL F_l22 (ej rfl rfl) (w0 rfl) (s_call F_e58 (w0 rfl) ev_f (m1 ev_c) (args := #[.int .i64 777777]) rfl (l_markTerm 777777 _ (Tabs.ext tb x7) (by omega)) ?_)))))))))))
  rintro _ w29 ⟨rfl,x28⟩
  refine s_indexR (j := l.length) F_l22 (ej rfl rfl) rfl (ej rfl rfl) rfl (by omega) (w0 rfl) ?_
  have ee33 : EG QT markT (g2 + 1) l w29 l.length [.string ((⟨#[35]⟩ : ByteArray) ++ itoaB 777777),.int .i8 0,.int .i64 0,.string (⟨#[]⟩ : ByteArray)] := EG.mark
  refine s_storeF (i := l.length) (l := [.string ((⟨#[35]⟩ : ByteArray) ++ itoaB 777777),.int .i8 0,.int .i64 0,.string (⟨#[]⟩ : ByteArray)]) (Fill.cast (Fill.ext i10 x28 (fun j_ l_ h_ => EG.keep okT h_ x28 (fun _ h_ => h_.elim))) (by omega)) (by omega) F_sz33 (ej rfl rfl) (ej rfl rfl) rfl rfl rfl (fun w_ k_ => ⟨fun j_ l_ _ h_ => EG.keep okT h_ k_ (fun i_ q_ => by omega),EG.keep okT ee33 k_ (fun i_ q_ => by omega)⟩) (w0 rfl) ?_
  intro w30 fl31 k32
  refine c_done (n_then (c_seq (c_reg (s_move (v := .slice (some ⟨g2,0,none⟩) (l.length + 1) (l.length + 1)) (ej rfl e13) (w0 rfl) (s_move (v := .slice A l.length c) (ej rfl e11) (w0 rfl) (s_lenL F_l22 (ej rfl rfl) (w0 rfl) (s_sliceH (h := l.length) F_uE22 F_iE22 (ej rfl rfl) (ej rfl rfl) (by omega) (w0 rfl) (s_assign (v := .slice (some ⟨g2,0,none⟩) l.length (l.length + 1)) (ej rfl rfl) (w0 rfl) (c_done (n_then (c_ret ?_)))))))))))
  refine ret1 (v := .slice (some ⟨g2,0,none⟩) l.length (l.length + 1)) rfl rfl rfl ?_
  exact ⟨_,rfl,g2,rfl,TwG.of_fill okT (Fill.cast fl31 (by omega)) (by omega) (by omega),(Keep.then_ (Ext.trans x7 x28) k32 (fun i_ hi_ h_ => by have a_ := ge_g2; omega))⟩
theorem l_LeftTerms (l : List Tm) (A : Option Addr) (c b lo : Nat) (w : World) (hl : l.length * 48 ≤ 140737488351232) (tw : TwG QT markT 4 lo w b l) (hr : Row RT 4 w A l) (tb : Tabs Tryz.prog w) :
    Rt Tryz.prog 41 #[.slice (some ⟨b,0,none⟩) l.length (l.length + 1),.slice A l.length c] w fun v w' => v = .bool true ∧ Ext w w' := by
  refine enter Tryz.func41 rfl (l := [.slice (some ⟨b,0,none⟩) l.length (l.length + 1),.slice A l.length c]) rfl Tryz.ntmps41 (Nat.le_of_ble_eq_true rfl) ?_
  refine c_seq (c_reg (s_assign (v := .bool false) ev_c (w0 rfl) (c_done (n_then (c_seq (c_reg (s_move (v := .slice (some ⟨b,0,none⟩) l.length (l.length + 1)) (ej rfl rfl) (w0 rfl) (s_move (v := .slice A l.length c) (ej rfl rfl) (w0 rfl) (s_call F_e80 (w0 rfl) ev_f (m2 (ej rfl rfl) (ej rfl rfl)) (args := #[.slice (some ⟨b,0,none⟩) l.length (l.length + 1),.slice A l.length c]) rfl (l_SameTerms l (some ⟨b,0,none⟩) A (l.length + 1) c _ (by omega) (TwG.rowsT tw) hr) ?_)))))))))
  rintro _ w2 ⟨rfl,x1⟩
  refine s_move (v := .bool true) (ej rfl rfl) (w0 rfl) (s_move (v := .slice (some ⟨b,0,none⟩) l.length (l.length + 1)) (ej rfl rfl) (wy rfl rfl rfl rfl) (s_move (v := .slice A l.length c) (ej rfl rfl) (wy rfl rfl rfl rfl) (s_lenL F_l22 (ej rfl rfl) (wy rfl rfl rfl rfl) (s_add (r := ((l.length + 1 : Nat) : Int)) (ej rfl rfl) ev_c (by omega) (by omega) (wy rfl rfl rfl rfl) (s_sliceH (h := l.length + 1) F_uE22 F_iE22 (ej rfl rfl) (ej rfl rfl) (by omega) (wy rfl rfl rfl rfl) (s_move (v := .slice A l.length c) (ej rfl rfl) (wy rfl rfl rfl rfl) (s_lenL F_l22 (ej rfl rfl) (wy rfl rfl rfl rfl) (s_indexR (j := l.length) F_l22 (ej rfl rfl) rfl (ej rfl rfl) rfl (by omega) (wy rfl rfl rfl rfl) (s_loadL (cs := [.string ((⟨#[35]⟩ : ByteArray) ++ itoaB 777777),.int .i8 0,.int .i64 0,.string (⟨#[]⟩ : ByteArray)]) F_m33 (ej rfl rfl) rfl rfl (sub_cells (cells_ext x1 (TwG.mark tw)) 0 rfl) (wy rfl rfl rfl rfl) (s_call F_e81 (wy rfl rfl rfl rfl) ev_f (m2 (ej rfl rfl) ev_c) (args := #[.agg #[.string ((⟨#[35]⟩ : ByteArray) ++ itoaB 777777),.int .i8 0,.int .i64 0,.string (⟨#[]⟩ : ByteArray)],.int .i64 777777]) rfl (l_isTerm 777777 _ (Tabs.ext tb x1) (by omega)) ?_))))))))))
  rintro _ w4 ⟨rfl,x3⟩
  refine s_pick1 (v := .bool true) (ej rfl rfl) (ej rfl rfl) (w0 rfl) (s_assign (v := .bool true) (ej rfl rfl) (w0 rfl) (c_done (n_then (c_ret (ret1 (v := .bool true) rfl rfl rfl ?_)))))
  refine ⟨_,rfl,?_,(Ext.trans x1 x3)⟩
  rfl
theorem l_TwinAtom (x : At) (A : Option Addr) (c : Nat) (w : World) (ho : x.okc c) (hr : Row RT 4 w A x.args) (tb : Tabs Tryz.prog w) :
    Rt Tryz.prog 7 #[.agg #[.string x.p,.slice A x.args.length c]] w fun v w' => ∃ b,v = .agg #[.string x.p,.slice (some ⟨b,0,none⟩) x.args.length (x.args.length + 1)] ∧ TwG QT markT 4 w.heap.size w' b x.args ∧ Ext w w' := by
  refine enter Tryz.func7 rfl (l := [.agg #[.string x.p,.slice A x.args.length c]]) rfl Tryz.ntmps7 (Nat.le_of_ble_eq_true rfl) ?_
  have hl_ := At.okc.l ho
  have hc_ := At.okc.c ho
  have hp_ := At.okc.p ho
  refine c_seq (c_reg (s_box (v := .agg #[.string x.p,.slice A x.args.length c]) (cs := #[.string x.p,.slice A x.args.length c]) (w0 rfl) (ej rfl rfl) rfl ?_))
  intro w2 g1 n3
  refine s_alloc (cs := #[.string (⟨#[]⟩ : ByteArray),.slice none 0 0]) (w0 rfl) F_z24 rfl ?_
  intro w5 g4 n6
  refine c_done (n_then (c_seq (c_reg (s_field (off := 1) (o' := 1) F_f24_1 (ej rfl rfl) rfl (w0 rfl) (s_load (v := .slice A x.args.length c) F_o22 (ej rfl rfl) (cell_of_blk (i := 1) (Ext.blk (NewB.ext n6) (NewB.blk n3)) rfl) (w0 rfl) (s_call F_e29 (w0 rfl) ev_f (m1 (ej rfl rfl)) (args := #[.slice A x.args.length c]) rfl (l_TwinTerms x.args A c _ (by omega) (Row.extT (Row.extT hr (NewB.ext n3)) (NewB.ext n6)) (Tabs.ext tb (Ext.trans (NewB.ext n3) (NewB.ext n6)))) ?_))))))
  rintro _ w8 ⟨b7,rfl,tw9,x10⟩
  refine s_field (off := 1) (o' := 1) F_f24_1 (ej rfl rfl) rfl (w0 rfl) (s_store (cs' := #[.string x.p,.slice (some ⟨b7,0,none⟩) x.args.length (x.args.length + 1)]) F_sz22 (ej rfl rfl) (ej rfl rfl) (l := [.slice (some ⟨b7,0,none⟩) x.args.length (x.args.length + 1)]) rfl rfl rfl (Ext.blk x10 (Ext.blk (NewB.ext n6) (NewB.blk n3))) (Nat.le_of_ble_eq_true rfl) rfl (w0 rfl) ?_)
  intro w11 k12
  refine c_done (n_then (c_seq (c_reg (s_loadL (cs := [.string x.p,.slice (some ⟨b7,0,none⟩) x.args.length (x.args.length + 1)]) F_m24 (ej rfl rfl) rfl rfl (blk_cells (Wrote.blk k12) 0 rfl) (w0 rfl) (s_store (cs' := #[.string x.p,.slice (some ⟨b7,0,none⟩) x.args.length (x.args.length + 1)]) F_sz24 (ej rfl rfl) (ej rfl rfl) (l := [.string x.p,.slice (some ⟨b7,0,none⟩) x.args.length (x.args.length + 1)]) rfl rfl rfl (Keep.blk (Wrote.keep k12) (Ext.blk x10 (NewB.blk n6)) (by have a_ := NewB.eq n6; have b_ := lt_of_blk (NewB.blk n3); omega)) (Nat.le_of_ble_eq_true rfl) rfl (w0 rfl) ?_)))))
  intro w13 k14
  refine c_done (n_then (c_ret (retC (cs := [.string x.p,.slice (some ⟨b7,0,none⟩) x.args.length (x.args.length + 1)]) (ca := #[.string x.p,.slice (some ⟨b7,0,none⟩) x.args.length (x.args.length + 1)]) rfl rfl rfl F_m24 rfl rfl (blk_cells (Wrote.blk k14) 0 (cs := [.string x.p,.slice (some ⟨b7,0,none⟩) x.args.length (x.args.length + 1)]) rfl) ?_)))
  exact ⟨_,rfl,b7,rfl,TwG.mono okT (TwG.keep okT (TwG.keep okT tw9 (Wrote.keep k12) (fun i_ h_ => by have a_ := NewB.eq n3; have b_ := NewB.size n3; have c_ := (Keep.size (NewB.ext n6)); omega)) (Wrote.keep k14) (fun i_ h_ => by have a_ := NewB.eq n6; have b_ := NewB.size n6; have c_ := (Nat.le_refl 0); omega)) (Keep.size (Ext.trans (NewB.ext n3) (NewB.ext n6))),(Keep.then_ (Keep.then_ (Ext.trans (Ext.trans (NewB.ext n3) (NewB.ext n6)) x10) (Wrote.keep k12) (fun i_ hi_ h_ => by have a_ := NewB.eq n3; have b_ := Keep.size (Ext.refl w); omega)) (Wrote.keep k14) (fun i_ hi_ h_ => by have a_ := NewB.eq n6; have b_ := Keep.size (NewB.ext n3); omega))⟩
theorem l_LeftAtom (x : At) (A : Option Addr) (c : Nat) (b lo : Nat) (w : World) (ho : x.okc c) (hr : Row RT 4 w A x.args) (tw : TwG QT markT 4 lo w b x.args) (tb : Tabs Tryz.prog w) :
    Rt Tryz.prog 15 #[.agg #[.string x.p,.slice (some ⟨b,0,none⟩) x.args.length (x.args.length + 1)],.agg #[.string x.p,.slice A x.args.length c]] w fun v w' => v = .bool true ∧ Ext w w' := by
  refine enter Tryz.func15 rfl (l := [.agg #[.string x.p,.slice (some ⟨b,0,none⟩) x.args.length (x.args.length + 1)],.agg #[.string x.p,.slice A x.args.length c]]) rfl Tryz.ntmps15 (Nat.le_of_ble_eq_true rfl) ?_
  have hl_ := At.okc.l ho
  have hc_ := At.okc.c ho
  have hp_ := At.okc.p ho
  refine c_seq (c_reg (s_box (v := .agg #[.string x.p,.slice (some ⟨b,0,none⟩) x.args.length (x.args.length + 1)]) (cs := #[.string x.p,.slice (some ⟨b,0,none⟩) x.args.length (x.args.length + 1)]) (w0 rfl) (ej rfl rfl) rfl ?_))
  intro w2 g1 n3
  refine s_box (v := .agg #[.string x.p,.slice A x.args.length c]) (cs := #[.string x.p,.slice A x.args.length c]) (w0 rfl) (ej rfl rfl) rfl ?_
  intro w5 g4 n6
  refine s_assign (v := .bool false) ev_c (w0 rfl) (c_done (n_then (c_seq (c_reg (s_field (off := 0) (o' := 0) F_f24_0 (ej rfl rfl) rfl (w0 rfl) (s_load (v := .string x.p) F_o9 (ej rfl rfl) (cell_of_blk (i := 0) (Ext.blk (NewB.ext n6) (NewB.blk n3)) rfl) (w0 rfl) (s_field (off := 0) (o' := 0) F_f24_0 (ej rfl rfl) rfl (w0 rfl) (s_load (v := .string x.p) F_o9 (ej rfl rfl) (cell_of_blk (i := 0) (NewB.blk n6) rfl) (w0 rfl) (s_cmpS (r := true) (ej rfl rfl) (ej rfl rfl) (cmpS_self _) (w0 rfl) (s_move (v := .bool true) (ej rfl rfl) (w0 rfl) (s_field (off := 1) (o' := 1) F_f24_1 (ej rfl rfl) rfl (wy rfl rfl rfl rfl) ?_)))))))))))
  refine s_load (v := .slice (some ⟨b,0,none⟩) x.args.length (x.args.length + 1)) F_o22 (ej rfl rfl) (cell_of_blk (i := 1) (Ext.blk (NewB.ext n6) (NewB.blk n3)) rfl) (wy rfl rfl rfl rfl) (s_field (off := 1) (o' := 1) F_f24_1 (ej rfl rfl) rfl (wy rfl rfl rfl rfl) (s_load (v := .slice A x.args.length c) F_o22 (ej rfl rfl) (cell_of_blk (i := 1) (NewB.blk n6) rfl) (wy rfl rfl rfl rfl) (s_call F_e41 (wy rfl rfl rfl rfl) ev_f (m2 (ej rfl rfl) (ej rfl rfl)) (args := #[.slice (some ⟨b,0,none⟩) x.args.length (x.args.length + 1),.slice A x.args.length c]) rfl (l_LeftTerms x.args A c b _ _ (by omega) (TwG.ext okT (TwG.ext okT tw (NewB.ext n3)) (NewB.ext n6)) (Row.extT (Row.extT hr (NewB.ext n3)) (NewB.ext n6)) (Tabs.ext tb (Ext.trans (NewB.ext n3) (NewB.ext n6)))) ?_)))
  rintro _ w8 ⟨rfl,x7⟩
  refine s_pick1 (v := .bool true) (ej rfl rfl) (ej rfl rfl) (w0 rfl) (s_assign (v := .bool true) (ej rfl rfl) (w0 rfl) (c_done (n_then (c_ret (ret1 (v := .bool true) rfl rfl rfl ?_)))))
  refine ⟨_,rfl,?_,(Ext.trans (Ext.trans (NewB.ext n3) (NewB.ext n6)) x7)⟩
  rfl
theorem l_TwinLiteral (x : Lt) (Aa A1 A2 : Option Addr) (ca c1 c2 : Nat) (w : World) (ho : x.okc ca c1 c2) (hra : Row RT 4 w Aa x.a.args) (hr1 : Row RE 6 w A1 x.e1.kids) (hr2 : Row RE 6 w A2 x.e2.kids) (tb : Tabs Tryz.prog w) :
    Rt Tryz.prog 8 #[.agg #[.int .i8 x.k,.string x.a.p,.slice Aa x.a.args.length ca,.int .i8 x.r,.int .i8 x.e1.op,.string x.e1.t.v,.int .i8 x.e1.t.l.k,.int .i64 x.e1.t.l.n,.string x.e1.t.l.s,.slice A1 x.e1.kids.length c1,.int .i8 x.e2.op,.string x.e2.t.v,.int .i8 x.e2.t.l.k,.int .i64 x.e2.t.l.n,.string x.e2.t.l.s,.slice A2 x.e2.kids.length c2]] w fun v w' => ∃ ba b1 b2,v = .agg #[.int .i8 x.k,.string x.a.p,.slice (some ⟨ba,0,none⟩) x.a.args.length (x.a.args.length + 1),.int .i8 x.r,.int .i8 x.e1.op,.string x.e1.t.v,.int .i8 x.e1.t.l.k,.int .i64 x.e1.t.l.n,.string x.e1.t.l.s,.slice (some ⟨b1,0,none⟩) x.e1.kids.length (x.e1.kids.length + 1),.int .i8 x.e2.op,.string x.e2.t.v,.int .i8 x.e2.t.l.k,.int .i64 x.e2.t.l.n,.string x.e2.t.l.s,.slice (some ⟨b2,0,none⟩) x.e2.kids.length (x.e2.kids.length + 1)] ∧ TwG QT markT 4 w.heap.size w' ba x.a.args ∧ TwE w.heap.size w' b1 x.e1.kids ∧ TwE w.heap.size w' b2 x.e2.kids ∧ Ext w w' := by
  refine enter Tryz.func8 rfl (l := [.agg #[.int .i8 x.k,.string x.a.p,.slice Aa x.a.args.length ca,.int .i8 x.r,.int .i8 x.e1.op,.string x.e1.t.v,.int .i8 x.e1.t.l.k,.int .i64 x.e1.t.l.n,.string x.e1.t.l.s,.slice A1 x.e1.kids.length c1,.int .i8 x.e2.op,.string x.e2.t.v,.int .i8 x.e2.t.l.k,.int .i64 x.e2.t.l.n,.string x.e2.t.l.s,.slice A2 x.e2.kids.length c2]]) rfl Tryz.ntmps8 (Nat.le_of_ble_eq_true rfl) ?_
  have hoa_ := Lt.okc.a ho
  have ho1_ := Lt.okc.e1 ho
  have ho2_ := Lt.okc.e2 ho
  have hl1_ := Ex.okc.l ho1_
  have hl2_ := Ex.okc.l ho2_
  have hc1_ := Ex.okc.c ho1_
  have hc2_ := Ex.okc.c ho2_
  have hla_ := At.okc.l hoa_
  have hca_ := At.okc.c hoa_
  have hpa_ := At.okc.p hoa_
  refine c_seq (c_reg (s_box (v := .agg #[.int .i8 x.k,.string x.a.p,.slice Aa x.a.args.length ca,.int .i8 x.r,.int .i8 x.e1.op,.string x.e1.t.v,.int .i8 x.e1.t.l.k,.int .i64 x.e1.t.l.n,.string x.e1.t.l.s,.slice A1 x.e1.kids.length c1,.int .i8 x.e2.op,.string x.e2.t.v,.int .i8 x.e2.t.l.k,.int .i64 x.e2.t.l.n,.string x.e2.t.l.s,.slice A2 x.e2.kids.length c2]) (cs := #[.int .i8 x.k,.string x.a.p,.slice Aa x.a.args.length ca,.int .i8 x.r,.int .i8 x.e1.op,.string x.e1.t.v,.int .i8 x.e1.t.l.k,.int .i64 x.e1.t.l.n,.string x.e1.t.l.s,.slice A1 x.e1.kids.length c1,.int .i8 x.e2.op,.string x.e2.t.v,.int .i8 x.e2.t.l.k,.int .i64 x.e2.t.l.n,.string x.e2.t.l.s,.slice A2 x.e2.kids.length c2]) (w0 rfl) (ej rfl rfl) rfl ?_))
  intro w2 g1 n3
  refine s_alloc (cs := #[.int .i8 0,.string (⟨#[]⟩ : ByteArray),.slice none 0 0,.int .i8 0,.int .i8 0,.string (⟨#[]⟩ : ByteArray),.int .i8 0,.int .i64 0,.string (⟨#[]⟩ : ByteArray),.slice none 0 0,.int .i8 0,.string (⟨#[]⟩ : ByteArray),.int .i8 0,.int .i64 0,.string (⟨#[]⟩ : ByteArray),.slice none 0 0]) (w0 rfl) F_z38 rfl ?_
  intro w5 g4 n6
  refine c_done (n_then (c_seq (c_reg (s_field (off := 1) (o' := 1) F_f38_1 (ej rfl rfl) rfl (w0 rfl) (s_loadL (cs := [.string x.a.p,.slice Aa x.a.args.length ca]) F_m24 (ej rfl rfl) rfl rfl (blk_cells (Ext.blk (NewB.ext n6) (NewB.blk n3)) 1 rfl) (w0 rfl) (s_call F_e7 (w0 rfl) ev_f (m1 (ej rfl rfl)) (args := #[.agg #[.string x.a.p,.slice Aa x.a.args.length ca]]) rfl (l_TwinAtom x.a Aa ca _ hoa_ (Row.extT (Row.extT hra (NewB.ext n3)) (NewB.ext n6)) (Tabs.ext tb (Ext.trans (NewB.ext n3) (NewB.ext n6)))) ?_))))))
  rintro _ w8 ⟨b7,rfl,tw9,x10⟩
  have okt11 : (x.a).okc (x.a.args.length + 1) := ⟨At.okc.p hoa_,Nat.le_succ _,At.okc.c hoa_⟩
  refine s_field (off := 1) (o' := 1) F_f38_1 (ej rfl rfl) rfl (w0 rfl) (s_store (cs' := #[.int .i8 x.k,.string x.a.p,.slice (some ⟨b7,0,none⟩) x.a.args.length (x.a.args.length + 1),.int .i8 x.r,.int .i8 x.e1.op,.string x.e1.t.v,.int .i8 x.e1.t.l.k,.int .i64 x.e1.t.l.n,.string x.e1.t.l.s,.slice A1 x.e1.kids.length c1,.int .i8 x.e2.op,.string x.e2.t.v,.int .i8 x.e2.t.l.k,.int .i64 x.e2.t.l.n,.string x.e2.t.l.s,.slice A2 x.e2.kids.length c2]) F_sz24 (ej rfl rfl) (ej rfl rfl) (l := [.string x.a.p,.slice (some ⟨b7,0,none⟩) x.a.args.length (x.a.args.length + 1)]) rfl rfl rfl (Ext.blk x10 (Ext.blk (NewB.ext n6) (NewB.blk n3))) (Nat.le_of_ble_eq_true rfl) rfl (w0 rfl) ?_)
  intro w12 k13
  refine c_done (n_then (c_seq (c_reg (s_field (off := 4) (o' := 4) F_f38_3 (ej rfl rfl) rfl (w0 rfl) (s_loadL (cs := [.int .i8 x.e1.op,.string x.e1.t.v,.int .i8 x.e1.t.l.k,.int .i64 x.e1.t.l.n,.string x.e1.t.l.s,.slice A1 x.e1.kids.length c1]) F_m36 (ej rfl rfl) rfl rfl (blk_cells (Wrote.blk k13) 4 rfl) (w0 rfl) (s_call F_e30 (w0 rfl) ev_f (m1 (ej rfl rfl)) (args := #[.agg #[.int .i8 x.e1.op,.string x.e1.t.v,.int .i8 x.e1.t.l.k,.int .i64 x.e1.t.l.n,.string x.e1.t.l.s,.slice A1 x.e1.kids.length c1]]) rfl (l_TwinExpr (SizeOf.sizeOf x.e1 + 1) x.e1 (Nat.lt_succ_self _) A1 c1 _ ho1_ (Row.extE hr1 (Keep.then_ (Ext.trans (Ext.trans (NewB.ext n3) (NewB.ext n6)) x10) (Wrote.keep k13) (fun i_ hi_ h_ => by have a_ := NewB.eq n3; have b_ := Keep.size (Ext.refl w); omega))) (Tabs.ext tb (Keep.then_ (Ext.trans (Ext.trans (NewB.ext n3) (NewB.ext n6)) x10) (Wrote.keep k13) (fun i_ hi_ h_ => by have a_ := NewB.eq n3; have b_ := Keep.size (Ext.refl w); omega)))) ?_))))))
  rintro _ w15 ⟨b14,rfl,tw16,x17⟩
  refine s_field (off := 4) (o' := 4) F_f38_3 (ej rfl rfl) rfl (w0 rfl) (s_store (cs' := #[.int .i8 x.k,.string x.a.p,.slice (some ⟨b7,0,none⟩) x.a.args.length (x.a.args.length + 1),.int .i8 x.r,.int .i8 x.e1.op,.string x.e1.t.v,.int .i8 x.e1.t.l.k,.int .i64 x.e1.t.l.n,.string x.e1.t.l.s,.slice (some ⟨b14,0,none⟩) x.e1.kids.length (x.e1.kids.length + 1),.int .i8 x.e2.op,.string x.e2.t.v,.int .i8 x.e2.t.l.k,.int .i64 x.e2.t.l.n,.string x.e2.t.l.s,.slice A2 x.e2.kids.length c2]) F_sz36 (ej rfl rfl) (ej rfl rfl) (l := [.int .i8 x.e1.op,.string x.e1.t.v,.int .i8 x.e1.t.l.k,.int .i64 x.e1.t.l.n,.string x.e1.t.l.s,.slice (some ⟨b14,0,none⟩) x.e1.kids.length (x.e1.kids.length + 1)]) rfl rfl rfl (Ext.blk x17 (Wrote.blk k13)) (Nat.le_of_ble_eq_true rfl) rfl (w0 rfl) ?_)
  intro w18 k19
  refine c_done (n_then (c_seq (c_reg (s_field (off := 10) (o' := 10) F_f38_4 (ej rfl rfl) rfl (w0 rfl) (s_loadL (cs := [.int .i8 x.e2.op,.string x.e2.t.v,.int .i8 x.e2.t.l.k,.int .i64 x.e2.t.l.n,.string x.e2.t.l.s,.slice A2 x.e2.kids.length c2]) F_m36 (ej rfl rfl) rfl rfl (blk_cells (Wrote.blk k19) 10 rfl) (w0 rfl) (s_call F_e30 (w0 rfl) ev_f (m1 (ej rfl rfl)) (args := #[.agg #[.int .i8 x.e2.op,.string x.e2.t.v,.int .i8 x.e2.t.l.k,.int .i64 x.e2.t.l.n,.string x.e2.t.l.s,.slice A2 x.e2.kids.length c2]]) rfl (l_TwinExpr (SizeOf.sizeOf x.e2 + 1) x.e2 (Nat.lt_succ_self _) A2 c2 _ ho2_ (Row.extE hr2 (Keep.then_ (Ext.trans (Keep.then_ (Ext.trans (Ext.trans (NewB.ext n3) (NewB.ext n6)) x10) (Wrote.keep k13) (fun i_ hi_ h_ => by have a_ := NewB.eq n3; have b_ := Keep.size (Ext.refl w); omega)) x17) (Wrote.keep k19) (fun i_ hi_ h_ => by have a_ := NewB.eq n3; have b_ := Keep.size (Ext.refl w); omega))) (Tabs.ext tb (Keep.then_ (Ext.trans (Keep.then_ (Ext.trans (Ext.trans (NewB.ext n3) (NewB.ext n6)) x10) (Wrote.keep k13) (fun i_ hi_ h_ => by have a_ := NewB.eq n3; have b_ := Keep.size (Ext.refl w); omega)) x17) (Wrote.keep k19) (fun i_ hi_ h_ => by have a_ := NewB.eq n3; have b_ := Keep.size (Ext.refl w); omega)))) ?_))))))
  rintro _ w21 ⟨b20,rfl,tw22,x23⟩
  refine s_field (off := 10) (o' := 10) F_f38_4 (ej rfl rfl) rfl (w0 rfl) (s_store (cs' := #[.int .i8 x.k,.string x.a.p,.slice (some ⟨b7,0,none⟩) x.a.args.length (x.a.args.length + 1),.int .i8 x.r,.int .i8 x.e1.op,.string x.e1.t.v,.int .i8 x.e1.t.l.k,.int .i64 x.e1.t.l.n,.string x.e1.t.l.s,.slice (some ⟨b14,0,none⟩) x.e1.kids.length (x.e1.kids.length + 1),.int .i8 x.e2.op,.string x.e2.t.v,.int .i8 x.e2.t.l.k,.int .i64 x.e2.t.l.n,.string x.e2.t.l.s,.slice (some ⟨b20,0,none⟩) x.e2.kids.length (x.e2.kids.length + 1)]) F_sz36 (ej rfl rfl) (ej rfl rfl) (l := [.int .i8 x.e2.op,.string x.e2.t.v,.int .i8 x.e2.t.l.k,.int .i64 x.e2.t.l.n,.string x.e2.t.l.s,.slice (some ⟨b20,0,none⟩) x.e2.kids.length (x.e2.kids.length + 1)]) rfl rfl rfl (Ext.blk x23 (Wrote.blk k19)) (Nat.le_of_ble_eq_true rfl) rfl (w0 rfl) ?_)
  intro w24 k25
  refine c_done (n_then (c_seq (c_reg (s_loadL (cs := [.int .i8 x.k,.string x.a.p,.slice (some ⟨b7,0,none⟩) x.a.args.length (x.a.args.length + 1),.int .i8 x.r,.int .i8 x.e1.op,.string x.e1.t.v,.int .i8 x.e1.t.l.k,.int .i64 x.e1.t.l.n,.string x.e1.t.l.s,.slice (some ⟨b14,0,none⟩) x.e1.kids.length (x.e1.kids.length + 1),.int .i8 x.e2.op,.string x.e2.t.v,.int .i8 x.e2.t.l.k,.int .i64 x.e2.t.l.n,.string x.e2.t.l.s,.slice (some ⟨b20,0,none⟩) x.e2.kids.length (x.e2.kids.length + 1)]) F_m38 (ej rfl rfl) rfl rfl (blk_cells (Wrote.blk k25) 0 rfl) (w0 rfl) (s_store (cs' := #[.int .i8 x.k,.string x.a.p,.slice (some ⟨b7,0,none⟩) x.a.args.length (x.a.args.length + 1),.int .i8 x.r,.int .i8 x.e1.op,.string x.e1.t.v,.int .i8 x.e1.t.l.k,.int .i64 x.e1.t.l.n,.string x.e1.t.l.s,.slice (some ⟨b14,0,none⟩) x.e1.kids.length (x.e1.kids.length + 1),.int .i8 x.e2.op,.string x.e2.t.v,.int .i8 x.e2.t.l.k,.int .i64 x.e2.t.l.n,.string x.e2.t.l.s,.slice (some ⟨b20,0,none⟩) x.e2.kids.length (x.e2.kids.length + 1)]) F_sz38 (ej rfl rfl) (ej rfl rfl) (l := [.int .i8 x.k,.string x.a.p,.slice (some ⟨b7,0,none⟩) x.a.args.length (x.a.args.length + 1),.int .i8 x.r,.int .i8 x.e1.op,.string x.e1.t.v,.int .i8 x.e1.t.l.k,.int .i64 x.e1.t.l.n,.string x.e1.t.l.s,.slice (some ⟨b14,0,none⟩) x.e1.kids.length (x.e1.kids.length + 1),.int .i8 x.e2.op,.string x.e2.t.v,.int .i8 x.e2.t.l.k,.int .i64 x.e2.t.l.n,.string x.e2.t.l.s,.slice (some ⟨b20,0,none⟩) x.e2.kids.length (x.e2.kids.length + 1)]) rfl rfl rfl (Keep.blk (Wrote.keep k25) (Ext.blk x23 (Keep.blk (Wrote.keep k19) (Ext.blk x17 (Keep.blk (Wrote.keep k13) (Ext.blk x10 (NewB.blk n6)) (by have a_ := NewB.eq n6; have b_ := lt_of_blk (NewB.blk n3); omega))) (by have a_ := NewB.eq n6; have b_ := lt_of_blk (NewB.blk n3); omega))) (by have a_ := NewB.eq n6; have b_ := lt_of_blk (NewB.blk n3); omega)) (Nat.le_of_ble_eq_true rfl) rfl (w0 rfl) ?_)))))
  intro w26 k27
  refine c_done (n_then (c_ret (retC (cs := [.int .i8 x.k,.string x.a.p,.slice (some ⟨b7,0,none⟩) x.a.args.length (x.a.args.length + 1),.int .i8 x.r,.int .i8 x.e1.op,.string x.e1.t.v,.int .i8 x.e1.t.l.k,.int .i64 x.e1.t.l.n,.string x.e1.t.l.s,.slice (some ⟨b14,0,none⟩) x.e1.kids.length (x.e1.kids.length + 1),.int .i8 x.e2.op,.string x.e2.t.v,.int .i8 x.e2.t.l.k,.int .i64 x.e2.t.l.n,.string x.e2.t.l.s,.slice (some ⟨b20,0,none⟩) x.e2.kids.length (x.e2.kids.length + 1)]) (ca := #[.int .i8 x.k,.string x.a.p,.slice (some ⟨b7,0,none⟩) x.a.args.length (x.a.args.length + 1),.int .i8 x.r,.int .i8 x.e1.op,.string x.e1.t.v,.int .i8 x.e1.t.l.k,.int .i64 x.e1.t.l.n,.string x.e1.t.l.s,.slice (some ⟨b14,0,none⟩) x.e1.kids.length (x.e1.kids.length + 1),.int .i8 x.e2.op,.string x.e2.t.v,.int .i8 x.e2.t.l.k,.int .i64 x.e2.t.l.n,.string x.e2.t.l.s,.slice (some ⟨b20,0,none⟩) x.e2.kids.length (x.e2.kids.length + 1)]) rfl rfl rfl F_m38 rfl rfl (blk_cells (Wrote.blk k27) 0 (cs := [.int .i8 x.k,.string x.a.p,.slice (some ⟨b7,0,none⟩) x.a.args.length (x.a.args.length + 1),.int .i8 x.r,.int .i8 x.e1.op,.string x.e1.t.v,.int .i8 x.e1.t.l.k,.int .i64 x.e1.t.l.n,.string x.e1.t.l.s,.slice (some ⟨b14,0,none⟩) x.e1.kids.length (x.e1.kids.length + 1),.int .i8 x.e2.op,.string x.e2.t.v,.int .i8 x.e2.t.l.k,.int .i64 x.e2.t.l.n,.string x.e2.t.l.s,.slice (some ⟨b20,0,none⟩) x.e2.kids.length (x.e2.kids.length + 1)]) rfl) ?_)))
  exact ⟨_,rfl,b7,b14,b20,rfl,TwG.mono okT (TwG.keep okT (TwG.keep okT (TwG.ext okT (TwG.keep okT (TwG.ext okT (TwG.keep okT tw9 (Wrote.keep k13) (fun i_ h_ => by have a_ := NewB.eq n3; have b_ := NewB.size n3; have c_ := (Keep.size (NewB.ext n6)); omega)) x17) (Wrote.keep k19) (fun i_ h_ => by have a_ := NewB.eq n3; have b_ := NewB.size n3; have c_ := (Keep.size (NewB.ext n6)); omega)) x23) (Wrote.keep k25) (fun i_ h_ => by have a_ := NewB.eq n3; have b_ := NewB.size n3; have c_ := (Keep.size (NewB.ext n6)); omega)) (Wrote.keep k27) (fun i_ h_ => by have a_ := NewB.eq n6; have b_ := NewB.size n6; have c_ := (Nat.le_refl 0); omega)) (Keep.size (Ext.trans (NewB.ext n3) (NewB.ext n6))),TwE.mono (TwE.keep (TwE.keep (TwE.ext (TwE.keep tw16 (Wrote.keep k19) (fun i_ h_ => by have a_ := NewB.eq n3; have b_ := NewB.size n3; have c_ := (Nat.le_trans (Nat.le_trans (Keep.size (NewB.ext n6)) (Keep.size x10)) (Keep.size (Wrote.keep k13))); omega)) x23) (Wrote.keep k25) (fun i_ h_ => by have a_ := NewB.eq n3; have b_ := NewB.size n3; have c_ := (Nat.le_trans (Nat.le_trans (Keep.size (NewB.ext n6)) (Keep.size x10)) (Keep.size (Wrote.keep k13))); omega)) (Wrote.keep k27) (fun i_ h_ => by have a_ := NewB.eq n6; have b_ := NewB.size n6; have c_ := (Nat.le_trans (Keep.size x10) (Keep.size (Wrote.keep k13))); omega)) (Keep.size (Keep.then_ (Ext.trans (Ext.trans (NewB.ext n3) (NewB.ext n6)) x10) (Wrote.keep k13) (fun i_ hi_ h_ => by have a_ := NewB.eq n3; have b_ := Keep.size (Ext.refl w); omega))),TwE.mono (TwE.keep (TwE.keep tw22 (Wrote.keep k25) (fun i_ h_ => by have a_ := NewB.eq n3; have b_ := NewB.size n3; have c_ := (Nat.le_trans (Nat.le_trans (Nat.le_trans (Nat.le_trans (Keep.size (NewB.ext n6)) (Keep.size x10)) (Keep.size (Wrote.keep k13))) (Keep.size x17)) (Keep.size (Wrote.keep k19))); omega)) (Wrote.keep k27) (fun i_ h_ => by have a_ := NewB.eq n6; have b_ := NewB.size n6; have c_ := (Nat.le_trans (Nat.le_trans (Nat.le_trans (Keep.size x10) (Keep.size (Wrote.keep k13))) (Keep.size x17)) (Keep.size (Wrote.keep k19))); omega)) (Keep.size (Keep.then_ (Ext.trans (Keep.then_ (Ext.trans (Ext.trans (NewB.ext n3) (NewB.ext n6)) x10) (Wrote.keep k13) (fun i_ hi_ h_ => by have a_ := NewB.eq n3; have b_ := Keep.size (Ext.refl w); omega)) x17) (Wrote.keep k19) (fun i_ hi_ h_ => by have a_ := NewB.eq n3; have b_ := Keep.size (Ext.refl w); omega))),(Keep.then_ (Keep.then_ (Ext.trans (Keep.then_ (Ext.trans (Keep.then_ (Ext.trans (Ext.trans (NewB.ext n3) (NewB.ext n6)) x10) (Wrote.keep k13) (fun i_ hi_ h_ => by have a_ := NewB.eq n3; have b_ := Keep.size (Ext.refl w); omega)) x17) (Wrote.keep k19) (fun i_ hi_ h_ => by have a_ := NewB.eq n3; have b_ := Keep.size (Ext.refl w); omega)) x23) (Wrote.keep k25) (fun i_ hi_ h_ => by have a_ := NewB.eq n3; have b_ := Keep.size (Ext.refl w); omega)) (Wrote.keep k27) (fun i_ hi_ h_ => by have a_ := NewB.eq n6; have b_ := Keep.size (NewB.ext n3); omega))⟩
theorem l_LeftLiteral (x : Lt) (Aa A1 A2 : Option Addr) (ca c1 c2 : Nat) (ba b1 b2 lo : Nat) (w : World) (ho : x.okc ca c1 c2) (hra : Row RT 4 w Aa x.a.args) (hr1 : Row RE 6 w A1 x.e1.kids) (hr2 : Row RE 6 w A2 x.e2.kids) (twa : TwG QT markT 4 lo w ba x.a.args) (tw1 : TwE lo w b1 x.e1.kids) (tw2 : TwE lo w b2 x.e2.kids) (tb : Tabs Tryz.prog w) :
    Rt Tryz.prog 16 #[.agg #[.int .i8 x.k,.string x.a.p,.slice (some ⟨ba,0,none⟩) x.a.args.length (x.a.args.length + 1),.int .i8 x.r,.int .i8 x.e1.op,.string x.e1.t.v,.int .i8 x.e1.t.l.k,.int .i64 x.e1.t.l.n,.string x.e1.t.l.s,.slice (some ⟨b1,0,none⟩) x.e1.kids.length (x.e1.kids.length + 1),.int .i8 x.e2.op,.string x.e2.t.v,.int .i8 x.e2.t.l.k,.int .i64 x.e2.t.l.n,.string x.e2.t.l.s,.slice (some ⟨b2,0,none⟩) x.e2.kids.length (x.e2.kids.length + 1)],.agg #[.int .i8 x.k,.string x.a.p,.slice Aa x.a.args.length ca,.int .i8 x.r,.int .i8 x.e1.op,.string x.e1.t.v,.int .i8 x.e1.t.l.k,.int .i64 x.e1.t.l.n,.string x.e1.t.l.s,.slice A1 x.e1.kids.length c1,.int .i8 x.e2.op,.string x.e2.t.v,.int .i8 x.e2.t.l.k,.int .i64 x.e2.t.l.n,.string x.e2.t.l.s,.slice A2 x.e2.kids.length c2]] w fun v w' => v = .bool true ∧ Ext w w' := by
  refine enter Tryz.func16 rfl (l := [.agg #[.int .i8 x.k,.string x.a.p,.slice (some ⟨ba,0,none⟩) x.a.args.length (x.a.args.length + 1),.int .i8 x.r,.int .i8 x.e1.op,.string x.e1.t.v,.int .i8 x.e1.t.l.k,.int .i64 x.e1.t.l.n,.string x.e1.t.l.s,.slice (some ⟨b1,0,none⟩) x.e1.kids.length (x.e1.kids.length + 1),.int .i8 x.e2.op,.string x.e2.t.v,.int .i8 x.e2.t.l.k,.int .i64 x.e2.t.l.n,.string x.e2.t.l.s,.slice (some ⟨b2,0,none⟩) x.e2.kids.length (x.e2.kids.length + 1)],.agg #[.int .i8 x.k,.string x.a.p,.slice Aa x.a.args.length ca,.int .i8 x.r,.int .i8 x.e1.op,.string x.e1.t.v,.int .i8 x.e1.t.l.k,.int .i64 x.e1.t.l.n,.string x.e1.t.l.s,.slice A1 x.e1.kids.length c1,.int .i8 x.e2.op,.string x.e2.t.v,.int .i8 x.e2.t.l.k,.int .i64 x.e2.t.l.n,.string x.e2.t.l.s,.slice A2 x.e2.kids.length c2]]) rfl Tryz.ntmps16 (Nat.le_of_ble_eq_true rfl) ?_
  have hoa_ := Lt.okc.a ho
  have ho1_ := Lt.okc.e1 ho
  have ho2_ := Lt.okc.e2 ho
  have hl1_ := Ex.okc.l ho1_
  have hl2_ := Ex.okc.l ho2_
  have hc1_ := Ex.okc.c ho1_
  have hc2_ := Ex.okc.c ho2_
  have hla_ := At.okc.l hoa_
  have hca_ := At.okc.c hoa_
  have hpa_ := At.okc.p hoa_
  refine c_seq (c_reg (s_box (v := .agg #[.int .i8 x.k,.string x.a.p,.slice (some ⟨ba,0,none⟩) x.a.args.length (x.a.args.length + 1),.int .i8 x.r,.int .i8 x.e1.op,.string x.e1.t.v,.int .i8 x.e1.t.l.k,.int .i64 x.e1.t.l.n,.string x.e1.t.l.s,.slice (some ⟨b1,0,none⟩) x.e1.kids.length (x.e1.kids.length + 1),.int .i8 x.e2.op,.string x.e2.t.v,.int .i8 x.e2.t.l.k,.int .i64 x.e2.t.l.n,.string x.e2.t.l.s,.slice (some ⟨b2,0,none⟩) x.e2.kids.length (x.e2.kids.length + 1)]) (cs := #[.int .i8 x.k,.string x.a.p,.slice (some ⟨ba,0,none⟩) x.a.args.length (x.a.args.length + 1),.int .i8 x.r,.int .i8 x.e1.op,.string x.e1.t.v,.int .i8 x.e1.t.l.k,.int .i64 x.e1.t.l.n,.string x.e1.t.l.s,.slice (some ⟨b1,0,none⟩) x.e1.kids.length (x.e1.kids.length + 1),.int .i8 x.e2.op,.string x.e2.t.v,.int .i8 x.e2.t.l.k,.int .i64 x.e2.t.l.n,.string x.e2.t.l.s,.slice (some ⟨b2,0,none⟩) x.e2.kids.length (x.e2.kids.length + 1)]) (w0 rfl) (ej rfl rfl) rfl ?_))
  intro w2 g1 n3
  refine s_box (v := .agg #[.int .i8 x.k,.string x.a.p,.slice Aa x.a.args.length ca,.int .i8 x.r,.int .i8 x.e1.op,.string x.e1.t.v,.int .i8 x.e1.t.l.k,.int .i64 x.e1.t.l.n,.string x.e1.t.l.s,.slice A1 x.e1.kids.length c1,.int .i8 x.e2.op,.string x.e2.t.v,.int .i8 x.e2.t.l.k,.int .i64 x.e2.t.l.n,.string x.e2.t.l.s,.slice A2 x.e2.kids.length c2]) (cs := #[.int .i8 x.k,.string x.a.p,.slice Aa x.a.args.length ca,.int .i8 x.r,.int .i8 x.e1.op,.string x.e1.t.v,.int .i8 x.e1.t.l.k,.int .i64 x.e1.t.l.n,.string x.e1.t.l.s,.slice A1 x.e1.kids.length c1,.int .i8 x.e2.op,.string x.e2.t.v,.int .i8 x.e2.t.l.k,.int .i64 x.e2.t.l.n,.string x.e2.t.l.s,.slice A2 x.e2.kids.length c2]) (w0 rfl) (ej rfl rfl) rfl ?_
  intro w5 g4 n6
  refine s_assign (v := .bool false) ev_c (w0 rfl) (c_done (n_then (c_seq (c_reg (s_field (off := 0) (o' := 0) F_f38_0 (ej rfl rfl) rfl (w0 rfl) (s_load (v := .int .i8 x.k) F_o26 (ej rfl rfl) (cell_of_blk (i := 0) (Ext.blk (NewB.ext n6) (NewB.blk n3)) rfl) (w0 rfl) (s_field (off := 0) (o' := 0) F_f38_0 (ej rfl rfl) rfl (w0 rfl) (s_load (v := .int .i8 x.k) F_o26 (ej rfl rfl) (cell_of_blk (i := 0) (NewB.blk n6) rfl) (w0 rfl) (s_cmp (r := true) (ej rfl rfl) (ej rfl rfl) (cmpI_self _) (w0 rfl) (s_move (v := .bool true) (ej rfl rfl) (w0 rfl) (s_field (off := 3) (o' := 3) F_f38_2 (ej rfl rfl) rfl (wy rfl rfl rfl rfl) ?_)))))))))))
  refine s_load (v := .int .i8 x.r) F_o27 (ej rfl rfl) (cell_of_blk (i := 3) (Ext.blk (NewB.ext n6) (NewB.blk n3)) rfl) (wy rfl rfl rfl rfl) (s_field (off := 3) (o' := 3) F_f38_2 (ej rfl rfl) rfl (wy rfl rfl rfl rfl) (s_load (v := .int .i8 x.r) F_o27 (ej rfl rfl) (cell_of_blk (i := 3) (NewB.blk n6) rfl) (wy rfl rfl rfl rfl) (s_cmp (r := true) (ej rfl rfl) (ej rfl rfl) (cmpI_self _) (wy rfl rfl rfl rfl) (s_pick1 (v := .bool true) (ej rfl rfl) (ej rfl rfl) (w0 rfl) (s_move (v := .bool true) (ej rfl rfl) (w0 rfl) (s_field (off := 1) (o' := 1) F_f38_1 (ej rfl rfl) rfl (wy rfl rfl rfl rfl) (s_loadL (cs := [.string x.a.p,.slice (some ⟨ba,0,none⟩) x.a.args.length (x.a.args.length + 1)]) F_m24 (ej rfl rfl) rfl rfl (blk_cells (Ext.blk (NewB.ext n6) (NewB.blk n3)) 1 rfl) (wy rfl rfl rfl rfl) (s_field (off := 1) (o' := 1) F_f38_1 (ej rfl rfl) rfl (wy rfl rfl rfl rfl) (s_loadL (cs := [.string x.a.p,.slice Aa x.a.args.length ca]) F_m24 (ej rfl rfl) rfl rfl (blk_cells (NewB.blk n6) 1 rfl) (wy rfl rfl rfl rfl) (s_call F_e15 (wy rfl rfl rfl rfl) ev_f (m2 (ej rfl rfl) (ej rfl rfl)) (args := #[.agg #[.string x.a.p,.slice (some ⟨ba,0,none⟩) x.a.args.length (x.a.args.length + 1)],.agg #[.string x.a.p,.slice Aa x.a.args.length ca]]) rfl (l_LeftAtom x.a Aa ca ba _ _ hoa_ (Row.extT (Row.extT hra (NewB.ext n3)) (NewB.ext n6)) (TwG.ext okT (TwG.ext okT twa (NewB.ext n3)) (NewB.ext n6)) (Tabs.ext tb (Ext.trans (NewB.ext n3) (NewB.ext n6)))) ?_))))))))))
  rintro _ w8 ⟨rfl,x7⟩
  refine s_pick1 (v := .bool true) (ej rfl rfl) (ej rfl rfl) (w0 rfl) (s_move (v := .bool true) (ej rfl rfl) (w0 rfl) (s_field (off := 4) (o' := 4) F_f38_3 (ej rfl rfl) rfl (wy rfl rfl rfl rfl) (s_loadL (cs := [.int .i8 x.e1.op,.string x.e1.t.v,.int .i8 x.e1.t.l.k,.int .i64 x.e1.t.l.n,.string x.e1.t.l.s,.slice (some ⟨b1,0,none⟩) x.e1.kids.length (x.e1.kids.length + 1)]) F_m36 (ej rfl rfl) rfl rfl (blk_cells (Ext.blk x7 (Ext.blk (NewB.ext n6) (NewB.blk n3))) 4 rfl) (wy rfl rfl rfl rfl) (s_field (off := 4) (o' := 4) F_f38_3 (ej rfl rfl) rfl (wy rfl rfl rfl rfl) (s_loadL (cs := [.int .i8 x.e1.op,.string x.e1.t.v,.int .i8 x.e1.t.l.k,.int .i64 x.e1.t.l.n,.string x.e1.t.l.s,.slice A1 x.e1.kids.length c1]) F_m36 (ej rfl rfl) rfl rfl (blk_cells (Ext.blk x7 (NewB.blk n6)) 4 rfl) (wy rfl rfl rfl rfl) (s_call F_e42 (wy rfl rfl rfl rfl) ev_f (m2 (ej rfl rfl) (ej rfl rfl)) (args := #[.agg #[.int .i8 x.e1.op,.string x.e1.t.v,.int .i8 x.e1.t.l.k,.int .i64 x.e1.t.l.n,.string x.e1.t.l.s,.slice (some ⟨b1,0,none⟩) x.e1.kids.length (x.e1.kids.length + 1)],.agg #[.int .i8 x.e1.op,.string x.e1.t.v,.int .i8 x.e1.t.l.k,.int .i64 x.e1.t.l.n,.string x.e1.t.l.s,.slice A1 x.e1.kids.length c1]]) rfl (l_LeftExpr (SizeOf.sizeOf x.e1 + 1) x.e1 (Nat.lt_succ_self _) b1 _ A1 c1 _ (TwE.ext (TwE.ext (TwE.ext tw1 (NewB.ext n3)) (NewB.ext n6)) x7) ho1_ (Row.extE (Row.extE (Row.extE hr1 (NewB.ext n3)) (NewB.ext n6)) x7) (Tabs.ext tb (Ext.trans (Ext.trans (NewB.ext n3) (NewB.ext n6)) x7))) ?_))))))
  rintro _ w10 ⟨rfl,x9⟩
  refine s_pick1 (v := .bool true) (ej rfl rfl) (ej rfl rfl) (w0 rfl) (s_move (v := .bool true) (ej rfl rfl) (w0 rfl) (s_field (off := 10) (o' := 10) F_f38_4 (ej rfl rfl) rfl (wy rfl rfl rfl rfl) (s_loadL (cs := [.int .i8 x.e2.op,.string x.e2.t.v,.int .i8 x.e2.t.l.k,.int .i64 x.e2.t.l.n,.string x.e2.t.l.s,.slice (some ⟨b2,0,none⟩) x.e2.kids.length (x.e2.kids.length + 1)]) F_m36 (ej rfl rfl) rfl rfl (blk_cells (Ext.blk x9 (Ext.blk x7 (Ext.blk (NewB.ext n6) (NewB.blk n3)))) 10 rfl) (wy rfl rfl rfl rfl) (s_field (off := 10) (o' := 10) F_f38_4 (ej rfl rfl) rfl (wy rfl rfl rfl rfl) (s_loadL (cs := [.int .i8 x.e2.op,.string x.e2.t.v,.int .i8 x.e2.t.l.k,.int .i64 x.e2.t.l.n,.string x.e2.t.l.s,.slice A2 x.e2.kids.length c2]) F_m36 (ej rfl rfl) rfl rfl (blk_cells (Ext.blk x9 (Ext.blk x7 (NewB.blk n6))) 10 rfl) (wy rfl rfl rfl rfl) (s_call F_e42 (wy rfl rfl rfl rfl) ev_f (m2 (ej rfl rfl) (ej rfl rfl)) (args := #[.agg #[.int .i8 x.e2.op,.string x.e2.t.v,.int .i8 x.e2.t.l.k,.int .i64 x.e2.t.l.n,.string x.e2.t.l.s,.slice (some ⟨b2,0,none⟩) x.e2.kids.length (x.e2.kids.length + 1)],.agg #[.int .i8 x.e2.op,.string x.e2.t.v,.int .i8 x.e2.t.l.k,.int .i64 x.e2.t.l.n,.string x.e2.t.l.s,.slice A2 x.e2.kids.length c2]]) rfl (l_LeftExpr (SizeOf.sizeOf x.e2 + 1) x.e2 (Nat.lt_succ_self _) b2 _ A2 c2 _ (TwE.ext (TwE.ext (TwE.ext (TwE.ext tw2 (NewB.ext n3)) (NewB.ext n6)) x7) x9) ho2_ (Row.extE (Row.extE (Row.extE (Row.extE hr2 (NewB.ext n3)) (NewB.ext n6)) x7) x9) (Tabs.ext tb (Ext.trans (Ext.trans (Ext.trans (NewB.ext n3) (NewB.ext n6)) x7) x9))) ?_))))))
  rintro _ w12 ⟨rfl,x11⟩
  refine s_pick1 (v := .bool true) (ej rfl rfl) (ej rfl rfl) (w0 rfl) (s_assign (v := .bool true) (ej rfl rfl) (w0 rfl) (c_done (n_then (c_ret (ret1 (v := .bool true) rfl rfl rfl ?_)))))
  refine ⟨_,rfl,?_,(Ext.trans (Ext.trans (Ext.trans (Ext.trans (NewB.ext n3) (NewB.ext n6)) x7) x9) x11)⟩
  rfl
end Go.Proofs.Zw

set_option linter.unusedVariables false
set_option linter.unusedSimpArgs false
set_option maxRecDepth 10000
namespace Go.Proofs.Zw
open Go Go.Wk Go.Proofs Go.Lib
attribute [local irreducible] Go.wpList Go.wpStill Go.wpQuiet Go.Code.wp Go.Calls
theorem F_e28 : enterable Tryz.prog 28 = true := by kernel_rfl
theorem F_e57 : enterable Tryz.prog 57 = true := by kernel_rfl
theorem F_f53_1 : fieldAt Tryz.prog 53 1 1 = true := by kernel_rfl
theorem F_f53_2 : fieldAt Tryz.prog 53 2 2 = true := by kernel_rfl
theorem F_l40 : sliceT Tryz.prog 40 16 = true := by kernel_rfl
theorem F_l51 : sliceT Tryz.prog 51 5 = true := by kernel_rfl
theorem F_o40 : one Tryz.prog 40 = true := by kernel_rfl
theorem F_o51 : one Tryz.prog 51 = true := by kernel_rfl
theorem l_RuleParts (x : Ru) (Ah Ab : Option Addr) (ch cb : Nat) (L : Nat) (w : World) (ho : x.okc ch cb) (hrh : Row RG 5 w Ah x.head) (hrb : Row RL 16 w Ab x.body) (hL : L ≤ 1048576) :
    Rt Tryz.prog 28 #[.agg #[.string x.p,.slice Ah x.head.length ch,.slice Ab x.body.length cb],.int .i64 ((L : Nat) : Int)] w fun v w' => (∃ z : Nat,(1 ≤ z ∧ z ≤ L + 1 + x.head.length) ∧ v = .int .i64 ((z : Nat) : Int)) ∧ Ext w w' := by
  refine enter Tryz.func28 rfl (l := [.agg #[.string x.p,.slice Ah x.head.length ch,.slice Ab x.body.length cb],.int .i64 ((L : Nat) : Int)]) rfl Tryz.ntmps28 (Nat.le_of_ble_eq_true rfl) ?_
  have hpr_ := Ru.okc.p ho
  have hhl_ := Ru.okc.hl ho
  have hhc_ := Ru.okc.hc ho
  have hbl_ := Ru.okc.bl ho
  have hbc_ := Ru.okc.bc ho
  refine c_seq (c_reg (s_box (v := .agg #[.string x.p,.slice Ah x.head.length ch,.slice Ab x.body.length cb]) (cs := #[.string x.p,.slice Ah x.head.length ch,.slice Ab x.body.length cb]) (w0 rfl) (ej rfl rfl) rfl ?_))
  intro w2 g1 n3
  refine s_assign (v := .int .i64 0) ev_c (w0 rfl) (c_done (n_then (c_seq (c_reg (s_field (off := 1) (o' := 1) F_f53_1 (ej rfl rfl) rfl (w0 rfl) (s_load (v := .slice Ah x.head.length ch) F_o51 (ej rfl rfl) (cell_of_blk (i := 1) (NewB.blk n3) rfl) (w0 rfl) (s_lenL F_l51 (ej rfl rfl) (w0 rfl) (s_add (r := ((1 + x.head.length : Nat) : Int)) ev_c (ej rfl rfl) (by omega) (by omega) (w0 rfl) (s_assign (v := .int .i64 ((1 + x.head.length : Nat) : Int)) (ej rfl rfl) (w0 rfl) (c_done (n_then ?_)))))))))))
  refine c_seq (c_seq (c_reg (s_assign (v := .int .i64 0) ev_c (w0 rfl) (c_done (n_then (c_block (c_loop (α := Nat × Nat) (fun x_ env_ w_ => match x_ with | (i,nn) => Ext w2 w_ ∧ i ≤ x.body.length ∧ nn ≤ L + 1 + x.head.length ∧ 1 ≤ nn ∧ env_ 1 = .int .i64 ((L : Nat) : Int) ∧ env_ 2 = .pointer (some ⟨g1,0,none⟩) ∧ env_ 4 = .int .i64 0 ∧ env_ 5 = .int .i64 ((nn : Nat) : Int) ∧ env_ 6 = .int .i64 ((i : Nat) : Int)) (fun x_ => match x_ with | (i,nn) => x.body.length - i) (0,1 + x.head.length) ⟨Ext.refl _,Nat.zero_le _,(by omega),(by omega),rfl,rfl,rfl,rfl,rfl⟩ ?_)))))))
  rintro ⟨i,nn⟩ env6 w4 ⟨x5,i7,i8,i9,e10,e11,e12,e13,e14⟩
  refine c_seq (c_seq (c_reg (s_move (v := .int .i64 ((i : Nat) : Int)) (ej rfl e14) (w0 rfl) (s_field (off := 2) (o' := 2) F_f53_2 (ej rfl e11) rfl (w0 rfl) (s_load (v := .slice Ab x.body.length cb) F_o40 (ej rfl rfl) (cell_of_blk (i := 2) (Ext.blk x5 (NewB.blk n3)) rfl) (w0 rfl) (s_lenL F_l40 (ej rfl rfl) (w0 rfl) (s_cmp (r := decide (((i : Nat) : Int) < (x.body.length : Int))) (ej rfl rfl) (ej rfl rfl) rfl (w0 rfl) ?_)))))))
  by_cases h15 : ((i : Nat) : Int) < (x.body.length : Int)
  · refine s_move (v := .bool true) (vb (ej rfl rfl) (decide_eq_true h15)) (w0 rfl) (s_move (v := .int .i64 ((nn : Nat) : Int)) (ej rfl e13) (wy rfl rfl rfl rfl) (s_move (v := .int .i64 ((L : Nat) : Int)) (ej rfl e10) (wy rfl rfl rfl rfl) (s_cmp (r := decide (((nn : Nat) : Int) ≤ ((L : Nat) : Int))) (ej rfl rfl) (ej rfl rfl) rfl (wy rfl rfl rfl rfl) (s_pick1 (v := .bool (decide (((nn : Nat) : Int) ≤ ((L : Nat) : Int)))) (ej rfl rfl) (ej rfl rfl) (w0 rfl) (c_done (n_then ?_))))))
    by_cases h16 : ((nn : Nat) : Int) ≤ ((L : Nat) : Int)
    · refine c_cond1 (vb (ej rfl rfl) (decide_eq_true h16)) (c_skip (n_then (c_seq (c_block (c_reg (s_move (v := .int .i64 ((nn : Nat) : Int)) (ej rfl e13) (w0 rfl) (s_field (off := 2) (o' := 2) F_f53_2 (ej rfl e11) rfl (w0 rfl) (s_load (v := .slice Ab x.body.length cb) F_o40 (ej rfl rfl) (cell_of_blk (i := 2) (Ext.blk x5 (NewB.blk n3)) rfl) (w0 rfl) (s_move (v := .int .i64 ((i : Nat) : Int)) (ej rfl e14) (w0 rfl) ?_)))))))))
      obtain ⟨b17,o18,x19,csx19,hA20,hx21,hR22,hc23⟩ := Row.at_ hrb i (by omega)
      obtain rfl := ltAt_of hx21
      obtain ⟨Aa24,A25,A26,ca27,c28,c29,rfl,ho30,ra31,r32,r33⟩ := hR22
      have q34_a := Lt.okc.a ho30
      have q34_e1 := Lt.okc.e1 ho30
      have q34_e2 := Lt.okc.e2 ho30
      have := Ex.okc.l q34_e1
      have := Ex.okc.l q34_e2
      have := Ex.okc.c q34_e1
      have := Ex.okc.c q34_e2
      have := At.okc.l q34_a
      have := At.okc.c q34_a
      have := At.okc.p q34_a
      refine s_indexR (j := i) F_l40 (ej rfl rfl) hA20 (ej rfl rfl) rfl (by omega) (w0 rfl) (s_loadL (cs := [.int .i8 ((ltAt x.body i).k),.string ((ltAt x.body i).a.p),.slice Aa24 ((ltAt x.body i).a.args.length) ca27,.int .i8 ((ltAt x.body i).r),.int .i8 ((ltAt x.body i).e1.op),.string ((ltAt x.body i).e1.t.v),.int .i8 ((ltAt x.body i).e1.t.l.k),.int .i64 ((ltAt x.body i).e1.t.l.n),.string ((ltAt x.body i).e1.t.l.s),.slice A25 ((ltAt x.body i).e1.kids.length) c28,.int .i8 ((ltAt x.body i).e2.op),.string ((ltAt x.body i).e2.t.v),.int .i8 ((ltAt x.body i).e2.t.l.k),.int .i64 ((ltAt x.body i).e2.t.l.n),.string ((ltAt x.body i).e2.t.l.s),.slice A26 ((ltAt x.body i).e2.kids.length) c29]) F_m38 (ej rfl rfl) rfl rfl (sub_cells (cells_ext x5 (cells_ext (NewB.ext n3) hc23)) 0 rfl) (w0 rfl) (s_move (v := .int .i64 ((L : Nat) : Int)) (ej rfl e10) (w0 rfl) (s_move (v := .int .i64 ((nn : Nat) : Int)) (ej rfl e13) (w0 rfl) (s_sub (r := ((L - (nn) : Nat) : Int)) (ej rfl rfl) (ej rfl rfl) (by omega) (by omega) (w0 rfl) (s_call F_e57 (w0 rfl) ev_f (m2 (ej rfl rfl) (ej rfl rfl)) (args := #[.agg #[.int .i8 ((ltAt x.body i).k),.string ((ltAt x.body i).a.p),.slice Aa24 ((ltAt x.body i).a.args.length) ca27,.int .i8 ((ltAt x.body i).r),.int .i8 ((ltAt x.body i).e1.op),.string ((ltAt x.body i).e1.t.v),.int .i8 ((ltAt x.body i).e1.t.l.k),.int .i64 ((ltAt x.body i).e1.t.l.n),.string ((ltAt x.body i).e1.t.l.s),.slice A25 ((ltAt x.body i).e1.kids.length) c28,.int .i8 ((ltAt x.body i).e2.op),.string ((ltAt x.body i).e2.t.v),.int .i8 ((ltAt x.body i).e2.t.l.k),.int .i64 ((ltAt x.body i).e2.t.l.n),.string ((ltAt x.body i).e2.t.l.s),.slice A26 ((ltAt x.body i).e2.kids.length) c29],.int .i64 ((L - (nn) : Nat) : Int)]) rfl (l_literalParts (ltAt x.body i) Aa24 A25 A26 ca27 c28 c29 (L - (nn)) _ ho30 (Row.extT (Row.extT ra31 (NewB.ext n3)) x5) (Row.extE (Row.extE r32 (NewB.ext n3)) x5) (Row.extE (Row.extE r33 (NewB.ext n3)) x5) (by omega)) ?_)))))
      rintro _ w36 ⟨⟨z35,hz38,rfl⟩,x37⟩
      refine s_add (r := ((nn + z35 : Nat) : Int)) (ej rfl rfl) (ej rfl rfl) (by omega) (by omega) (w0 rfl) (s_assign (v := .int .i64 ((nn + z35 : Nat) : Int)) (ej rfl rfl) (w0 rfl) (c_done (n_block (n_then (c_reg (s_move (v := .int .i64 ((i : Nat) : Int)) (ej rfl e14) (w0 rfl) (s_add (r := ((i + 1 : Nat) : Int)) (ej rfl rfl) ev_c (by omega) (by omega) (w0 rfl) (s_assign (v := .int .i64 ((i + 1 : Nat) : Int)) (ej rfl rfl) (w0 rfl) (c_done ?_)))))))))
      exact ⟨(i + 1,nn + z35),_,rfl,⟨(Ext.trans x5 x37),by omega,by omega,by omega,e10,e11,e12,rfl,rfl⟩,(show x.body.length - (i + 1) < x.body.length - i by omega)⟩
    refine c_cond0 (vb (ej rfl rfl) (decide_eq_false h16)) (c_exit (e_then (e_then (e_hit (n_then (c_seq (c_reg (s_move (v := .int .i64 ((nn : Nat) : Int)) (ej rfl e13) (w0 rfl) (s_assign (v := .int .i64 ((nn : Nat) : Int)) (ej rfl rfl) (w0 rfl) (c_done (n_then ?_)))))))))))
    refine c_ret (ret1 (v := .int .i64 ((nn : Nat) : Int)) rfl rfl rfl ?_)
    exact ⟨_,rfl,⟨nn,by omega,rfl⟩,(Ext.trans (NewB.ext n3) x5)⟩
  refine s_move (v := .bool false) (vb (ej rfl rfl) (decide_eq_false h15)) (w0 rfl) (s_skip (wn rfl rfl rfl rfl rfl) (s_skip (wn rfl rfl rfl rfl rfl) (s_skip (wn rfl rfl rfl rfl rfl) (s_pick0 (v := .bool false) (ej rfl rfl) ev_c (w0 rfl) (c_done (n_then (c_cond0 (ej rfl rfl) (c_exit (e_then (e_then (e_hit ?_)))))))))))
  refine n_then (c_seq (c_reg (s_move (v := .int .i64 ((nn : Nat) : Int)) (ej rfl e13) (w0 rfl) (s_assign (v := .int .i64 ((nn : Nat) : Int)) (ej rfl rfl) (w0 rfl) (c_done (n_then (c_ret (ret1 (v := .int .i64 ((nn : Nat) : Int)) rfl rfl rfl ?_))))))))
  exact ⟨_,rfl,⟨nn,by omega,rfl⟩,(Ext.trans (NewB.ext n3) x5)⟩
end Go.Proofs.Zw

set_option linter.unusedVariables false
set_option linter.unusedSimpArgs false
set_option maxRecDepth 10000
namespace Go.Proofs.Zw
open Go Go.Wk Go.Proofs Go.Lib
attribute [local irreducible] Go.wpList Go.wpStill Go.wpQuiet Go.Code.wp Go.Calls
theorem F_e16 : enterable Tryz.prog 16 = true := by kernel_rfl
theorem F_e17 : enterable Tryz.prog 17 = true := by kernel_rfl
theorem F_e8 : enterable Tryz.prog 8 = true := by kernel_rfl
end Go.Proofs.Zw

set_option linter.unusedVariables false
set_option linter.unusedSimpArgs false
namespace Go.Wk
open Go Go.RowKit Go.Lib
/-! ### a relation of worlds: what is old, or not of a type, stays -/
def KT (B e : Nat) (w w' : World) : Prop := Keep (fun i => B ≤ i ∧ ∃ cs fz,w.heap[i]? = some (.cells cs e fz)) w w'
section
variable {B e : Nat} {w w' w2 wz : World}
theorem KT.refl : KT B e w w := Keep.refl _ _
theorem KT.size (h : KT B e w w') : w.heap.size ≤ w'.heap.size := Keep.size h
theorem KT.of_ext (h : Ext w w') : KT B e w w' := Keep.mono h (fun _ _ h => h.elim)
theorem KT.trans (h : KT B e w w') (k : KT B e w' w2) : KT B e w w2 := by
  classical
  refine Keep.then_ h k (fun i hi hs => ?_)
  obtain ⟨hB,cs,fz,hc⟩ := hs
  by_cases hS : ∃ cs fz,w.heap[i]? = some (.cells cs e fz)
  · exact ⟨hB,hS⟩
  · have := Keep.block h i hi (fun h => hS h.2)
    rw [this] at hc
    exact ⟨hB,_,_,hc⟩
theorem KT.ext (h : KT B e w w') (k : Ext w' w2) : KT B e w w2 := h.trans (.of_ext k)
theorem KT.ext0 (h : Ext wz w) (k : KT wz.heap.size e w w') : Ext wz w' := Keep.then_ h k (fun i hi hs => by have := hs.1; omega)
theorem KT.blk {g t : Nat} {cs : Array Value} {fz : Nat × Nat} (k : KT B e w w') (h : w.heap[g]? = some (.cells cs t fz)) (ht : ¬ t = e) : w'.heap[g]? = some (.cells cs t fz) :=
  Keep.blk k h (fun hs => by obtain ⟨_,cs2,fz2,h2⟩ := hs; rw [h] at h2; injection h2 with h2; injection h2 with _ h2; exact ht h2)
theorem KT.of_own {m n : Nat} {v : Value} {xs : List Value} (ho : w.ownsRow B e m v n xs) (k : Keep (fun i => some i = v.ownBlock) w w') : KT B e w w' := by
  refine Keep.mono k (fun i hi hs => ⟨own_ge ho i hs,?_⟩)
  rcases ho.2 with ⟨rfl,_⟩ | ⟨g,cap,cur,rfl,hb,hh,_⟩
  · simp [Value.ownBlock] at hs
  · have : i = g := by simpa [Value.ownBlock] using hs
    subst this
    exact ⟨_,_,hh⟩
end
/-! ### the terms of an expression, a literal, a rule -/
def exTs : Nat → Ex → List Tm
  | 0,_ => []
  | d + 1,x => x.t :: x.kids.flatMap (exTs d)
def exK (d : Nat) (x : Ex) (i : Nat) : List Tm := x.t :: (x.kids.take i).flatMap (exTs d)
theorem exK_zero (d : Nat) (x : Ex) : exK d x 0 = [x.t] := by simp [exK]
theorem exK_step {d i : Nat} {x : Ex} (h : i < x.kids.length) : exK d x (i + 1) = exK d x i ++ exTs d (x.kid i) := by
  have hk := kid_there (x := x) (j := i) h
  unfold exK
  rw [List.take_add_one,hk]
  simp
theorem exK_all (d : Nat) (x : Ex) {i : Nat} (h : x.kids.length ≤ i) : exK d x i = exTs (d + 1) x := by simp [exK,exTs,List.take_of_length_le h]
def smE : Nat → Ex → Prop
  | 0,_ => False
  | d + 1,x => x.kids.length ≤ 2 ∧ ∀ (j : Nat) (y : Ex),x.kids[j]? = some y → smE d y
theorem smE.kids {d : Nat} {x : Ex} (h : smE d x) (hd : d ≠ 0) : x.kids.length ≤ 2 := by
  obtain ⟨d',rfl⟩ := Nat.exists_eq_succ_of_ne_zero hd; exact h.1
theorem smE.pos {d : Nat} {x : Ex} (h : smE d x) : d ≠ 0 := fun h0 => by subst h0; exact h
theorem smE.kid {d j : Nat} {x y : Ex} (h : smE d x) (hy : x.kids[j]? = some y) : smE (d - 1) y := by
  obtain ⟨d',rfl⟩ := Nat.exists_eq_succ_of_ne_zero h.pos; exact h.2 j y hy
theorem exTs_len : ∀ (d : Nat) (x : Ex),smE d x → (exTs d x).length + 1 ≤ 2 ^ d
  | 0,_,h => h.elim
  | d + 1,x,h => by
    obtain ⟨h1,h2⟩ := h
    have key : ∀ (l : List Ex),l.length ≤ 2 → (∀ y,y ∈ l → smE d y) → (l.flatMap (exTs d)).length + l.length ≤ l.length * 2 ^ d := by
      intro l hl hy
      induction l with
      | nil => simp
      | cons a l ih =>
        have ha := exTs_len d a (hy a (by simp))
        have := ih (by simp at hl; omega) (fun y h => hy y (by simp [h]))
        simp only [List.flatMap_cons,List.length_append,List.length_cons,Nat.add_mul,Nat.one_mul]
        omega
    have := key x.kids h1 (fun y hy => by obtain ⟨j,hj,e⟩ := List.mem_iff_getElem.1 hy; exact h2 j y (by rw [List.getElem?_eq_getElem hj,e]))
    have h3 : x.kids.length * 2 ^ d ≤ 2 * 2 ^ d := Nat.mul_le_mul_right _ h1
    simp only [exTs,List.length_cons,Nat.pow_succ]
    have hp : 1 ≤ 2 ^ d := Nat.one_le_two_pow
    rcases Nat.lt_or_ge x.kids.length 1 with h0 | h0
    · have : x.kids = [] := by cases hk : x.kids with | nil => rfl | cons => rw [hk] at h0; simp at h0
      rw [this]; simp; omega
    · rcases Nat.lt_or_ge x.kids.length 2 with h4 | h4
      · have e1 : x.kids.length = 1 := by omega
        rw [e1] at this; omega
      · have e2 : x.kids.length = 2 := by omega
        rw [e2] at this; omega
theorem exB_sm : ∀ (d : Nat) (x : Ex),exB d x = true → smE d x
  | 0,x,h => by simp [exB] at h
  | d + 1,x,h => by
    have hp := exB_pos (d := d + 1) (x := x) (by omega)
    rw [hp] at h
    split at h
    · simp only [Bool.and_eq_true,decide_eq_true_eq] at h
      have h0 : x.kids.length = 0 := by have := h.1; omega
      refine ⟨by omega,fun j y hy => ?_⟩
      have := (List.getElem?_eq_some_iff.1 hy).1; omega
    · rename_i hop
      simp only [Bool.and_eq_true,decide_eq_true_eq] at h
      have hk : x.kids.length ≤ 2 := by
        have h1 := h.1.2
        have : kidsN x.op ≤ 2 := by unfold kidsN; (repeat' split) <;> omega
        omega
      refine ⟨hk,fun j y hy => exB_sm d y ?_⟩
      have := all_kid h.2 hy
      simpa using this
theorem noE_sm {x : Ex} (h : noE x = true) : smE 8 x := by
  simp only [noE,Bool.and_eq_true,decide_eq_true_eq] at h
  have h0 : x.kids.length = 0 := by have := h.2; omega
  refine ⟨by omega,fun j y hy => ?_⟩
  have := (List.getElem?_eq_some_iff.1 hy).1; omega
theorem lt_sm {x : Lt} (h : ltB x = true) : smE 8 x.e1 ∧ smE 8 x.e2 ∧ x.a.args.length ≤ 24 := by
  unfold ltB at h
  split at h
  · simp only [Bool.and_eq_true] at h
    exact ⟨noE_sm h.1.2,noE_sm h.2,(atB_parts h.1.1.1).2.2.1⟩
  · split at h
    · simp only [Bool.and_eq_true,decide_eq_true_eq] at h
      exact ⟨exB_sm 8 _ h.1.2,exB_sm 8 _ h.2,by have := h.1.1.1.1.2; omega⟩
    · cases h
def ltTs (x : Lt) : List Tm := x.a.args ++ exTs 8 x.e1 ++ exTs 8 x.e2
theorem ltTs_len {x : Lt} (h : ltB x = true) : (ltTs x).length ≤ 540 := by
  obtain ⟨h1,h2,h3⟩ := lt_sm h
  have := exTs_len 8 _ h1; have := exTs_len 8 _ h2
  simp only [ltTs,List.length_append]; omega
def ruTs (x : Ru) : List Tm := x.head.map (·.t) ++ x.body.flatMap ltTs
def ruK (x : Ru) (i : Nat) : List Tm := x.head.map (·.t) ++ (x.body.take i).flatMap ltTs
theorem ruK_step {x : Ru} {i : Nat} (h : i < x.body.length) : ruK x (i + 1) = ruK x i ++ ltTs (ltAt x.body i) := by
  unfold ruK; rw [List.take_add_one,ltAt_there h]; simp
theorem ruK_all {x : Ru} {i : Nat} (h : x.body.length ≤ i) : ruK x i = ruTs x := by simp [ruK,ruTs,List.take_of_length_le h]
theorem ruK_zero (x : Ru) : ruK x 0 = x.head.map (·.t) := by simp [ruK]
theorem ruK_len {x : Ru} (hb : ∀ (j : Nat) (y : Lt),x.body[j]? = some y → ltB y = true) : ∀ i,(ruK x i).length ≤ x.head.length + i * 540
  | 0 => by simp [ruK]
  | i + 1 => by
    have ih := ruK_len hb i
    by_cases h : i < x.body.length
    · rw [ruK_step h,List.length_append]
      have := ltTs_len (hb i _ (ltAt_there h))
      omega
    · have e1 : ruK x (i + 1) = ruK x i := by rw [ruK_all (by omega),ruK_all (by omega)]
      rw [e1]; clear e1; rw [Nat.add_mul]; exact Nat.le_trans ih (by omega)
/-! ### the names among terms, each once -/
def inL (v : ByteArray) (S : List ByteArray) : Bool := S.any (fun s => decide (s = v))
theorem inL_iff {v : ByteArray} {S : List ByteArray} : inL v S = true ↔ v ∈ S := by
  unfold inL
  rw [List.any_eq_true]
  exact ⟨fun ⟨x,hx,h⟩ => by have := of_decide_eq_true h; subst this; exact hx,fun h => ⟨v,h,by simp⟩⟩
def colT (S : List ByteArray) (v : ByteArray) : List ByteArray := if v = ⟨#[]⟩ ∨ v = ⟨#[95]⟩ ∨ inL v S = true then S else S ++ [v]
def colL (S : List ByteArray) (ts : List Tm) : List ByteArray := ts.foldl (fun S t => colT S t.v) S
theorem colL_app (S : List ByteArray) (a b : List Tm) : colL S (a ++ b) = colL (colL S a) b := by simp [colL,List.foldl_append]
theorem colT_len (S : List ByteArray) (v : ByteArray) : (colT S v).length ≤ S.length + 1 := by unfold colT; split <;> simp
theorem colL_len (S : List ByteArray) : ∀ (ts : List Tm),(colL S ts).length ≤ S.length + ts.length := by
  intro ts
  induction ts generalizing S with
  | nil => simp [colL]
  | cons t ts ih =>
    have := ih (colT S t.v); have := colT_len S t.v
    show (colL (colT S t.v) ts).length ≤ _
    simp only [List.length_cons]; omega
theorem colL_take {ts : List Tm} {i : Nat} (h : i < ts.length) : colL [] (ts.take (i + 1)) = colT (colL [] (ts.take i)) (tmAt ts i).v := by
  rw [List.take_add_one,tmAt_there h,colL_app]; rfl
def rvL (x : Ru) : List ByteArray := colL [] (ruTs x)
/-! ### arguments and rules: may they be, their texts -/
def argB (x : Ag) : Bool :=
  if x.k = 0 then !decide (x.t.v = ⟨#[95]⟩) && tmB x.t
  else if x.k = 1 then zT x.t
  else if x.k = 2 ∨ x.k = 3 ∨ x.k = 4 then !decide (x.t.v = ⟨#[]⟩) && (!decide (x.t.v = ⟨#[95]⟩) && tmB x.t)
  else false
def ruB (x : Ru) : Bool := nameB x.p && decide ((x.head.length : Int) ≤ 24) && decide ((x.body.length : Int) ≤ 16) && x.head.all argB && x.body.all ltB && decide (((rvL x).length : Int) ≤ 24)
theorem ruB_parts {x : Ru} (h : ruB x = true) : nameB x.p = true ∧ x.p.size ≤ 120 ∧ x.head.length ≤ 24 ∧ x.body.length ≤ 16 ∧ (∀ i,i < x.head.length → argB (agAt x.head i) = true) ∧ ∀ i,i < x.body.length → ltB (ltAt x.body i) = true := by
  simp only [ruB,Bool.and_eq_true,decide_eq_true_eq] at h
  obtain ⟨⟨⟨⟨⟨h1,h2⟩,h3⟩,h4⟩,h5⟩,h6⟩ := h
  have h7 := h1
  simp only [nameB,Bool.and_eq_true] at h7
  exact ⟨h1,wordB_size h7.1,by omega,by omega,fun i hi => all_kid h4 (agAt_there hi),fun i hi => all_kid h5 (ltAt_there hi)⟩
def foldB (k : Int) : ByteArray := if k = 2 then ⟨#[115,117,109]⟩ else if k = 3 then ⟨#[109,105,110]⟩ else if k = 4 then ⟨#[109,97,120]⟩ else ⟨#[]⟩
def argW (x : Ag) : ByteArray := if x.k = 1 then ⟨#[99,111,117,110,116,40,41]⟩ else if x.k = 2 ∨ x.k = 3 ∨ x.k = 4 then foldB x.k ++ ⟨#[40]⟩ ++ x.t.v ++ ⟨#[41]⟩ else termW x.t
def ruP (l : List Lt) : Nat → ByteArray
  | 0 => ⟨#[]⟩
  | i + 1 => ruP l i ++ (if i = 0 then ⟨#[32,58,45,32]⟩ else ⟨#[44,32]⟩) ++ ltW (ltAt l i)
def ruW (x : Ru) : ByteArray := colW x.p (x.head.map argW) ++ ruP x.body x.body.length ++ ⟨#[46]⟩
end Go.Wk

set_option linter.unusedVariables false
set_option linter.unusedSimpArgs false
namespace Go.Wk
open Go Go.RowKit Go.Lib Go.Maps
/-! ### values of an interface type; maps -/
def ptrT (P : Program) (t : TypeId) : Bool := match P.underlying t,P.info? t with
  | some (.pointer _),some i => (match i.zero with
    | some (.pointer none) => true
    | _ => false)
  | _,_ => false
theorem ptrT_spec {P : Program} {t : TypeId} (h : ptrT P t = true) : ∃ e i,P.underlying t = some (.pointer e) ∧ P.info? t = some i ∧ i.zero = some (.pointer none) := by
  unfold ptrT at h
  split at h
  · rename_i e i hu hi
    split at h
    · rename_i hz; exact ⟨e,i,hu,hi,hz⟩
    · cases h
  · cases h
section
variable {P : Program} {ops : Array Oper} {Q : Exit → Act → World → Prop} {rest : List Oper} {n d t : Nat} {env : Nat → Value} {ds : List Deferred} {w w' : World} {v u : Value}
  {ty T T2 : TypeId} {pos : String} {af : Array Edge} {gd : Option (Nat × Bool)} {x y z : Operand}
theorem r_iface (hp : ptrT P T = true) (hx : (mkA n env ds).eval x = v) : (execOp (mkA n env ds).eval ⟨some d,.makeInterface T x,ty,pos,af,gd⟩).run P w = .ok (.value (.iface T v)) w := by
  obtain ⟨e,i,hu,_⟩ := ptrT_spec hp
  simp [execOp,hx,Instr.makeInterface,run_underlying hu]
theorem s_iface (hp : ptrT P T = true) (hx : (mkA n env ds).eval x = v) (hw : Region.wanted ⟨some d,.makeInterface T x,ty,pos,af,gd⟩ (yielded ops (mkA n env ds).tmps) = true)
    (k : wpList P ops Q rest (mkA n (upd env d (.iface T v)) ds) w) : wpList P ops Q (⟨some d,.makeInterface T x,ty,pos,af,gd⟩ :: rest) (mkA n env ds) w := s_val hw (r_iface hp hx) k
theorem r_is (hp : ptrT P T = true) (hx : (mkA n env ds).eval x = .iface T v) : (execOp (mkA n env ds).eval ⟨some d,.typeAssert x T2 T true,ty,pos,af,gd⟩).run P w = .ok (.value (.tuple #[v,.bool true])) w := by
  obtain ⟨e,i,hu,_⟩ := ptrT_spec hp
  simp [execOp,hx,Instr.typeAssert,run_underlying hu]
theorem s_is (hp : ptrT P T = true) (hx : (mkA n env ds).eval x = .iface T v) (hw : Region.wanted ⟨some d,.typeAssert x T2 T true,ty,pos,af,gd⟩ (yielded ops (mkA n env ds).tmps) = true)
    (k : wpList P ops Q rest (mkA n (upd env d (.tuple #[v,.bool true])) ds) w) : wpList P ops Q (⟨some d,.typeAssert x T2 T true,ty,pos,af,gd⟩ :: rest) (mkA n env ds) w := s_val hw (r_is hp hx) k
theorem r_isnt {T3 : TypeId} (hp : ptrT P T = true) (hx : (mkA n env ds).eval x = .iface T3 v) (hne : ¬ T3 = T) : (execOp (mkA n env ds).eval ⟨some d,.typeAssert x T2 T true,ty,pos,af,gd⟩).run P w = .ok (.value (.tuple #[.pointer none,.bool false])) w := by
  obtain ⟨e,i,hu,hi,hz⟩ := ptrT_spec hp
  simp [execOp,hx,Instr.typeAssert,run_underlying hu,hne,zeroValue,typeInfo,hi,hz]
theorem s_isnt {T3 : TypeId} (hp : ptrT P T = true) (hx : (mkA n env ds).eval x = .iface T3 v) (hne : ¬ T3 = T) (hw : Region.wanted ⟨some d,.typeAssert x T2 T true,ty,pos,af,gd⟩ (yielded ops (mkA n env ds).tmps) = true)
    (k : wpList P ops Q rest (mkA n (upd env d (.tuple #[.pointer none,.bool false])) ds) w) : wpList P ops Q (⟨some d,.typeAssert x T2 T true,ty,pos,af,gd⟩ :: rest) (mkA n env ds) w := s_val hw (r_isnt hp hx hne) k
theorem r_lookup {m k : Value} (hx : (mkA n env ds).eval x = m) (hy : (mkA n env ds).eval y = k) (hr : (Instr.lookup T m k false).run P w = .ok v w) : (execOp (mkA n env ds).eval ⟨some d,.lookup T x y false,ty,pos,af,gd⟩).run P w = .ok (.value v) w := by
  simp [execOp,hx,hy,hr,Result.andThen]
theorem s_makeMap (hw : Region.wanted ⟨some d,.makeMap T none,ty,pos,af,gd⟩ (yielded ops (mkA n env ds).tmps) = true)
    (kont : ∀ w' g,NewB w g (.map #[] 0) w' → wpList P ops Q rest (mkA n (upd env d (.map (some g))) ds) w') : wpList P ops Q (⟨some d,.makeMap T none,ty,pos,af,gd⟩ :: rest) (mkA n env ds) w := by
  refine s_val hw (w' := w.alloc (.map #[] 0)) (v := .map (some w.heap.size)) ?_ (kont _ _ (newB w _))
  simp only [execOp,Option.map_none,Sem.run_bind]
  rfl
end
/-! ### the map of names -/
def keyS (s : ByteArray) : Lit := .string s.data.toList
theorem keyS_inj {a b : ByteArray} (h : keyS a = keyS b) : a = b := by
  injection h with h
  cases a; cases b
  simpa using Array.toList_inj.1 h
def DSr : List ByteArray → DataW Unit
  | [] => .map []
  | s :: l => (DSr l).put (keyS s) (.lit (.int .i64 ((l.length + 1 : Nat) : Int)))
def DS (S : List ByteArray) : DataW Unit := DSr S.reverse
theorem DS_snoc (S : List ByteArray) (v : ByteArray) : DS (S ++ [v]) = (DS S).put (keyS v) (.lit (.int .i64 ((S.length + 1 : Nat) : Int))) := by
  simp [DS,DSr]
theorem DSr_map : ∀ l,IsMap (DSr l)
  | [] => isMap_empty
  | s :: l => (DSr_map l).put _ _
theorem DSr_at (v : ByteArray) : ∀ l : List ByteArray,∃ c : Int,(DSr l).atKey (keyS v) (.lit (.int .i64 0)) = .lit (.int .i64 c) ∧ (0 < c ↔ v ∈ l)
  | [] => ⟨0,rfl,by simp⟩
  | s :: l => by
    by_cases h : s = v
    · subst h
      exact ⟨((l.length + 1 : Nat) : Int),atKey_put_same (k := keyS s) (DSr_map l) (show WideAt.IsKeyLit (Lit.string _) from trivial) _ _,by simp⟩
    · obtain ⟨c,h1,h2⟩ := DSr_at v l
      refine ⟨c,?_,by rw [h2]; simp [Ne.symm h]⟩
      show ((DSr l).put _ _).atKey _ _ = _
      rw [atKey_put_other (fun e => h (keyS_inj e).symm)]
      exact h1
section
variable {P : Program} {t1 t2 ts ti : TypeId} {wz w w' : World} {gm gl : Nat} {S : List ByteArray}
theorem omap_keep {k : TypeId} {R : Value → Option (DataW Unit × List MemPlace)} {b n : Nat} {D : DataW Unit} {X : Nat → Prop} (h : w.ownsMap P k R b n D) (kp : Keep X w w') (hn : ¬ X b) : w'.ownsMap P k R b n D := by
  obtain ⟨es,clock,h1,h2⟩ := h
  exact ⟨es,clock,Keep.blk kp h1 hn,h2⟩
theorem omap_cells {k : TypeId} {R : Value → Option (DataW Unit × List MemPlace)} {b n : Nat} {D : DataW Unit} {cs : Array Value} {t : TypeId} {fz : Nat × Nat} (h : w.ownsMap P k R b n D) (hb : w.heap[b]? = some (.cells cs t fz)) : False := by
  obtain ⟨es,clock,h1,h2⟩ := h
  rw [hb] at h1; cases h1
theorem omap_own {k : TypeId} {R : Value → Option (DataW Unit × List MemPlace)} {b n : Nat} {D : DataW Unit} {B e m n2 : Nat} {v : Value} {xs : List Value} (h : w.ownsMap P k R b n D) (ho : w.ownsRow B e m v n2 xs) : ¬ some b = v.ownBlock := by
  intro hk
  rcases ho.2 with ⟨rfl,_⟩ | ⟨g',cap,cur,rfl,hb',hh,_⟩
  · simp [Value.ownBlock] at hk
  · have : b = g' := by simpa [Value.ownBlock] using hk
    subst this
    exact omap_cells h hh
structure MapOf (P : Program) (t2 ts ti : TypeId) : Prop where
  k : P.underlying ts = some .string
  m : P.underlying t2 = some (.map ts ti)
  i : P.underlying ti = some (.int .i64)
  z : (P.info? ti).map (·.zero) = some (some (.int .i64 0))
theorem MapOf.zero (h : MapOf P t2 ts ti) (w : World) : (zeroValue ti).run P w = .ok (.int .i64 0) w := by
  obtain ⟨i,hi,hz⟩ := Option.map_eq_some_iff.1 h.z
  simp [zeroValue,typeInfo,hi,hz]
theorem omap_look (M : MapOf P t2 ts ti) {mb n : Nat} (h : w.ownsMap P ts (plainElem P ti) mb n (DS S)) {v : ByteArray} (hs : v.size ≤ 140737488351232) :
    ∃ q : Int,(0 < q ↔ inL v S = true) ∧ (-9223372036854775808 ≤ q ∧ q ≤ 9223372036854775807) ∧ ∀ w',Ext w w' → (Instr.lookup t2 (.map (some mb)) (.string v) false).run P w' = .ok (.int .i64 q) w' := by
  obtain ⟨q,h1,h2⟩ := DSr_at v S.reverse
  have hkey : keyOf P ts (.string v) = some (keyS v) := WideMaps.keyOf_string_mk M.k (by unfold maxLen; omega)
  obtain ⟨c0,_,hat0,hwf⟩ := h.lookup_int (string_keyed M.k) M.m M.i (M.zero w) hkey
  have e0 : q = c0 := by
    have := hat0.symm.trans h1
    simpa using this.symm
  subst e0
  refine ⟨q,by rw [h2,List.mem_reverse,inL_iff],?_,fun w' x => ?_⟩
  · simp only [Lit.wf,Bool.and_eq_true,decide_eq_true_eq] at hwf; exact hwf
  · obtain ⟨c,hrun,hat,_⟩ := (omap_keep h x (fun h => h)).lookup_int (string_keyed M.k) M.m M.i (M.zero w') hkey
    have : q = c := by have := hat.symm.trans h1; simpa using this.symm
    subst this
    exact hrun
/-- The closure's state: the list of names and the map of names, both made since wz. -/
structure VS (P : Program) (t1 t2 ts ti : TypeId) (wz w : World) (gm gl : Nat) (S : List ByteArray) : Prop where
  ext : Ext wz w
  gl0 : wz.heap.size ≤ gl
  gm0 : wz.heap.size ≤ gm
  st : ∃ A c mb,w.heap[gl]? = some (.cells #[.slice A S.length c] t1 (0,0)) ∧ w.heap[gm]? = some (.cells #[.map (some mb)] t2 (0,0)) ∧ w.ownsRow wz.heap.size ts 1 (.slice A S.length c) S.length (S.map Value.string) ∧ w.ownsMap P ts (plainElem P ti) mb S.length (DS S) ∧ wz.heap.size ≤ mb
theorem VS.to (h : VS P t1 t2 ts ti wz w gm gl S) (x : Ext w w') : VS P t1 t2 ts ti wz w' gm gl S := by
  obtain ⟨A,c,mb,h1,h2,h3,h4,h5⟩ := h.st
  exact ⟨Ext.trans h.ext x,h.gl0,h.gm0,A,c,mb,Ext.blk x h1,Ext.blk x h2,own_ext x h3,omap_keep h4 x (fun h => h),h5⟩
theorem VS.cast {S' : List ByteArray} (h : VS P t1 t2 ts ti wz w gm gl S) (e : S = S') : VS P t1 t2 ts ti wz w gm gl S' := e ▸ h
theorem VS.next {w1 w2 w3 : World} {A A' : Option Addr} {c c' mb : Nat} {v : ByteArray} (x : Ext wz w) (gl0 : wz.heap.size ≤ gl) (gm0 : wz.heap.size ≤ gm) (hmb : wz.heap.size ≤ mb) (h1s : ¬ t1 = ts) (h2s : ¬ t2 = ts) (h12 : ¬ t2 = t1)
    (hgl : w.heap[gl]? = some (.cells #[.slice A S.length c] t1 (0,0))) (hgm : w.heap[gm]? = some (.cells #[.map (some mb)] t2 (0,0))) (ho : w.ownsRow wz.heap.size ts 1 (.slice A S.length c) S.length (S.map Value.string))
    (k1 : Keep (fun i => some i = (Value.slice A S.length c).ownBlock) w w1) (o1 : w1.ownsRow wz.heap.size ts 1 (.slice A' (S.length + 1) c') (S.length + 1) (S.map Value.string ++ [.string v]))
    (k2 : Wrote w1 gl (.cells #[.slice A' (S.length + 1) c'] t1 (0,0)) w2) (k3 : Keep (fun i => i = mb) w2 w3) (hm : w2.ownsMap P ts (plainElem P ti) mb S.length (DS S)) (hm3 : w3.ownsMap P ts (plainElem P ti) mb (S.length + 1) ((DS S).put (keyS v) (.lit (.int .i64 ((S.length + 1 : Nat) : Int))))) :
    VS P t1 t2 ts ti wz w3 gm gl (S ++ [v]) := by
  have g1 := Keep.blk k1 hgl (own_ne ho hgl (Ne.symm h1s))
  have m1 := Keep.blk k1 hgm (own_ne ho hgm (Ne.symm h2s))
  have m2 : w2.heap[gm]? = _ := Keep.blk k2.keep m1 (fun e => by subst e; rw [m1] at g1; injection g1 with g1; injection g1 with _ g1; exact h12 g1)
  have o2 := own_wrote o1 g1 (Ne.symm h1s) k2
  have nl : ¬ gl = mb := fun e => by subst e; exact omap_cells hm k2.blk
  have nm : ¬ gm = mb := fun e => by subst e; exact omap_cells hm m2
  have e1 : (S ++ [v]).length = S.length + 1 := by simp
  refine ⟨Keep.then_ (Keep.then_ (Keep.then_ x k1 (fun i hi h => by have := own_ge ho i h; omega)) k2.keep (fun i hi h => by omega)) k3 (fun i hi h => by omega),gl0,gm0,A',c',mb,?_,Keep.blk k3 m2 nm,?_,?_,hmb⟩
  · rw [e1]; exact Keep.blk k3 k2.blk nl
  · rw [e1,List.map_append]
    exact own_move o2 fun i hi => Keep.block k3 i (own_lt o2 i hi) (fun e => by subst e; exact omap_own hm o2 hi)
  · rw [e1,DS_snoc]; exact hm3
end
section
variable {P : Program} {ops : Array Oper} {Q : Exit → Act → World → Prop} {rest : List Oper} {n d t : Nat} {env : Nat → Value} {ds : List Deferred} {w w' : World} {v u : Value}
  {ty T T2 : TypeId} {pos : String} {af : Array Edge} {gd : Option (Nat × Bool)} {x y z : Operand} {t2 ts ti : TypeId}
theorem s_mapUpdate (M : MapOf P T ts ti) {mb n0 : Nat} {S : List ByteArray} {s : ByteArray} {q : Int} (hm : (mkA n env ds).eval x = .map (some mb)) (hk : (mkA n env ds).eval y = .string s) (hv : (mkA n env ds).eval z = .int .i64 q) (hown : w.ownsMap P ts (plainElem P ti) mb n0 (DS S)) (hn : n0 ≤ 1000000) (hs : s.size ≤ 140737488351232) (hq : -9223372036854775808 ≤ q ∧ q ≤ 9223372036854775807)
    (k : ∀ w',w'.ownsMap P ts (plainElem P ti) mb (n0 + 1) ((DS S).put (keyS s) (.lit (.int .i64 q))) → Keep (fun i => i = mb) w w' → wpList P ops Q rest (mkA n env ds) w') :
    wpList P ops Q (⟨none,.mapUpdate T x y z,ty,pos,af,none⟩ :: rest) (mkA n env ds) w := by
  refine wpList_mapUpdate_own w rfl x y z T rfl ts ti (string_keyed M.k) M.m (plainElem P ti) mb n0 (DS S) hm hown (by unfold maxLen; omega) _ _ (keyS s) hk hv (WideMaps.keyOf_string_mk M.k (by unfold maxLen; omega)) _ [] (plainElem_int M.i (by simp only [Lit.wf,Bool.and_eq_true,decide_eq_true_eq]; exact hq)) ?_
  intro w' h1 h2
  show wpList P ops Q rest ((mkA n env ds).put none _) w'
  rw [put_none]
  exact k w' h1 ⟨h2.os,h2.tape,h2.output,h2.size,fun i hi hn => h2.block i hi (fun e => hn (by injection e))⟩
end
end Go.Wk

set_option linter.unusedVariables false
set_option linter.unusedSimpArgs false
namespace Go.Wk
open Go Go.RowKit Go.Lib
/-! ### rows of terms and of names that the call makes -/
def tmsC (ts : List Tm) : List Value := ts.flatMap tmCs
def OT (e B : Nat) (w : World) (A : Option Addr) (c : Nat) (ts : List Tm) : Prop := w.ownsRow B e 4 (.slice A ts.length c) ts.length (tmsC ts)
def OS (e B : Nat) (w : World) (A : Option Addr) (c : Nat) (S : List ByteArray) : Prop := w.ownsRow B e 1 (.slice A S.length c) S.length (S.map Value.string)
section
variable {e B c : Nat} {w w' : World} {A : Option Addr} {ts : List Tm} {S : List ByteArray}
theorem OT.own (h : OT e B w A c ts) : w.ownsRow B e 4 (.slice A ts.length c) ts.length (tmsC ts) := h
theorem OS.own (h : OS e B w A c S) : w.ownsRow B e 1 (.slice A S.length c) S.length (S.map Value.string) := h
theorem OT.nil : OT e B w none 0 [] := own_nil _ _ _
theorem OS.nil : OS e B w none 0 [] := own_nil _ _ _
theorem OT.ext (h : OT e B w A c ts) (x : Ext w w') : OT e B w' A c ts := own_ext x h
theorem OS.ext (h : OS e B w A c S) (x : Ext w w') : OS e B w' A c S := own_ext x h
theorem OT.cast {ts' : List Tm} (h : OT e B w A c ts) (q : ts = ts') : OT e B w A c ts' := q ▸ h
theorem OS.cast {S' : List ByteArray} (h : OS e B w A c S) (q : S = S') : OS e B w A c S' := q ▸ h
theorem OT.snoc {y : Tm} (h : w.ownsRow B e 4 (.slice A (ts.length + 1) c) (ts.length + 1) (tmsC ts ++ [.string y.v,.int .i8 y.l.k,.int .i64 y.l.n,.string y.l.s])) : OT e B w A c (ts ++ [y]) := by
  unfold OT
  have e1 : (ts ++ [y]).length = ts.length + 1 := by simp
  have e2 : tmsC (ts ++ [y]) = tmsC ts ++ [.string y.v,.int .i8 y.l.k,.int .i64 y.l.n,.string y.l.s] := by simp [tmsC,tmCs]
  rw [e1,e2]; exact h
theorem OS.snoc {v : ByteArray} (h : w.ownsRow B e 1 (.slice A (S.length + 1) c) (S.length + 1) (S.map Value.string ++ [.string v])) : OS e B w A c (S ++ [v]) := by
  unfold OS
  have e1 : (S ++ [v]).length = S.length + 1 := by simp
  have e2 : (S ++ [v]).map Value.string = S.map Value.string ++ [.string v] := by simp
  rw [e1,e2]; exact h
theorem OS.row (h : OS e B w A c S) : Row RS 1 w A S := own_rowS h
theorem tmsC_at : ∀ (ts : List Tm) (j i : Nat) (y : Tm) (u : Value),ts[j]? = some y → (tmCs y)[i]? = some u → (tmsC ts)[j * 4 + i]? = some u
  | [],j,i,y,u,h,_ => by simp at h
  | t :: ts,0,i,y,u,h,hu => by
    have : t = y := by simpa using h
    subst this
    have hi : i < (tmCs t).length := (List.getElem?_eq_some_iff.1 hu).1
    simp only [tmsC,List.flatMap_cons,Nat.zero_mul,Nat.zero_add]
    rw [List.getElem?_append_left hi]; exact hu
  | t :: ts,j + 1,i,y,u,h,hu => by
    have h' : ts[j]? = some y := by simpa using h
    have := tmsC_at ts j i y u h' hu
    simp only [tmsC,List.flatMap_cons]
    have hl : (tmCs t).length = 4 := rfl
    rw [List.getElem?_append_right (by rw [hl]; omega),hl,show (j + 1) * 4 + i - 4 = j * 4 + i by omega]
    exact this
theorem OT.row (h : OT e B w A c ts) (hw : ∀ (j : Nat) (y : Tm),ts[j]? = some y → y.wf) : Row RT 4 w A ts := by
  by_cases h0 : ts = []
  · exact .inl h0
  · have hpos : 0 < ts.length := List.length_pos_iff.2 h0
    obtain ⟨b,hA,hc⟩ := own_cells h hpos
    refine .inr ⟨b,0,hA,fun j y hy => ⟨tmCs y,⟨rfl,hw j y hy⟩,fun i u hu => ?_⟩⟩
    rw [Nat.zero_add]
    exact hc _ _ (tmsC_at ts j i y u hy hu)
end
theorem exK_all' {d i : Nat} {x : Ex} (hd : d ≠ 0) (h : x.kids.length ≤ i) : exK (d - 1) x i = exTs d x := by
  obtain ⟨d',rfl⟩ := Nat.exists_eq_succ_of_ne_zero hd; exact exK_all d' x h
theorem exK_bound {d i : Nat} {x : Ex} (h : smE d x) (hi : i < x.kids.length) : (exK (d - 1) x i).length + 2 ^ (d - 1) ≤ 2 ^ d := by
  obtain ⟨d',rfl⟩ := Nat.exists_eq_succ_of_ne_zero h.pos
  have hk := h.1
  simp only [Nat.succ_eq_add_one,Nat.add_sub_cancel,Nat.pow_succ]
  have hi2 : i = 0 ∨ i = 1 := by omega
  rcases hi2 with rfl | rfl
  · rw [exK_zero]; have : 1 ≤ 2 ^ d' := Nat.one_le_two_pow; simp; omega
  · rw [exK_step (by omega),exK_zero]
    have := exTs_len d' (x.kid 0) (h.2 0 _ (kid_there (by omega)))
    simp; omega
theorem one_pow {d : Nat} : 1 ≤ 2 ^ d := Nat.one_le_two_pow
theorem exTs_wf : ∀ (d : Nat) (x : Ex),x.t.wf → (∀ (w : World) (A : Option Addr),Row RE 6 w A x.kids → ∀ (j : Nat) (y : Tm),(exTs d x)[j]? = some y → y.wf)
  | 0,x,_,w,A,_,j,y,hy => by simp [exTs] at hy
  | d + 1,x,ht,w,A,hr,j,y,hy => by
    have hm := List.mem_of_getElem? hy
    simp only [exTs,List.mem_cons,List.mem_flatMap] at hm
    rcases hm with rfl | ⟨k,hk,hm⟩
    · exact ht
    · obtain ⟨i,hi,e⟩ := List.mem_iff_getElem.1 hk
      obtain ⟨b,o,z,cs,hA,hz,hR,_⟩ := hr.at_ i hi
      have : z = k := by rw [List.getElem?_eq_getElem hi,e] at hz; exact (Option.some.inj hz).symm
      subst this
      obtain ⟨A',c',_,ho,hr'⟩ := RE.open_ hR
      obtain ⟨j',hj',e'⟩ := List.mem_iff_getElem.1 hm
      exact exTs_wf d z ho.t w A' hr' j' y (by rw [List.getElem?_eq_getElem hj',e'])
theorem ruTs_wf {x : Ru} {w : World} {Ah Ab : Option Addr} (hh : Row RG 5 w Ah x.head) (hb : Row RL 16 w Ab x.body) : ∀ (j : Nat) (y : Tm),(ruTs x)[j]? = some y → y.wf := by
  intro j y hy
  have hm := List.mem_of_getElem? hy
  simp only [ruTs,List.mem_append,List.mem_map,List.mem_flatMap] at hm
  rcases hm with ⟨g,hg,rfl⟩ | ⟨l,hl,hm⟩
  · obtain ⟨i,hi,e⟩ := List.mem_iff_getElem.1 hg
    obtain ⟨b,o,z,cs,hA,hz,hR,_⟩ := hh.at_ i hi
    have : z = g := by rw [List.getElem?_eq_getElem hi,e] at hz; exact (Option.some.inj hz).symm
    subst this
    exact hR.2.t
  · obtain ⟨i,hi,e⟩ := List.mem_iff_getElem.1 hl
    obtain ⟨b,o,z,cs,hA,hz,hR,_⟩ := hb.at_ i hi
    have : z = l := by rw [List.getElem?_eq_getElem hi,e] at hz; exact (Option.some.inj hz).symm
    subst this
    obtain ⟨Aa,A1,A2,ca,c1,c2,_,ho,ra,r1,r2⟩ := hR
    simp only [ltTs,List.mem_append] at hm
    rcases hm with (hm | hm) | hm
    · obtain ⟨i',hi',e'⟩ := List.mem_iff_getElem.1 hm
      have := RT_wf ra hi'
      rw [tmAt_of (y := y) (by rw [List.getElem?_eq_getElem hi',e'])] at this
      exact this
    · obtain ⟨i',hi',e'⟩ := List.mem_iff_getElem.1 hm
      exact exTs_wf 8 _ ho.e1.t w A1 r1 i' y (by rw [List.getElem?_eq_getElem hi',e'])
    · obtain ⟨i',hi',e'⟩ := List.mem_iff_getElem.1 hm
      exact exTs_wf 8 _ ho.e2.t w A2 r2 i' y (by rw [List.getElem?_eq_getElem hi',e'])
theorem ruTs_len {x : Ru} (h1 : x.head.length ≤ 24) (h2 : x.body.length ≤ 16) (hb : ∀ (j : Nat) (y : Lt),x.body[j]? = some y → ltB y = true) : (ruTs x).length ≤ 8700 := by
  have := ruK_len hb x.body.length
  rw [ruK_all (Nat.le_refl _)] at this
  have h3 : x.body.length * 540 ≤ 16 * 540 := Nat.mul_le_mul_right _ h2
  omega
theorem hd_step {l : List Ag} {i : Nat} (h : i < l.length) : (l.take (i + 1)).map (·.t) = (l.take i).map (·.t) ++ [(agAt l i).t] := by
  rw [List.take_add_one,agAt_there h]; simp
theorem tk_step {l ts : List Tm} {i : Nat} (h : i < l.length) : ts ++ l.take (i + 1) = ts ++ l.take i ++ [tmAt l i] := by
  rw [List.take_add_one,tmAt_there h]; simp
theorem colL_skip {S : List ByteArray} {l : List Tm} {i : Nat} (h : S = colL [] (l.take i)) (hi : i < l.length) (hc : (tmAt l i).v = ⟨#[]⟩ ∨ (tmAt l i).v = ⟨#[95]⟩ ∨ inL (tmAt l i).v S = true) : S = colL [] (l.take (i + 1)) := by
  rw [colL_take hi,← h]; unfold colT; rw [if_pos hc]
theorem colL_new {S : List ByteArray} {l : List Tm} {i : Nat} (h : S = colL [] (l.take i)) (hi : i < l.length) (hc : ¬ ((tmAt l i).v = ⟨#[]⟩ ∨ (tmAt l i).v = ⟨#[95]⟩ ∨ inL (tmAt l i).v S = true)) : S ++ [(tmAt l i).v] = colL [] (l.take (i + 1)) := by
  rw [colL_take hi,← h]; unfold colT; rw [if_neg hc]
theorem inL_yes {v : ByteArray} {S : List ByteArray} {j : Nat} {y : ByteArray} (hj : S[j]? = some y) (h : y = v) : inL v S = true := inL_iff.2 (h ▸ List.mem_of_getElem? hj)
theorem inL_no {v : ByteArray} {S : List ByteArray} {i : Nat} (h : ∀ j y,j < i → S[j]? = some y → ¬ y = v) (hi : S.length ≤ i) : inL v S = false := by
  cases hb : inL v S with
  | false => rfl
  | true =>
    obtain ⟨j,hj,e⟩ := List.mem_iff_getElem.1 (inL_iff.1 hb)
    exact absurd e (h j _ (by omega) (List.getElem?_eq_getElem hj))
theorem not_step {l : List ByteArray} {i : Nat} {v : ByteArray} (h : ∀ j y,j < i → l[j]? = some y → ¬ y = v) (hn : ¬ sAt l i = v) (hi : i < l.length) : ∀ j y,j < i + 1 → l[j]? = some y → ¬ y = v := by
  intro j y hj hy
  rcases Nat.lt_succ_iff_lt_or_eq.1 hj with hj | rfl
  · exact h j y hj hy
  · rw [sAt_of hy] at hn; exact hn
theorem tkA {l : List Tm} {i : Nat} (h : i < l.length) : l.take i ++ [tmAt l i] = l.take (i + 1) := by
  rw [List.take_add_one,tmAt_there h]; simp
theorem omap_nil {P : Program} {k : TypeId} {R : Value → Option (DataW Unit × List MemPlace)} {b : Nat} {w : World} (h : w.heap[b]? = some (.map #[] 0)) : w.ownsMap P k R b 0 (DS []) := by
  obtain ⟨es,clock,h1,h2⟩ := World.ownsMap_made (H := Unit) w P k R
  have e1 := (newB w (.map #[] 0)).blk
  rw [e1] at h1
  cases h1
  exact ⟨_,_,h,h2⟩
end Go.Wk
