/- YtjjkfbjidpolmaaDoorDK: part of the proof of this seat, by an AI agent: walks of the functions that the law reaches. No condition of its own but those that its theorems state. -/
import Derived.Test.YtjjkfbjidpolmaaDoorDJ
set_option linter.unusedVariables false
set_option linter.unusedSimpArgs false
set_option maxRecDepth 10000
namespace Go.Proofs.Dw
open Go Go.Wk Go.Proofs Go.Lib
attribute [local irreducible] Go.wpList Go.wpStill Go.wpQuiet Go.Code.wp Go.Calls
theorem F_e22 : enterable Tryd.prog 22 = true := by kernel_rfl
theorem F_e23 : enterable Tryd.prog 23 = true := by kernel_rfl
theorem F_z85 : (Tryd.prog.info? 85).bind (·.zero) = some (.agg #[.pointer none, .slice none 0 0]) := by kernel_rfl
set_option maxHeartbeats 4000000 in
theorem p_toldE (x : Ex) (A : Option Addr) (c : Nat) (w : World) (ho : x.okc c) (hr : Row RE 6 w A x.kids) (tb : Tabs Tryd.prog w) :
    Rt Tryd.prog 22 #[.agg #[.int .i8 x.op, .string x.t.v, .int .i8 x.t.l.k, .int .i64 x.t.l.n, .string x.t.l.s, .slice A x.kids.length c], .func (.func 23) #[] #[], .func (.func 24) #[] #[]] w fun v w' => v = .tuple #[.string (if exB 8 x then exW 8 x else ⟨#[]⟩), .int .i64 (code (exB 8 x))] ∧ Ext w w' := by
  refine enter Tryd.func22 rfl (l := [.agg #[.int .i8 x.op, .string x.t.v, .int .i8 x.t.l.k, .int .i64 x.t.l.n, .string x.t.l.s, .slice A x.kids.length c], .func (.func 23) #[] #[], .func (.func 24) #[] #[]]) rfl Tryd.ntmps22 (Nat.le_of_ble_eq_true rfl) ?_
  have hl_ := Ex.okc.l ho
  have hc_ := Ex.okc.c ho
  refine c_seq ?_
  refine c_reg ?_
  refine s_box (v := .agg #[.int .i8 x.op, .string x.t.v, .int .i8 x.t.l.k, .int .i64 x.t.l.n, .string x.t.l.s, .slice A x.kids.length c]) (cs := #[.int .i8 x.op, .string x.t.v, .int .i8 x.t.l.k, .int .i64 x.t.l.n, .string x.t.l.s, .slice A x.kids.length c]) (w0 rfl) (ev_t rfl rfl) rfl ?_
  intro w2 g1 n3
  refine s_assign (v := .string (⟨#[]⟩ : ByteArray)) ev_c (w0 rfl) ?_
  refine s_assign (v := .int .i64 0) ev_c (w0 rfl) ?_
  refine c_done ?_
  refine n_then ?_
  refine c_seq ?_
  refine c_seq ?_
  refine c_reg ?_
  refine s_move (v := .func (.func 23) #[] #[]) (ev_t rfl rfl) (w0 rfl) ?_
  refine s_loadL (cs := [.int .i8 x.op, .string x.t.v, .int .i8 x.t.l.k, .int .i64 x.t.l.n, .string x.t.l.s, .slice A x.kids.length c]) (ca := #[.int .i8 x.op, .string x.t.v, .int .i8 x.t.l.k, .int .i64 x.t.l.n, .string x.t.l.s, .slice A x.kids.length c]) F_m31 (ev_t rfl rfl) rfl rfl (blk_cells (NewB.blk n3) 0 (cs := [.int .i8 x.op, .string x.t.v, .int .i8 x.t.l.k, .int .i64 x.t.l.n, .string x.t.l.s, .slice A x.kids.length c]) rfl) (w0 rfl) ?_
  refine s_call F_e23 (w0 rfl) (ev_t rfl rfl) (m1 (ev_t rfl rfl)) (args := #[.agg #[.int .i8 x.op, .string x.t.v, .int .i8 x.t.l.k, .int .i64 x.t.l.n, .string x.t.l.s, .slice A x.kids.length c]]) rfl (t_CheckExpr x A c _ ho (Row.extE hr (NewB.ext n3))) ?_
  rintro _ w5 ⟨rfl, x4⟩
  refine s_cmp (r := !(exB 8 x)) (ev_t rfl rfl) ev_c (ci_tn (b := (exB 8 x)) (by decide)) (w0 rfl) ?_
  refine c_done ?_
  refine n_then ?_
  rcases Bool.eq_false_or_eq_true (exB 8 x) with h6 | h6
  · refine c_cond0 (vb (ev_t rfl rfl) (nbt h6)) ?_
    refine c_skip ?_
    refine n_then ?_
    refine c_seq ?_
    refine c_reg ?_
    refine s_alloc (cs := #[.pointer none, .slice none 0 0]) (w0 rfl) F_z85 rfl ?_
    intro w8 g7 n9
    have bw_ : BW 5 85 w.heap.size w8 g7 ⟨#[]⟩ := BW.new n9 rfl (by decide) (Keep.size (Ext.trans (NewB.ext n3) x4))
    have hB_ := Keep.size (Ext.trans (Ext.trans (NewB.ext n3) x4) (NewB.ext n9))
    refine c_done ?_
    refine n_then ?_
    refine c_seq ?_
    refine c_reg ?_
    refine s_move (v := .func (.func 24) #[] #[]) (ev_t rfl rfl) (w0 rfl) ?_
    refine s_loadL (cs := [.int .i8 x.op, .string x.t.v, .int .i8 x.t.l.k, .int .i64 x.t.l.n, .string x.t.l.s, .slice A x.kids.length c]) (ca := #[.int .i8 x.op, .string x.t.v, .int .i8 x.t.l.k, .int .i64 x.t.l.n, .string x.t.l.s, .slice A x.kids.length c]) F_m31 (ev_t rfl rfl) rfl rfl (blk_cells (Ext.blk (NewB.ext n9) (Ext.blk x4 (NewB.blk n3))) 0 (cs := [.int .i8 x.op, .string x.t.v, .int .i8 x.t.l.k, .int .i64 x.t.l.n, .string x.t.l.s, .slice A x.kids.length c]) rfl) (w0 rfl) ?_
    refine s_call F_e24 (w0 rfl) (ev_t rfl rfl) (m2 (ev_t rfl rfl) (ev_t rfl rfl)) (args := #[.pointer (some ⟨g7, 0, none⟩), .agg #[.int .i8 x.op, .string x.t.v, .int .i8 x.t.l.k, .int .i64 x.t.l.n, .string x.t.l.s, .slice A x.kids.length c]]) rfl (p_expr g7 w (Tabs.ext tb (Ext.refl _)) 8 x A c _ ((⟨#[]⟩ : ByteArray)) (by decide) (by assumption) ho hr (Ext.trans (Ext.trans (NewB.ext n3) x4) (NewB.ext n9)) bw_ (by simp only [ByteArray.size_append, z0]; omega)) ?_
    rintro _ w10 ⟨rfl, wr11⟩
    refine c_done ?_
    refine n_then ?_
    refine c_seq ?_
    refine c_reg ?_
    refine s_field (off := 0) (o' := 0) F_f85_0 (ev_t rfl rfl) rfl (w0 rfl) ?_
    refine s_call F_e36 (w0 rfl) ev_f (m1 (ev_t rfl rfl)) (args := #[.pointer (some ⟨g7, 0, none⟩)]) rfl (b_String 85 _ g7 ((⟨#[]⟩ : ByteArray) ++ (exW 8 x)) _ (Wr.bw wr11) (Nat.le_trans hB_ (Wr.size wr11)) (by rw [nil_app]; exact exW_ne (by assumption))) ?_
    rintro _ w12 ⟨rfl, bl13⟩
    refine s_assign (v := .string ((⟨#[]⟩ : ByteArray) ++ (exW 8 x))) (ev_t rfl rfl) (w0 rfl) ?_
    refine s_assign (v := .int .i64 0) ev_c (w0 rfl) ?_
    refine c_done ?_
    refine n_then ?_
    refine c_ret ?_
    refine ret2 (v := .string ((⟨#[]⟩ : ByteArray) ++ (exW 8 x))) (v2 := .int .i64 0) rfl rfl rfl rfl rfl ?_
    refine ⟨_, rfl, ?_, (ext_bel (Wr.after wr11 (Ext.trans (Ext.trans (NewB.ext n3) x4) (NewB.ext n9)) rfl) bl13)⟩
    (simp [code, nil_app, *])
  · refine c_cond1 (vb (ev_t rfl rfl) (nbf h6)) ?_
    refine c_seq ?_
    refine c_reg ?_
    refine s_assign (v := .string (⟨#[]⟩ : ByteArray)) ev_c (w0 rfl) ?_
    refine s_assign (v := .int .i64 40) ev_c (w0 rfl) ?_
    refine c_done ?_
    refine n_then ?_
    refine c_ret ?_
    refine r_then ?_
    refine ret2 (v := .string (⟨#[]⟩ : ByteArray)) (v2 := .int .i64 40) rfl rfl rfl rfl rfl ?_
    refine ⟨_, rfl, ?_, (Ext.trans (NewB.ext n3) x4)⟩
    (simp [code, nil_app, *])
set_option maxHeartbeats 4000000 in
theorem p_Expr (x : Ex) (A : Option Addr) (c : Nat) (w : World) (ho : x.okc c) (hr : Row RE 6 w A x.kids) (tb : Tabs Tryd.prog w) :
    Rt Tryd.prog 9 #[.agg #[.int .i8 x.op, .string x.t.v, .int .i8 x.t.l.k, .int .i64 x.t.l.n, .string x.t.l.s, .slice A x.kids.length c]] w fun v w' => v = .tuple #[.string (if exB 8 x then exW 8 x else ⟨#[]⟩), .int .i64 (code (exB 8 x))] ∧ Ext w w' := by
  refine enter Tryd.func9 rfl (l := [.agg #[.int .i8 x.op, .string x.t.v, .int .i8 x.t.l.k, .int .i64 x.t.l.n, .string x.t.l.s, .slice A x.kids.length c]]) rfl Tryd.ntmps9 (Nat.le_of_ble_eq_true rfl) ?_
  have hl_ := Ex.okc.l ho
  have hc_ := Ex.okc.c ho
  refine c_seq ?_
  refine c_reg ?_
  refine s_box (v := .agg #[.int .i8 x.op, .string x.t.v, .int .i8 x.t.l.k, .int .i64 x.t.l.n, .string x.t.l.s, .slice A x.kids.length c]) (cs := #[.int .i8 x.op, .string x.t.v, .int .i8 x.t.l.k, .int .i64 x.t.l.n, .string x.t.l.s, .slice A x.kids.length c]) (w0 rfl) (ev_t rfl rfl) rfl ?_
  intro w2 g1 n3
  refine s_assign (v := .string (⟨#[]⟩ : ByteArray)) ev_c (w0 rfl) ?_
  refine s_assign (v := .int .i64 0) ev_c (w0 rfl) ?_
  refine c_done ?_
  refine n_then ?_
  refine c_seq ?_
  refine c_reg ?_
  refine s_loadL (cs := [.int .i8 x.op, .string x.t.v, .int .i8 x.t.l.k, .int .i64 x.t.l.n, .string x.t.l.s, .slice A x.kids.length c]) (ca := #[.int .i8 x.op, .string x.t.v, .int .i8 x.t.l.k, .int .i64 x.t.l.n, .string x.t.l.s, .slice A x.kids.length c]) F_m31 (ev_t rfl rfl) rfl rfl (blk_cells (NewB.blk n3) 0 (cs := [.int .i8 x.op, .string x.t.v, .int .i8 x.t.l.k, .int .i64 x.t.l.n, .string x.t.l.s, .slice A x.kids.length c]) rfl) (w0 rfl) ?_
  refine s_call F_e22 (w0 rfl) ev_f (m3 (ev_t rfl rfl) ev_f ev_f) (args := #[.agg #[.int .i8 x.op, .string x.t.v, .int .i8 x.t.l.k, .int .i64 x.t.l.n, .string x.t.l.s, .slice A x.kids.length c], .func (.func 23) #[] #[], .func (.func 24) #[] #[]]) rfl (p_toldE x A c _ ho (Row.extE hr (NewB.ext n3)) (Tabs.ext tb (NewB.ext n3))) ?_
  rintro _ w5 ⟨rfl, x4⟩
  refine s_extract (v := .string (if exB 8 x then exW 8 x else ⟨#[]⟩)) (ev_t rfl rfl) rfl (w0 rfl) ?_
  refine s_extract (v := .int .i64 (code (exB 8 x))) (ev_t rfl rfl) rfl (w0 rfl) ?_
  refine s_assign (v := .string (if exB 8 x then exW 8 x else ⟨#[]⟩)) (ev_t rfl rfl) (w0 rfl) ?_
  refine s_assign (v := .int .i64 (code (exB 8 x))) (ev_t rfl rfl) (w0 rfl) ?_
  refine c_done ?_
  refine n_then ?_
  refine c_ret ?_
  refine ret2 (v := .string (if exB 8 x then exW 8 x else ⟨#[]⟩)) (v2 := .int .i64 (code (exB 8 x))) rfl rfl rfl rfl rfl ?_
  refine ⟨_, rfl, ?_, (Ext.trans (NewB.ext n3) x4)⟩
  rfl
end Go.Proofs.Dw
