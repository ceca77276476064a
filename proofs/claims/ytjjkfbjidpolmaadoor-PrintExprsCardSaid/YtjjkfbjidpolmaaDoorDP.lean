/- YtjjkfbjidpolmaaDoorDP: part of the proof of this seat, by an AI agent: walks of the functions that the law reaches. No condition of its own but those that its theorems state. -/
import Derived.Test.YtjjkfbjidpolmaaDoorDO
set_option linter.unusedVariables false
set_option linter.unusedSimpArgs false
set_option maxRecDepth 10000
namespace Go.Proofs.Dw
open Go Go.Wk Go.Proofs Go.Lib
attribute [local irreducible] Go.wpList Go.wpStill Go.wpQuiet Go.Code.wp Go.Calls
theorem F_e10 : enterable Tryd.prog 10 = true := by kernel_rfl
theorem F_e25 : enterable Tryd.prog 25 = true := by kernel_rfl
theorem F_e53 : enterable Tryd.prog 53 = true := by kernel_rfl
set_option maxHeartbeats 4000000 in
theorem l_LeftExprs_of (x : Ex) (A : Option Addr) (c : Nat) (b lo : Nat) (w : World) (tw : TwE lo w b x.kids) (ho : x.okc c) (hr : Row RE 6 w A x.kids) (tb : Tabs Tryd.prog w) (ih : ∀ (j : Nat) (y : Ex), x.kids[j]? = some y → ∀ (b lo : Nat) (A : Option Addr) (c : Nat) (w : World), TwE lo w b y.kids → y.okc c → Row RE 6 w A y.kids → Tabs Tryd.prog w → Rt Tryd.prog 10 #[.agg #[.int .i8 y.op, .string y.t.v, .int .i8 y.t.l.k, .int .i64 y.t.l.n, .string y.t.l.s, .slice (some ⟨b, 0, none⟩) y.kids.length (y.kids.length + 1)], .agg #[.int .i8 y.op, .string y.t.v, .int .i8 y.t.l.k, .int .i64 y.t.l.n, .string y.t.l.s, .slice A y.kids.length c]] w fun v w' => v = .bool true ∧ Ext w w') :
    Rt Tryd.prog 25 #[.slice (some ⟨b, 0, none⟩) x.kids.length (x.kids.length + 1), .slice A x.kids.length c] w fun v w' => v = .bool true ∧ Ext w w' := by
  refine enter Tryd.func25 rfl (l := [.slice (some ⟨b, 0, none⟩) x.kids.length (x.kids.length + 1), .slice A x.kids.length c]) rfl Tryd.ntmps25 (Nat.le_of_ble_eq_true rfl) ?_
  have hl_ := Ex.okc.l ho
  have hc_ := Ex.okc.c ho
  refine c_seq ?_
  refine c_reg ?_
  refine s_assign (v := .bool false) ev_c (w0 rfl) ?_
  refine c_done ?_
  refine n_then ?_
  refine c_seq ?_
  refine c_seq ?_
  refine c_reg ?_
  refine s_move (v := .slice (some ⟨b, 0, none⟩) x.kids.length (x.kids.length + 1)) (ev_t rfl rfl) (w0 rfl) ?_
  refine s_lenL F_l29 (ev_t rfl rfl) (w0 rfl) ?_
  refine s_move (v := .slice A x.kids.length c) (ev_t rfl rfl) (w0 rfl) ?_
  refine s_lenL F_l29 (ev_t rfl rfl) (w0 rfl) ?_
  refine s_cmp (r := false) (ev_t rfl rfl) (ev_t rfl rfl) (cmpI_selfn _) (w0 rfl) ?_
  refine c_done ?_
  refine n_then ?_
  refine c_cond0 (ev_t rfl rfl) ?_
  refine c_skip ?_
  refine n_then ?_
  refine c_seq ?_
  refine c_seq ?_
  refine c_reg ?_
  refine s_assign (v := .int .i64 0) ev_c (w0 rfl) ?_
  refine c_done ?_
  refine n_then ?_
  refine c_block ?_
  refine c_loop (α := Nat) (fun (i : Nat) env_ w_ => Ext w w_ ∧ i ≤ x.kids.length ∧ env_ 0 = .slice (some ⟨b, 0, none⟩) x.kids.length (x.kids.length + 1) ∧ env_ 1 = .slice A x.kids.length c ∧ env_ 5 = .int .i64 ((i : Nat) : Int)) (fun i => x.kids.length - i) (0) ⟨Ext.refl _, Nat.zero_le _, rfl, rfl, rfl⟩ ?_
  rintro i env3 w1 ⟨x2, i4, e5, e6, e7⟩
  refine c_seq ?_
  refine c_seq ?_
  refine c_reg ?_
  refine s_move (v := .int .i64 ((i : Nat) : Int)) (ev_t rfl e7) (w0 rfl) ?_
  refine s_move (v := .slice A x.kids.length c) (ev_t rfl e6) (w0 rfl) ?_
  refine s_lenL F_l29 (ev_t rfl rfl) (w0 rfl) ?_
  refine s_cmp (r := decide (((i : Nat) : Int) < (x.kids.length : Int))) (ev_t rfl rfl) (ev_t rfl rfl) rfl (w0 rfl) ?_
  refine c_done ?_
  refine n_then ?_
  by_cases h8 : ((i : Nat) : Int) < (x.kids.length : Int)
  · refine c_cond1 (vb (ev_t rfl rfl) (decide_eq_true h8)) ?_
    refine c_skip ?_
    refine n_then ?_
    refine c_seq ?_
    refine c_block ?_
    refine c_seq ?_
    refine c_quiet mixed (by kernel_rfl) ?_
    refine q_val (v := .slice (some ⟨b, 0, none⟩) x.kids.length (x.kids.length + 1)) (w0 rfl) (fun w_ c_ => r_move (v := .slice (some ⟨b, 0, none⟩) x.kids.length (x.kids.length + 1)) (ev_t rfl e5)) ?_
    refine q_val (v := .int .i64 ((i : Nat) : Int)) (w0 rfl) (fun w_ c_ => r_move (v := .int .i64 ((i : Nat) : Int)) (ev_t rfl e7)) ?_
    obtain ⟨l9, hle10, hc11⟩ := TwE.row tw i (x.kid i) (kid_there (by omega))
    obtain ⟨b12, rfl, tw13⟩ := LE.open_ hle10
    refine q_val (v := .pointer (some ⟨b, 0 + i * 6, none⟩)) (w0 rfl) (fun w_ c_ => r_indexR (j := i) F_l29 (ev_t rfl rfl) rfl (ev_t rfl rfl) rfl (by omega)) ?_
    refine q_val (v := .agg #[.int .i8 ((x.kid i).op), .string ((x.kid i).t.v), .int .i8 ((x.kid i).t.l.k), .int .i64 ((x.kid i).t.l.n), .string ((x.kid i).t.l.s), .slice (some ⟨b12, 0, none⟩) ((x.kid i).kids.length) ((x.kid i).kids.length + 1)]) (w0 rfl) (fun w_ c_ => r_loadL (cs := [.int .i8 ((x.kid i).op), .string ((x.kid i).t.v), .int .i8 ((x.kid i).t.l.k), .int .i64 ((x.kid i).t.l.n), .string ((x.kid i).t.l.s), .slice (some ⟨b12, 0, none⟩) ((x.kid i).kids.length) ((x.kid i).kids.length + 1)]) (ca := #[.int .i8 ((x.kid i).op), .string ((x.kid i).t.v), .int .i8 ((x.kid i).t.l.k), .int .i64 ((x.kid i).t.l.n), .string ((x.kid i).t.l.s), .slice (some ⟨b12, 0, none⟩) ((x.kid i).kids.length) ((x.kid i).kids.length + 1)]) F_m31 (ev_t rfl rfl) rfl rfl (sub_cells (cells_ext c_ (cells_ext x2 hc11)) 0 (cs2 := [.int .i8 ((x.kid i).op), .string ((x.kid i).t.v), .int .i8 ((x.kid i).t.l.k), .int .i64 ((x.kid i).t.l.n), .string ((x.kid i).t.l.s), .slice (some ⟨b12, 0, none⟩) ((x.kid i).kids.length) ((x.kid i).kids.length + 1)]) rfl)) ?_
    refine q_val (v := .slice A x.kids.length c) (w0 rfl) (fun w_ c_ => r_move (v := .slice A x.kids.length c) (ev_t rfl e6)) ?_
    refine q_val (v := .int .i64 ((i : Nat) : Int)) (w0 rfl) (fun w_ c_ => r_move (v := .int .i64 ((i : Nat) : Int)) (ev_t rfl e7)) ?_
    obtain ⟨b14, o15, x16, csx16, hA17, hx18, hR19, hc20⟩ := Row.at_ hr i (by omega)
    obtain rfl := Ex.kid_of hx18
    obtain ⟨A21, c22, rfl, ho23, hr24⟩ := RE.open_ hR19
    refine q_val (v := .pointer (some ⟨b14, o15 + i * 6, none⟩)) (w0 rfl) (fun w_ c_ => r_indexR (j := i) F_l29 (ev_t rfl rfl) hA17 (ev_t rfl rfl) rfl (by omega)) ?_
    refine q_val (v := .agg #[.int .i8 ((x.kid i).op), .string ((x.kid i).t.v), .int .i8 ((x.kid i).t.l.k), .int .i64 ((x.kid i).t.l.n), .string ((x.kid i).t.l.s), .slice A21 ((x.kid i).kids.length) c22]) (w0 rfl) (fun w_ c_ => r_loadL (cs := [.int .i8 ((x.kid i).op), .string ((x.kid i).t.v), .int .i8 ((x.kid i).t.l.k), .int .i64 ((x.kid i).t.l.n), .string ((x.kid i).t.l.s), .slice A21 ((x.kid i).kids.length) c22]) (ca := #[.int .i8 ((x.kid i).op), .string ((x.kid i).t.v), .int .i8 ((x.kid i).t.l.k), .int .i64 ((x.kid i).t.l.n), .string ((x.kid i).t.l.s), .slice A21 ((x.kid i).kids.length) c22]) F_m31 (ev_t rfl rfl) rfl rfl (sub_cells (cells_ext c_ (cells_ext x2 hc20)) 0 (cs2 := [.int .i8 ((x.kid i).op), .string ((x.kid i).t.v), .int .i8 ((x.kid i).t.l.k), .int .i64 ((x.kid i).t.l.n), .string ((x.kid i).t.l.s), .slice A21 ((x.kid i).kids.length) c22]) rfl)) ?_
    refine q_call (v := .bool true) F_e10 (w0 rfl) ev_f (m2 (ev_t rfl rfl) (ev_t rfl rfl)) (args := #[.agg #[.int .i8 ((x.kid i).op), .string ((x.kid i).t.v), .int .i8 ((x.kid i).t.l.k), .int .i64 ((x.kid i).t.l.n), .string ((x.kid i).t.l.s), .slice (some ⟨b12, 0, none⟩) ((x.kid i).kids.length) ((x.kid i).kids.length + 1)], .agg #[.int .i8 ((x.kid i).op), .string ((x.kid i).t.v), .int .i8 ((x.kid i).t.l.k), .int .i64 ((x.kid i).t.l.n), .string ((x.kid i).t.l.s), .slice A21 ((x.kid i).kids.length) c22]]) rfl (fun w_ c_ => Rt.mono (ih i (x.kid i) (kid_there (x := x) (j := i) (by omega)) b12 _ A21 c22 _ (TwE.ext (TwE.ext tw13 x2) c_) ho23 (Row.extE (Row.extE hr24 x2) c_) (Tabs.ext tb (Ext.trans x2 c_))) (fun v_ w2_ h_ => ⟨h_.1, Ext.trans c_ h_.2⟩)) ?_
    refine q_val (v := .bool false) (w0 rfl) (fun w_ c_ => r_not (b := true) (ev_t rfl rfl)) ?_
    refine q_done ?_
    intro w25 x26
    refine n_then ?_
    refine c_cond0 (ev_t rfl rfl) ?_
    refine c_skip ?_
    refine n_block ?_
    refine n_then ?_
    refine c_reg ?_
    refine s_move (v := .int .i64 ((i : Nat) : Int)) (ev_t rfl e7) (w0 rfl) ?_
    refine s_add (r := ((i + 1 : Nat) : Int)) (ev_t rfl rfl) ev_c (by omega) (by omega) (w0 rfl) ?_
    refine s_assign (v := .int .i64 ((i + 1 : Nat) : Int)) (ev_t rfl rfl) (w0 rfl) ?_
    refine c_done ?_
    exact ⟨(i + 1), _, rfl, ⟨(Ext.trans x2 x26), by omega, e5, e6, rfl⟩, (show x.kids.length - (i + 1) < x.kids.length - i by omega)⟩
  · refine c_cond0 (vb (ev_t rfl rfl) (decide_eq_false h8)) ?_
    refine c_exit ?_
    refine e_then ?_
    refine e_then ?_
    refine e_hit ?_
    refine n_then ?_
    refine c_seq ?_
    refine c_reg ?_
    refine s_move (v := .slice (some ⟨b, 0, none⟩) x.kids.length (x.kids.length + 1)) (ev_t rfl e5) (w0 rfl) ?_
    refine s_move (v := .slice A x.kids.length c) (ev_t rfl e6) (w0 rfl) ?_
    refine s_lenL F_l29 (ev_t rfl rfl) (w0 rfl) ?_
    refine s_add (r := ((x.kids.length + 1 : Nat) : Int)) (ev_t rfl rfl) ev_c (by omega) (by omega) (w0 rfl) ?_
    refine s_sliceH (h := x.kids.length + 1) F_uE29 F_iE29 (ev_t rfl rfl) (ev_t rfl rfl) (by omega) (w0 rfl) ?_
    refine s_move (v := .slice A x.kids.length c) (ev_t rfl e6) (w0 rfl) ?_
    refine s_lenL F_l29 (ev_t rfl rfl) (w0 rfl) ?_
    refine s_indexR (j := x.kids.length) F_l29 (ev_t rfl rfl) rfl (ev_t rfl rfl) rfl (by omega) (w0 rfl) ?_
    refine s_loadL (cs := [.int .i8 99, .string ((⟨#[35]⟩ : ByteArray) ++ itoaB 777777), .int .i8 0, .int .i64 0, .string (⟨#[]⟩ : ByteArray), .slice none 0 0]) (ca := #[.int .i8 99, .string ((⟨#[35]⟩ : ByteArray) ++ itoaB 777777), .int .i8 0, .int .i64 0, .string (⟨#[]⟩ : ByteArray), .slice none 0 0]) F_m31 (ev_t rfl rfl) rfl rfl (sub_cells (cells_ext x2 (TwE.mark tw)) 0 (cs2 := [.int .i8 99, .string ((⟨#[35]⟩ : ByteArray) ++ itoaB 777777), .int .i8 0, .int .i64 0, .string (⟨#[]⟩ : ByteArray), .slice none 0 0]) rfl) (w0 rfl) ?_
    refine s_call F_e53 (w0 rfl) ev_f (m2 (ev_t rfl rfl) ev_c) (args := #[.agg #[.int .i8 99, .string ((⟨#[35]⟩ : ByteArray) ++ itoaB 777777), .int .i8 0, .int .i64 0, .string (⟨#[]⟩ : ByteArray), .slice none 0 0], .int .i64 777777]) rfl (l_isExpr 777777 _ (Tabs.ext tb x2) (by omega)) ?_
    rintro _ w28 ⟨rfl, x27⟩
    refine s_assign (v := .bool true) (ev_t rfl rfl) (w0 rfl) ?_
    refine c_done ?_
    refine n_then ?_
    refine c_ret ?_
    refine ret1 (v := .bool true) rfl rfl rfl ?_
    refine ⟨_, rfl, ?_, (Ext.trans x2 x27)⟩
    rfl
set_option maxHeartbeats 4000000 in
theorem l_LeftExpr_of (x : Ex) (A : Option Addr) (c : Nat) (b lo : Nat) (w : World) (tw : TwE lo w b x.kids) (ho : x.okc c) (hr : Row RE 6 w A x.kids) (tb : Tabs Tryd.prog w) (hlf : ∀ {w : World}, Tabs Tryd.prog w → TwE lo w b x.kids → Row RE 6 w A x.kids → Rt Tryd.prog 25 #[.slice (some ⟨b, 0, none⟩) x.kids.length (x.kids.length + 1), .slice A x.kids.length c] w fun v w' => v = .bool true ∧ Ext w w') :
    Rt Tryd.prog 10 #[.agg #[.int .i8 x.op, .string x.t.v, .int .i8 x.t.l.k, .int .i64 x.t.l.n, .string x.t.l.s, .slice (some ⟨b, 0, none⟩) x.kids.length (x.kids.length + 1)], .agg #[.int .i8 x.op, .string x.t.v, .int .i8 x.t.l.k, .int .i64 x.t.l.n, .string x.t.l.s, .slice A x.kids.length c]] w fun v w' => v = .bool true ∧ Ext w w' := by
  refine enter Tryd.func10 rfl (l := [.agg #[.int .i8 x.op, .string x.t.v, .int .i8 x.t.l.k, .int .i64 x.t.l.n, .string x.t.l.s, .slice (some ⟨b, 0, none⟩) x.kids.length (x.kids.length + 1)], .agg #[.int .i8 x.op, .string x.t.v, .int .i8 x.t.l.k, .int .i64 x.t.l.n, .string x.t.l.s, .slice A x.kids.length c]]) rfl Tryd.ntmps10 (Nat.le_of_ble_eq_true rfl) ?_
  have hl_ := Ex.okc.l ho
  have hc_ := Ex.okc.c ho
  refine c_seq ?_
  refine c_reg ?_
  refine s_box (v := .agg #[.int .i8 x.op, .string x.t.v, .int .i8 x.t.l.k, .int .i64 x.t.l.n, .string x.t.l.s, .slice (some ⟨b, 0, none⟩) x.kids.length (x.kids.length + 1)]) (cs := #[.int .i8 x.op, .string x.t.v, .int .i8 x.t.l.k, .int .i64 x.t.l.n, .string x.t.l.s, .slice (some ⟨b, 0, none⟩) x.kids.length (x.kids.length + 1)]) (w0 rfl) (ev_t rfl rfl) rfl ?_
  intro w2 g1 n3
  refine s_box (v := .agg #[.int .i8 x.op, .string x.t.v, .int .i8 x.t.l.k, .int .i64 x.t.l.n, .string x.t.l.s, .slice A x.kids.length c]) (cs := #[.int .i8 x.op, .string x.t.v, .int .i8 x.t.l.k, .int .i64 x.t.l.n, .string x.t.l.s, .slice A x.kids.length c]) (w0 rfl) (ev_t rfl rfl) rfl ?_
  intro w5 g4 n6
  refine s_assign (v := .bool false) ev_c (w0 rfl) ?_
  refine c_done ?_
  refine n_then ?_
  refine c_seq ?_
  refine c_reg ?_
  refine s_field (off := 0) (o' := 0) F_f31_0 (ev_t rfl rfl) rfl (w0 rfl) ?_
  refine s_load (v := .int .i8 x.op) F_o23 (ev_t rfl rfl) (cell_of_blk (i := 0) (Ext.blk (NewB.ext n6) (NewB.blk n3)) rfl) (w0 rfl) ?_
  refine s_field (off := 0) (o' := 0) F_f31_0 (ev_t rfl rfl) rfl (w0 rfl) ?_
  refine s_load (v := .int .i8 x.op) F_o23 (ev_t rfl rfl) (cell_of_blk (i := 0) (NewB.blk n6) rfl) (w0 rfl) ?_
  refine s_cmp (r := true) (ev_t rfl rfl) (ev_t rfl rfl) (cmpI_self _) (w0 rfl) ?_
  refine s_move (v := .bool true) (ev_t rfl rfl) (w0 rfl) ?_
  refine s_field (off := 1) (o' := 1) F_f31_1 (ev_t rfl rfl) rfl (wy rfl rfl rfl rfl) ?_
  refine s_loadL (cs := [.string x.t.v, .int .i8 x.t.l.k, .int .i64 x.t.l.n, .string x.t.l.s]) (ca := #[.string x.t.v, .int .i8 x.t.l.k, .int .i64 x.t.l.n, .string x.t.l.s]) F_m28 (ev_t rfl rfl) rfl rfl (blk_cells (Ext.blk (NewB.ext n6) (NewB.blk n3)) 1 (cs := [.string x.t.v, .int .i8 x.t.l.k, .int .i64 x.t.l.n, .string x.t.l.s]) rfl) (wy rfl rfl rfl rfl) ?_
  refine s_field (off := 1) (o' := 1) F_f31_1 (ev_t rfl rfl) rfl (wy rfl rfl rfl rfl) ?_
  refine s_loadL (cs := [.string x.t.v, .int .i8 x.t.l.k, .int .i64 x.t.l.n, .string x.t.l.s]) (ca := #[.string x.t.v, .int .i8 x.t.l.k, .int .i64 x.t.l.n, .string x.t.l.s]) F_m28 (ev_t rfl rfl) rfl rfl (blk_cells (NewB.blk n6) 1 (cs := [.string x.t.v, .int .i8 x.t.l.k, .int .i64 x.t.l.n, .string x.t.l.s]) rfl) (wy rfl rfl rfl rfl) ?_
  refine s_cmpG (r := true) (ev_t rfl rfl) (ev_t rfl rfl) ((fun w_ => eqs28 x.t.v x.t.l.k x.t.l.n x.t.l.s _ _ w_)) (wy rfl rfl rfl rfl) ?_
  refine s_pick1 (v := .bool true) (ev_t rfl rfl) (ev_t rfl rfl) (w0 rfl) ?_
  refine s_move (v := .bool true) (ev_t rfl rfl) (w0 rfl) ?_
  refine s_field (off := 5) (o' := 5) F_f31_2 (ev_t rfl rfl) rfl (wy rfl rfl rfl rfl) ?_
  refine s_load (v := .slice (some ⟨b, 0, none⟩) x.kids.length (x.kids.length + 1)) F_o29 (ev_t rfl rfl) (cell_of_blk (i := 5) (Ext.blk (NewB.ext n6) (NewB.blk n3)) rfl) (wy rfl rfl rfl rfl) ?_
  refine s_field (off := 5) (o' := 5) F_f31_2 (ev_t rfl rfl) rfl (wy rfl rfl rfl rfl) ?_
  refine s_load (v := .slice A x.kids.length c) F_o29 (ev_t rfl rfl) (cell_of_blk (i := 5) (NewB.blk n6) rfl) (wy rfl rfl rfl rfl) ?_
  refine s_call F_e25 (wy rfl rfl rfl rfl) ev_f (m2 (ev_t rfl rfl) (ev_t rfl rfl)) (args := #[.slice (some ⟨b, 0, none⟩) x.kids.length (x.kids.length + 1), .slice A x.kids.length c]) rfl (hlf (Tabs.ext tb (Ext.trans (NewB.ext n3) (NewB.ext n6))) (TwE.ext (TwE.ext tw (NewB.ext n3)) (NewB.ext n6)) (Row.extE (Row.extE hr (NewB.ext n3)) (NewB.ext n6))) ?_
  rintro _ w8 ⟨rfl, x7⟩
  refine s_pick1 (v := .bool true) (ev_t rfl rfl) (ev_t rfl rfl) (w0 rfl) ?_
  refine s_assign (v := .bool true) (ev_t rfl rfl) (w0 rfl) ?_
  refine c_done ?_
  refine n_then ?_
  refine c_ret ?_
  refine ret1 (v := .bool true) rfl rfl rfl ?_
  refine ⟨_, rfl, ?_, (Ext.trans (Ext.trans (NewB.ext n3) (NewB.ext n6)) x7)⟩
  rfl
theorem l_LeftExpr : ∀ (k : Nat) (x : Ex), SizeOf.sizeOf x < k → ∀ (b lo : Nat) (A : Option Addr) (c : Nat) (w : World), TwE lo w b x.kids → x.okc c → Row RE 6 w A x.kids → Tabs Tryd.prog w → Rt Tryd.prog 10 #[.agg #[.int .i8 x.op, .string x.t.v, .int .i8 x.t.l.k, .int .i64 x.t.l.n, .string x.t.l.s, .slice (some ⟨b, 0, none⟩) x.kids.length (x.kids.length + 1)], .agg #[.int .i8 x.op, .string x.t.v, .int .i8 x.t.l.k, .int .i64 x.t.l.n, .string x.t.l.s, .slice A x.kids.length c]] w fun v w' => v = .bool true ∧ Ext w w' := by
  intro k
  induction k with
  | zero => intro x h; omega
  | succ k ih =>
    intro x hk b lo A c w tw ho hr tb
    exact l_LeftExpr_of x A c b lo w tw ho hr tb (fun {w} tb tw hr => l_LeftExprs_of x A c b lo w tw ho hr tb (fun j y hy b lo A c w tw ho hr tb => ih y (by have := Ex.kid_lt hy; omega) b lo A c w tw ho hr tb))
end Go.Proofs.Dw
