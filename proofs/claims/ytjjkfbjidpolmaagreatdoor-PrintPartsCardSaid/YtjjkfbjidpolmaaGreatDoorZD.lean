/- YtjjkfbjidpolmaaGreatDoorZD: part of the proof of this seat, by an AI agent: walks of the functions that the law reaches; walks of the functions that the law reaches; walks of the functions that the law reaches. No condition of its own but those that its theorems state. -/
import Derived.Test.YtjjkfbjidpolmaaGreatDoorZC
set_option linter.unusedVariables false
set_option linter.unusedSimpArgs false
set_option maxRecDepth 10000
namespace Go.Proofs.Zw
open Go Go.Wk Go.Proofs Go.Lib
attribute [local irreducible] Go.wpList Go.wpStill Go.wpQuiet Go.Code.wp Go.Calls
theorem F_e115 : enterable Tryz.prog 115 = true := by kernel_rfl
theorem F_e42 : enterable Tryz.prog 42 = true := by kernel_rfl
theorem F_e82 : enterable Tryz.prog 82 = true := by kernel_rfl
set_option maxHeartbeats 4000000 in
theorem l_LeftExprs_of (x : Ex) (A : Option Addr) (c : Nat) (b lo : Nat) (w : World) (tw : TwE lo w b x.kids) (ho : x.okc c) (hr : Row RE 6 w A x.kids) (tb : Tabs Tryz.prog w) (ih : ∀ (j : Nat) (y : Ex), x.kids[j]? = some y → ∀ (b lo : Nat) (A : Option Addr) (c : Nat) (w : World), TwE lo w b y.kids → y.okc c → Row RE 6 w A y.kids → Tabs Tryz.prog w → Rt Tryz.prog 42 #[.agg #[.int .i8 y.op, .string y.t.v, .int .i8 y.t.l.k, .int .i64 y.t.l.n, .string y.t.l.s, .slice (some ⟨b, 0, none⟩) y.kids.length (y.kids.length + 1)], .agg #[.int .i8 y.op, .string y.t.v, .int .i8 y.t.l.k, .int .i64 y.t.l.n, .string y.t.l.s, .slice A y.kids.length c]] w fun v w' => v = .bool true ∧ Ext w w') :
    Rt Tryz.prog 82 #[.slice (some ⟨b, 0, none⟩) x.kids.length (x.kids.length + 1), .slice A x.kids.length c] w fun v w' => v = .bool true ∧ Ext w w' := by
  refine enter Tryz.func82 rfl (l := [.slice (some ⟨b, 0, none⟩) x.kids.length (x.kids.length + 1), .slice A x.kids.length c]) rfl Tryz.ntmps82 (Nat.le_of_ble_eq_true rfl) ?_
  have hl_ := Ex.okc.l ho
  have hc_ := Ex.okc.c ho
  refine c_seq (c_reg ?_)
  refine s_assign (v := .bool false) ev_c (w0 rfl) ?_
  refine c_done (n_then (c_seq (c_seq (c_reg ?_))))
  refine s_move (v := .slice (some ⟨b, 0, none⟩) x.kids.length (x.kids.length + 1)) (ev_t rfl rfl) (w0 rfl) ?_
  refine s_lenL F_l34 (ev_t rfl rfl) (w0 rfl) ?_
  refine s_move (v := .slice A x.kids.length c) (ev_t rfl rfl) (w0 rfl) ?_
  refine s_lenL F_l34 (ev_t rfl rfl) (w0 rfl) ?_
  refine s_cmp (r := false) (ev_t rfl rfl) (ev_t rfl rfl) (cmpI_selfn _) (w0 rfl) ?_
  refine c_done (n_then ?_)
  refine c_cond0 (ev_t rfl rfl) ?_
  refine c_skip (n_then (c_seq (c_seq (c_reg ?_))))
  refine s_assign (v := .int .i64 0) ev_c (w0 rfl) ?_
  refine c_done (n_then (c_block ?_))
  refine c_loop (α := Nat) (fun (i : Nat) env_ w_ => Ext w w_ ∧ i ≤ x.kids.length ∧ env_ 0 = .slice (some ⟨b, 0, none⟩) x.kids.length (x.kids.length + 1) ∧ env_ 1 = .slice A x.kids.length c ∧ env_ 5 = .int .i64 ((i : Nat) : Int)) (fun i => x.kids.length - i) (0) ⟨Ext.refl _, Nat.zero_le _, rfl, rfl, rfl⟩ ?_
  rintro i env3 w1 ⟨x2, i4, e5, e6, e7⟩
  refine c_seq (c_seq (c_reg ?_))
  refine s_move (v := .int .i64 ((i : Nat) : Int)) (ev_t rfl e7) (w0 rfl) ?_
  refine s_move (v := .slice A x.kids.length c) (ev_t rfl e6) (w0 rfl) ?_
  refine s_lenL F_l34 (ev_t rfl rfl) (w0 rfl) ?_
  refine s_cmp (r := decide (((i : Nat) : Int) < (x.kids.length : Int))) (ev_t rfl rfl) (ev_t rfl rfl) rfl (w0 rfl) ?_
  refine c_done (n_then ?_)
  by_cases h8 : ((i : Nat) : Int) < (x.kids.length : Int)
  · refine c_cond1 (vb (ev_t rfl rfl) (decide_eq_true h8)) ?_
    refine c_skip (n_then (c_seq (c_block (c_seq ?_))))
    refine c_quiet mixed (by kernel_rfl) ?_
    refine q_val (v := .slice (some ⟨b, 0, none⟩) x.kids.length (x.kids.length + 1)) (w0 rfl) (fun w_ c_ => r_move (v := .slice (some ⟨b, 0, none⟩) x.kids.length (x.kids.length + 1)) (ev_t rfl e5)) ?_
    refine q_val (v := .int .i64 ((i : Nat) : Int)) (w0 rfl) (fun w_ c_ => r_move (v := .int .i64 ((i : Nat) : Int)) (ev_t rfl e7)) ?_
    obtain ⟨l9, hle10, hc11⟩ := TwE.row tw i (x.kid i) (kid_there (by omega))
    obtain ⟨b12, rfl, tw13⟩ := LE.open_ hle10
    refine q_val (v := .pointer (some ⟨b, 0 + i * 6, none⟩)) (w0 rfl) (fun w_ c_ => r_indexR (j := i) F_l34 (ev_t rfl rfl) rfl (ev_t rfl rfl) rfl (by omega)) ?_
    refine q_val (v := .agg #[.int .i8 ((x.kid i).op), .string ((x.kid i).t.v), .int .i8 ((x.kid i).t.l.k), .int .i64 ((x.kid i).t.l.n), .string ((x.kid i).t.l.s), .slice (some ⟨b12, 0, none⟩) ((x.kid i).kids.length) ((x.kid i).kids.length + 1)]) (w0 rfl) (fun w_ c_ => r_loadL (cs := [.int .i8 ((x.kid i).op), .string ((x.kid i).t.v), .int .i8 ((x.kid i).t.l.k), .int .i64 ((x.kid i).t.l.n), .string ((x.kid i).t.l.s), .slice (some ⟨b12, 0, none⟩) ((x.kid i).kids.length) ((x.kid i).kids.length + 1)]) (ca := #[.int .i8 ((x.kid i).op), .string ((x.kid i).t.v), .int .i8 ((x.kid i).t.l.k), .int .i64 ((x.kid i).t.l.n), .string ((x.kid i).t.l.s), .slice (some ⟨b12, 0, none⟩) ((x.kid i).kids.length) ((x.kid i).kids.length + 1)]) F_m36 (ev_t rfl rfl) rfl rfl (sub_cells (cells_ext c_ (cells_ext x2 hc11)) 0 (cs2 := [.int .i8 ((x.kid i).op), .string ((x.kid i).t.v), .int .i8 ((x.kid i).t.l.k), .int .i64 ((x.kid i).t.l.n), .string ((x.kid i).t.l.s), .slice (some ⟨b12, 0, none⟩) ((x.kid i).kids.length) ((x.kid i).kids.length + 1)]) rfl)) ?_
    refine q_val (v := .slice A x.kids.length c) (w0 rfl) (fun w_ c_ => r_move (v := .slice A x.kids.length c) (ev_t rfl e6)) ?_
    refine q_val (v := .int .i64 ((i : Nat) : Int)) (w0 rfl) (fun w_ c_ => r_move (v := .int .i64 ((i : Nat) : Int)) (ev_t rfl e7)) ?_
    obtain ⟨b14, o15, x16, csx16, hA17, hx18, hR19, hc20⟩ := Row.at_ hr i (by omega)
    obtain rfl := Ex.kid_of hx18
    obtain ⟨A21, c22, rfl, ho23, hr24⟩ := RE.open_ hR19
    refine q_val (v := .pointer (some ⟨b14, o15 + i * 6, none⟩)) (w0 rfl) (fun w_ c_ => r_indexR (j := i) F_l34 (ev_t rfl rfl) hA17 (ev_t rfl rfl) rfl (by omega)) ?_
    refine q_val (v := .agg #[.int .i8 ((x.kid i).op), .string ((x.kid i).t.v), .int .i8 ((x.kid i).t.l.k), .int .i64 ((x.kid i).t.l.n), .string ((x.kid i).t.l.s), .slice A21 ((x.kid i).kids.length) c22]) (w0 rfl) (fun w_ c_ => r_loadL (cs := [.int .i8 ((x.kid i).op), .string ((x.kid i).t.v), .int .i8 ((x.kid i).t.l.k), .int .i64 ((x.kid i).t.l.n), .string ((x.kid i).t.l.s), .slice A21 ((x.kid i).kids.length) c22]) (ca := #[.int .i8 ((x.kid i).op), .string ((x.kid i).t.v), .int .i8 ((x.kid i).t.l.k), .int .i64 ((x.kid i).t.l.n), .string ((x.kid i).t.l.s), .slice A21 ((x.kid i).kids.length) c22]) F_m36 (ev_t rfl rfl) rfl rfl (sub_cells (cells_ext c_ (cells_ext x2 hc20)) 0 (cs2 := [.int .i8 ((x.kid i).op), .string ((x.kid i).t.v), .int .i8 ((x.kid i).t.l.k), .int .i64 ((x.kid i).t.l.n), .string ((x.kid i).t.l.s), .slice A21 ((x.kid i).kids.length) c22]) rfl)) ?_
    refine q_call (v := .bool true) F_e42 (w0 rfl) ev_f (m2 (ev_t rfl rfl) (ev_t rfl rfl)) (args := #[.agg #[.int .i8 ((x.kid i).op), .string ((x.kid i).t.v), .int .i8 ((x.kid i).t.l.k), .int .i64 ((x.kid i).t.l.n), .string ((x.kid i).t.l.s), .slice (some ⟨b12, 0, none⟩) ((x.kid i).kids.length) ((x.kid i).kids.length + 1)], .agg #[.int .i8 ((x.kid i).op), .string ((x.kid i).t.v), .int .i8 ((x.kid i).t.l.k), .int .i64 ((x.kid i).t.l.n), .string ((x.kid i).t.l.s), .slice A21 ((x.kid i).kids.length) c22]]) rfl (fun w_ c_ => Rt.mono (ih i (x.kid i) (kid_there (x := x) (j := i) (by omega)) b12 _ A21 c22 _ (TwE.ext (TwE.ext tw13 x2) c_) ho23 (Row.extE (Row.extE hr24 x2) c_) (Tabs.ext tb (Ext.trans x2 c_))) (fun v_ w2_ h_ => ⟨h_.1, Ext.trans c_ h_.2⟩)) ?_
    refine q_val (v := .bool false) (w0 rfl) (fun w_ c_ => r_not (b := true) (ev_t rfl rfl)) ?_
    refine q_done ?_
    intro w25 x26
    refine n_then ?_
    refine c_cond0 (ev_t rfl rfl) ?_
    refine c_skip (n_block (n_then (c_reg ?_)))
    refine s_move (v := .int .i64 ((i : Nat) : Int)) (ev_t rfl e7) (w0 rfl) ?_
    refine s_add (r := ((i + 1 : Nat) : Int)) (ev_t rfl rfl) ev_c (by omega) (by omega) (w0 rfl) ?_
    refine s_assign (v := .int .i64 ((i + 1 : Nat) : Int)) (ev_t rfl rfl) (w0 rfl) ?_
    refine c_done ?_
    exact ⟨(i + 1), _, rfl, ⟨(Ext.trans x2 x26), by omega, e5, e6, rfl⟩, (show x.kids.length - (i + 1) < x.kids.length - i by omega)⟩
  · refine c_cond0 (vb (ev_t rfl rfl) (decide_eq_false h8)) ?_
    refine c_exit (e_then (e_then (e_hit (n_then (c_seq (c_reg ?_))))))
    refine s_move (v := .slice (some ⟨b, 0, none⟩) x.kids.length (x.kids.length + 1)) (ev_t rfl e5) (w0 rfl) ?_
    refine s_move (v := .slice A x.kids.length c) (ev_t rfl e6) (w0 rfl) ?_
    refine s_lenL F_l34 (ev_t rfl rfl) (w0 rfl) ?_
    refine s_add (r := ((x.kids.length + 1 : Nat) : Int)) (ev_t rfl rfl) ev_c (by omega) (by omega) (w0 rfl) ?_
    refine s_sliceH (h := x.kids.length + 1) F_uE34 F_iE34 (ev_t rfl rfl) (ev_t rfl rfl) (by omega) (w0 rfl) ?_
    refine s_move (v := .slice A x.kids.length c) (ev_t rfl e6) (w0 rfl) ?_
    refine s_lenL F_l34 (ev_t rfl rfl) (w0 rfl) ?_
    refine s_indexR (j := x.kids.length) F_l34 (ev_t rfl rfl) rfl (ev_t rfl rfl) rfl (by omega) (w0 rfl) ?_
    refine s_loadL (cs := [.int .i8 99, .string ((⟨#[35]⟩ : ByteArray) ++ itoaB 777777), .int .i8 0, .int .i64 0, .string (⟨#[]⟩ : ByteArray), .slice none 0 0]) (ca := #[.int .i8 99, .string ((⟨#[35]⟩ : ByteArray) ++ itoaB 777777), .int .i8 0, .int .i64 0, .string (⟨#[]⟩ : ByteArray), .slice none 0 0]) F_m36 (ev_t rfl rfl) rfl rfl (sub_cells (cells_ext x2 (TwE.mark tw)) 0 (cs2 := [.int .i8 99, .string ((⟨#[35]⟩ : ByteArray) ++ itoaB 777777), .int .i8 0, .int .i64 0, .string (⟨#[]⟩ : ByteArray), .slice none 0 0]) rfl) (w0 rfl) ?_
    refine s_call F_e115 (w0 rfl) ev_f (m2 (ev_t rfl rfl) ev_c) (args := #[.agg #[.int .i8 99, .string ((⟨#[35]⟩ : ByteArray) ++ itoaB 777777), .int .i8 0, .int .i64 0, .string (⟨#[]⟩ : ByteArray), .slice none 0 0], .int .i64 777777]) rfl (l_isExpr 777777 _ (Tabs.ext tb x2) (by omega)) ?_
    rintro _ w28 ⟨rfl, x27⟩
    refine s_assign (v := .bool true) (ev_t rfl rfl) (w0 rfl) ?_
    refine c_done (n_then (c_ret ?_))
    refine ret1 (v := .bool true) rfl rfl rfl ?_
    refine ⟨_, rfl, ?_, (Ext.trans x2 x27)⟩
    rfl
set_option maxHeartbeats 4000000 in
theorem l_LeftExpr_of (x : Ex) (A : Option Addr) (c : Nat) (b lo : Nat) (w : World) (tw : TwE lo w b x.kids) (ho : x.okc c) (hr : Row RE 6 w A x.kids) (tb : Tabs Tryz.prog w) (hlf : ∀ {w : World}, Tabs Tryz.prog w → TwE lo w b x.kids → Row RE 6 w A x.kids → Rt Tryz.prog 82 #[.slice (some ⟨b, 0, none⟩) x.kids.length (x.kids.length + 1), .slice A x.kids.length c] w fun v w' => v = .bool true ∧ Ext w w') :
    Rt Tryz.prog 42 #[.agg #[.int .i8 x.op, .string x.t.v, .int .i8 x.t.l.k, .int .i64 x.t.l.n, .string x.t.l.s, .slice (some ⟨b, 0, none⟩) x.kids.length (x.kids.length + 1)], .agg #[.int .i8 x.op, .string x.t.v, .int .i8 x.t.l.k, .int .i64 x.t.l.n, .string x.t.l.s, .slice A x.kids.length c]] w fun v w' => v = .bool true ∧ Ext w w' := by
  refine enter Tryz.func42 rfl (l := [.agg #[.int .i8 x.op, .string x.t.v, .int .i8 x.t.l.k, .int .i64 x.t.l.n, .string x.t.l.s, .slice (some ⟨b, 0, none⟩) x.kids.length (x.kids.length + 1)], .agg #[.int .i8 x.op, .string x.t.v, .int .i8 x.t.l.k, .int .i64 x.t.l.n, .string x.t.l.s, .slice A x.kids.length c]]) rfl Tryz.ntmps42 (Nat.le_of_ble_eq_true rfl) ?_
  have hl_ := Ex.okc.l ho
  have hc_ := Ex.okc.c ho
  refine c_seq (c_reg ?_)
  refine s_box (v := .agg #[.int .i8 x.op, .string x.t.v, .int .i8 x.t.l.k, .int .i64 x.t.l.n, .string x.t.l.s, .slice (some ⟨b, 0, none⟩) x.kids.length (x.kids.length + 1)]) (cs := #[.int .i8 x.op, .string x.t.v, .int .i8 x.t.l.k, .int .i64 x.t.l.n, .string x.t.l.s, .slice (some ⟨b, 0, none⟩) x.kids.length (x.kids.length + 1)]) (w0 rfl) (ev_t rfl rfl) rfl ?_
  intro w2 g1 n3
  refine s_box (v := .agg #[.int .i8 x.op, .string x.t.v, .int .i8 x.t.l.k, .int .i64 x.t.l.n, .string x.t.l.s, .slice A x.kids.length c]) (cs := #[.int .i8 x.op, .string x.t.v, .int .i8 x.t.l.k, .int .i64 x.t.l.n, .string x.t.l.s, .slice A x.kids.length c]) (w0 rfl) (ev_t rfl rfl) rfl ?_
  intro w5 g4 n6
  refine s_assign (v := .bool false) ev_c (w0 rfl) ?_
  refine c_done (n_then (c_seq (c_reg ?_)))
  refine s_field (off := 0) (o' := 0) F_f36_0 (ev_t rfl rfl) rfl (w0 rfl) ?_
  refine s_load (v := .int .i8 x.op) F_o28 (ev_t rfl rfl) (cell_of_blk (i := 0) (Ext.blk (NewB.ext n6) (NewB.blk n3)) rfl) (w0 rfl) ?_
  refine s_field (off := 0) (o' := 0) F_f36_0 (ev_t rfl rfl) rfl (w0 rfl) ?_
  refine s_load (v := .int .i8 x.op) F_o28 (ev_t rfl rfl) (cell_of_blk (i := 0) (NewB.blk n6) rfl) (w0 rfl) ?_
  refine s_cmp (r := true) (ev_t rfl rfl) (ev_t rfl rfl) (cmpI_self _) (w0 rfl) ?_
  refine s_move (v := .bool true) (ev_t rfl rfl) (w0 rfl) ?_
  refine s_field (off := 1) (o' := 1) F_f36_1 (ev_t rfl rfl) rfl (wy rfl rfl rfl rfl) ?_
  refine s_loadL (cs := [.string x.t.v, .int .i8 x.t.l.k, .int .i64 x.t.l.n, .string x.t.l.s]) (ca := #[.string x.t.v, .int .i8 x.t.l.k, .int .i64 x.t.l.n, .string x.t.l.s]) F_m33 (ev_t rfl rfl) rfl rfl (blk_cells (Ext.blk (NewB.ext n6) (NewB.blk n3)) 1 (cs := [.string x.t.v, .int .i8 x.t.l.k, .int .i64 x.t.l.n, .string x.t.l.s]) rfl) (wy rfl rfl rfl rfl) ?_
  refine s_field (off := 1) (o' := 1) F_f36_1 (ev_t rfl rfl) rfl (wy rfl rfl rfl rfl) ?_
  refine s_loadL (cs := [.string x.t.v, .int .i8 x.t.l.k, .int .i64 x.t.l.n, .string x.t.l.s]) (ca := #[.string x.t.v, .int .i8 x.t.l.k, .int .i64 x.t.l.n, .string x.t.l.s]) F_m33 (ev_t rfl rfl) rfl rfl (blk_cells (NewB.blk n6) 1 (cs := [.string x.t.v, .int .i8 x.t.l.k, .int .i64 x.t.l.n, .string x.t.l.s]) rfl) (wy rfl rfl rfl rfl) ?_
  refine s_cmpG (r := true) (ev_t rfl rfl) (ev_t rfl rfl) ((fun w_ => eqs33 x.t.v x.t.l.k x.t.l.n x.t.l.s _ _ w_)) (wy rfl rfl rfl rfl) ?_
  refine s_pick1 (v := .bool true) (ev_t rfl rfl) (ev_t rfl rfl) (w0 rfl) ?_
  refine s_move (v := .bool true) (ev_t rfl rfl) (w0 rfl) ?_
  refine s_field (off := 5) (o' := 5) F_f36_2 (ev_t rfl rfl) rfl (wy rfl rfl rfl rfl) ?_
  refine s_load (v := .slice (some ⟨b, 0, none⟩) x.kids.length (x.kids.length + 1)) F_o34 (ev_t rfl rfl) (cell_of_blk (i := 5) (Ext.blk (NewB.ext n6) (NewB.blk n3)) rfl) (wy rfl rfl rfl rfl) ?_
  refine s_field (off := 5) (o' := 5) F_f36_2 (ev_t rfl rfl) rfl (wy rfl rfl rfl rfl) ?_
  refine s_load (v := .slice A x.kids.length c) F_o34 (ev_t rfl rfl) (cell_of_blk (i := 5) (NewB.blk n6) rfl) (wy rfl rfl rfl rfl) ?_
  refine s_call F_e82 (wy rfl rfl rfl rfl) ev_f (m2 (ev_t rfl rfl) (ev_t rfl rfl)) (args := #[.slice (some ⟨b, 0, none⟩) x.kids.length (x.kids.length + 1), .slice A x.kids.length c]) rfl (hlf (Tabs.ext tb (Ext.trans (NewB.ext n3) (NewB.ext n6))) (TwE.ext (TwE.ext tw (NewB.ext n3)) (NewB.ext n6)) (Row.extE (Row.extE hr (NewB.ext n3)) (NewB.ext n6))) ?_
  rintro _ w8 ⟨rfl, x7⟩
  refine s_pick1 (v := .bool true) (ev_t rfl rfl) (ev_t rfl rfl) (w0 rfl) ?_
  refine s_assign (v := .bool true) (ev_t rfl rfl) (w0 rfl) ?_
  refine c_done (n_then (c_ret ?_))
  refine ret1 (v := .bool true) rfl rfl rfl ?_
  refine ⟨_, rfl, ?_, (Ext.trans (Ext.trans (NewB.ext n3) (NewB.ext n6)) x7)⟩
  rfl
theorem l_LeftExpr : ∀ (k : Nat) (x : Ex), SizeOf.sizeOf x < k → ∀ (b lo : Nat) (A : Option Addr) (c : Nat) (w : World), TwE lo w b x.kids → x.okc c → Row RE 6 w A x.kids → Tabs Tryz.prog w → Rt Tryz.prog 42 #[.agg #[.int .i8 x.op, .string x.t.v, .int .i8 x.t.l.k, .int .i64 x.t.l.n, .string x.t.l.s, .slice (some ⟨b, 0, none⟩) x.kids.length (x.kids.length + 1)], .agg #[.int .i8 x.op, .string x.t.v, .int .i8 x.t.l.k, .int .i64 x.t.l.n, .string x.t.l.s, .slice A x.kids.length c]] w fun v w' => v = .bool true ∧ Ext w w' := by
  intro k
  induction k with
  | zero => intro x h; omega
  | succ k ih =>
    intro x hk b lo A c w tw ho hr tb
    exact l_LeftExpr_of x A c b lo w tw ho hr tb (fun {w} tb tw hr => l_LeftExprs_of x A c b lo w tw ho hr tb (fun j y hy b lo A c w tw ho hr tb => ih y (by have := Ex.kid_lt hy; omega) b lo A c w tw ho hr tb))
end Go.Proofs.Zw

set_option linter.unusedVariables false
set_option linter.unusedSimpArgs false
namespace Go.Wk
open Go Go.RowKit Go.Lib Go.Sort
/-! ### levels: rows of expressions that the call itself makes; the expressions lie where they lay at the start (w0) -/
def OwnE (w0 : World) (B e : Nat) (w : World) (A : Option Addr) (c : Nat) (lv : List Ex) : Prop :=
  ∃ cs, w.ownsRow B e 6 (.slice A lv.length c) lv.length cs ∧ ∀ j y, lv[j]? = some y → ∃ l : List Value, RE w0 y l ∧ l.length = 6 ∧ ∀ k u, l[k]? = some u → cs[j * 6 + k]? = some u
structure Lv (w0 w : World) (A : Option Addr) (lv : List Ex) (N : Nat) : Prop where
  row : Row (fun _ x l => RE w0 x l) 6 w A lv
  lt : lv ≠ [] → ∀ b o, A = some ⟨b, o, none⟩ → b < N
theorem OwnE.nil {w0 w : World} {B e : Nat} : OwnE w0 B e w none 0 [] := ⟨[], own_nil B e 6, fun j y h => by simp at h⟩
theorem OwnE.ext {w0 w w' : World} {B e c : Nat} {A : Option Addr} {lv : List Ex} (h : OwnE w0 B e w A c lv) (k : Ext w w') : OwnE w0 B e w' A c lv := by
  obtain ⟨cs, h1, h2⟩ := h; exact ⟨cs, own_ext k h1, h2⟩
theorem OwnE.lv {w0 w : World} {B e c : Nat} {A : Option Addr} {lv : List Ex} (h : OwnE w0 B e w A c lv) : Lv w0 w A lv w.heap.size := by
  obtain ⟨cs, h1, h2⟩ := h
  by_cases h0 : lv = []
  · exact ⟨.inl h0, fun h => absurd h0 h⟩
  · obtain ⟨b, hA, hc⟩ := own_cells h1 (List.length_pos_iff.2 h0)
    refine ⟨.inr ⟨b, 0, hA, fun j y hy => ?_⟩, fun _ b' o' h' => ?_⟩
    · obtain ⟨l, a1, a2, a3⟩ := h2 j y hy
      exact ⟨l, a1, fun i u hu => by rw [Nat.zero_add]; exact hc _ u (a3 i u hu)⟩
    · exact own_lt h1 b' (by rw [h']; rfl)
theorem Lv.ext {w0 w w' : World} {A : Option Addr} {lv : List Ex} {N : Nat} (h : Lv w0 w A lv N) (k : Ext w w') : Lv w0 w' A lv N := ⟨h.row.map (fun _ _ hc => k.cell hc) (fun _ _ _ h => h), h.lt⟩
theorem Lv.up {w0 w : World} {A : Option Addr} {lv : List Ex} {N N' : Nat} (h : Lv w0 w A lv N) (hn : N ≤ N') : Lv w0 w A lv N' := ⟨h.row, fun h0 b o hA => Nat.lt_of_lt_of_le (h.lt h0 b o hA) hn⟩
theorem Lv.keep {w0 w w' : World} {A : Option Addr} {lv : List Ex} {B : Nat} (h : Lv w0 w A lv B) (k : Keep (fun i => B ≤ i) w w') : Lv w0 w' A lv B := by
  refine ⟨?_, h.lt⟩
  by_cases h0 : lv = []
  · exact .inl h0
  · rcases h.row with h1 | ⟨b, o, hA, h1⟩
    · exact .inl h1
    · have hb := h.lt h0 b o hA
      exact .inr ⟨b, o, hA, fun j x hx => by
        obtain ⟨l, a1, a2⟩ := h1 j x hx
        exact ⟨l, a1, fun i u hu => k.cell (a2 i u hu) (by simp only []; omega)⟩⟩
/-- One expression, as a row of its own. -/
theorem Lv.one {w0 w w' : World} {x : Ex} {A : Option Addr} {c g e : Nat} (nb : NewB w g (.cells #[.int .i8 x.op, .string x.t.v, .int .i8 x.t.l.k, .int .i64 x.t.l.n, .string x.t.l.s, .slice A x.kids.length c] e (0, 0)) w') (ho : x.okc c) (hr : Row RE 6 w0 A x.kids) : Lv w0 w' (some ⟨g, 0, none⟩) [x] w'.heap.size := by
  refine ⟨.inr ⟨g, 0, rfl, fun j y hy => ?_⟩, fun _ b o h => ?_⟩
  · have hj : j = 0 := by
      have := (List.getElem?_eq_some_iff.1 hy).1
      simp at this; exact this
    subst hj
    have : y = x := by simpa using hy.symm
    subst this
    refine ⟨_, RE.mk_ ho hr, fun i u hu => ?_⟩
    exact blk_cells nb.blk 0 (cs := [.int .i8 y.op, .string y.t.v, .int .i8 y.t.l.k, .int .i64 y.t.l.n, .string y.t.l.s, .slice A y.kids.length c]) rfl i u hu
  · injection h with h; injection h with h; subst h; exact lt_of_blk nb.blk
section
variable {P : Program} {ops : Array Oper} {Q : Exit → Act → World → Prop} {rest : List Oper} {n d t : Nat} {env : Nat → Value} {ds : List Deferred} {w w' : World} {v u : Value}
  {ty T : TypeId} {pos : String} {af : Array Edge} {gd : Option (Nat × Bool)} {x y z : Operand}
/-- append(next, e) -/
theorem s_appendE {w0 : World} {B e bytes c g c2 : Nat} {zv : Value} {A A2 : Option Addr} {nx : List Ex} {q : Ex} (ht : P.underlying T = some (.slice e)) (hinfo : (P.info? e).map (fun i => (i.zero, i.size, i.bytes)) = some (some zv, 6, bytes)) (hzs : zv.cells.size = 6)
    (hs : (mkA n env ds).eval x = .slice A nx.length c) (hown : OwnE w0 B e w A c nx) (hx : (mkA n env ds).eval y = .slice (some ⟨g, 0, none⟩) 1 1) (hq : q.okc c2) (hr : Row RE 6 w0 A2 q.kids)
    (hb : w.heap[g]? = some (.cells #[.int .i8 q.op, .string q.t.v, .int .i8 q.t.l.k, .int .i64 q.t.l.n, .string q.t.l.s, .slice A2 q.kids.length c2] e (0, 0)))
    (h63 : nx.length + 1 ≤ 9223372036854775807) (hbytes : (nx.length + 1) * bytes ≤ 140737488355328) (hbase : B ≤ w.heap.size) (hw : Region.wanted ⟨some d, .call ⟨.builtin .append, #[x, y], #[T, T]⟩, ty, pos, af, none⟩ (yielded ops (mkA n env ds).tmps) = true)
    (kont : ∀ A' c' w', OwnE w0 B e w' A' c' (nx ++ [q]) → Keep (fun i => B ≤ i) w w' → wpList P ops Q rest (mkA n (upd env d (.slice A' (nx.length + 1) c')) ds) w') :
    wpList P ops Q (⟨some d, .call ⟨.builtin .append, #[x, y], #[T, T]⟩, ty, pos, af, none⟩ :: rest) (mkA n env ds) w := by
  obtain ⟨cs, h1, h2⟩ := hown
  refine s_append (m := 6) (k := 1) (o := 0) (news := [.int .i8 q.op, .string q.t.v, .int .i8 q.t.l.k, .int .i64 q.t.l.n, .string q.t.l.s, .slice A2 q.kids.length c2]) ht hinfo hzs (by decide) hs h1 hx rfl (blk_cells hb 0 rfl) rfl h63 hbytes hbase hw ?_
  intro A' c' w' ow k
  refine kont A' c' w' ⟨cs ++ _, by rw [List.length_append]; exact ow, fun j y hy => ?_⟩ (Keep.mono k fun i _ hi => own_ge h1 i hi)
  have hl : cs.length = nx.length * 6 := h1.1
  rcases Nat.lt_or_ge j nx.length with hj | hj
  · rw [List.getElem?_append_left hj] at hy
    obtain ⟨l, a1, a2, a3⟩ := h2 j y hy
    refine ⟨l, a1, a2, fun k u hu => ?_⟩
    have hk : k < 6 := by rw [← a2]; exact (List.getElem?_eq_some_iff.1 hu).1
    rw [List.getElem?_append_left (by omega)]
    exact a3 k u hu
  · rw [List.getElem?_append_right hj] at hy
    have hj2 : j - nx.length = 0 := by
      have := (List.getElem?_eq_some_iff.1 hy).1
      simp at this; exact this
    rw [hj2] at hy
    have : y = q := by simpa using hy.symm
    subst this
    refine ⟨_, RE.mk_ hq hr, rfl, fun k u hu => ?_⟩
    rw [List.getElem?_append_right (by omega), show j * 6 + k - cs.length = k by omega]
    exact hu
end
def exAt (l : List Ex) (j : Nat) : Ex := l.getD j Ex.none
theorem exAt_of {l : List Ex} {y : Ex} {j : Nat} (h : l[j]? = some y) : exAt l j = y := by simp [exAt, List.getD_eq_getElem?_getD, h]
end Go.Wk

set_option linter.unusedVariables false
set_option linter.unusedSimpArgs false
set_option maxRecDepth 10000
namespace Go.Proofs.Zw
open Go Go.Wk Go.Proofs Go.Lib
attribute [local irreducible] Go.wpList Go.wpStill Go.wpQuiet Go.Code.wp Go.Calls
theorem bs34_1_0ii8_0s_0ii8_0ii64_0s_0s : ∀ (a0 : Int) (a1 : ByteArray) (a2 : Int) (a3 : Int) (a4 : ByteArray) (a5 : Option Addr) (a5n a5c : Nat), ∀ w : World, (Instr.buildSlice 34 1 [(0, .agg #[.int .i8 a0, .string a1, .int .i8 a2, .int .i64 a3, .string a4, .slice a5 a5n a5c])].toArray).run Tryz.prog w = .ok (.slice (some ⟨w.heap.size, 0, none⟩) 1 1) (w.alloc (.cells #[.int .i8 a0, .string a1, .int .i8 a2, .int .i64 a3, .string a4, .slice a5 a5n a5c] 36)) := by
  intros
  kernel_rfl
set_option maxHeartbeats 4000000 in
theorem l_ExprParts (x : Ex) (A : Option Addr) (c : Nat) (L : Nat) (w : World) (ho : x.okc c) (hr : Row RE 6 w A x.kids) (hL : L ≤ 1048576) :
    Rt Tryz.prog 98 #[.agg #[.int .i8 x.op, .string x.t.v, .int .i8 x.t.l.k, .int .i64 x.t.l.n, .string x.t.l.s, .slice A x.kids.length c], .int .i64 ((L : Nat) : Int)] w fun v w' => (∃ z : Nat, z ≤ L + 1 ∧ v = .int .i64 ((z : Nat) : Int)) ∧ Ext w w' := by
  refine enter Tryz.func98 rfl (l := [.agg #[.int .i8 x.op, .string x.t.v, .int .i8 x.t.l.k, .int .i64 x.t.l.n, .string x.t.l.s, .slice A x.kids.length c], .int .i64 ((L : Nat) : Int)]) rfl Tryz.ntmps98 (Nat.le_of_ble_eq_true rfl) ?_
  have hl_ := Ex.okc.l ho
  have hc_ := Ex.okc.c ho
  refine c_seq (c_reg ?_)
  refine s_box (v := .agg #[.int .i8 x.op, .string x.t.v, .int .i8 x.t.l.k, .int .i64 x.t.l.n, .string x.t.l.s, .slice A x.kids.length c]) (cs := #[.int .i8 x.op, .string x.t.v, .int .i8 x.t.l.k, .int .i64 x.t.l.n, .string x.t.l.s, .slice A x.kids.length c]) (w0 rfl) (ev_t rfl rfl) rfl ?_
  intro w2 g1 n3
  refine s_assign (v := .int .i64 0) ev_c (w0 rfl) ?_
  refine c_done (n_then (c_seq (c_reg ?_)))
  refine s_assign (v := .int .i64 0) ev_c (w0 rfl) ?_
  refine c_done (n_then (c_seq (c_reg ?_)))
  refine s_loadL (cs := [.int .i8 x.op, .string x.t.v, .int .i8 x.t.l.k, .int .i64 x.t.l.n, .string x.t.l.s, .slice A x.kids.length c]) (ca := #[.int .i8 x.op, .string x.t.v, .int .i8 x.t.l.k, .int .i64 x.t.l.n, .string x.t.l.s, .slice A x.kids.length c]) F_m36 (ev_t rfl rfl) rfl rfl (blk_cells (NewB.blk n3) 0 (cs := [.int .i8 x.op, .string x.t.v, .int .i8 x.t.l.k, .int .i64 x.t.l.n, .string x.t.l.s, .slice A x.kids.length c]) rfl) (w0 rfl) ?_
  refine s_bslice (vs := [(0, .agg #[.int .i8 x.op, .string x.t.v, .int .i8 x.t.l.k, .int .i64 x.t.l.n, .string x.t.l.s, .slice A x.kids.length c])]) (cs := #[.int .i8 x.op, .string x.t.v, .int .i8 x.t.l.k, .int .i64 x.t.l.n, .string x.t.l.s, .slice A x.kids.length c]) (b1 (ev_t rfl rfl)) (bs34_1_0ii8_0s_0ii8_0ii64_0s_0s x.op x.t.v x.t.l.k x.t.l.n x.t.l.s A x.kids.length c) (w0 rfl) ?_
  intro w5 g4 n6
  refine s_assign (v := .slice (some ⟨g4, 0, none⟩) 1 1) (ev_t rfl rfl) (w0 rfl) ?_
  refine c_done (n_then (c_seq (c_seq (c_reg ?_))))
  refine s_assign (v := .int .i64 0) ev_c (w0 rfl) ?_
  refine c_done (n_then (c_block ?_))
  refine c_loop (α := List Ex × Option Addr × Nat × Nat × Nat) (fun x_ env_ w_ => match x_ with | (lv, A1, c1, nn, dp) => Ext w w_ ∧ nn + lv.length ≤ L + 1 ∧ dp ≤ 65536 ∧ Lv w w_ A1 lv w_.heap.size ∧ env_ 1 = .int .i64 ((L : Nat) : Int) ∧ env_ 5 = .int .i64 ((nn : Nat) : Int) ∧ env_ 6 = .slice A1 lv.length c1 ∧ env_ 7 = .int .i64 ((dp : Nat) : Int)) (fun x_ => match x_ with | (lv, A1, c1, nn, dp) => 65536 - dp) ([x], (some ⟨g4, 0, none⟩), 1, 0, 0) ⟨(Ext.trans (NewB.ext n3) (NewB.ext n6)), (by simp), Nat.zero_le _, (Lv.one n6 ho hr), rfl, rfl, rfl, rfl⟩ ?_
  rintro ⟨lv, A1, c1, nn, dp⟩ env9 w7 ⟨x8, i10, i11, i12, e13, e14, e15, e16⟩
  refine c_seq (c_seq (c_reg ?_))
  refine s_move (v := .slice A1 lv.length c1) (ev_t rfl e15) (w0 rfl) ?_
  refine s_lenL F_l34 (ev_t rfl rfl) (w0 rfl) ?_
  refine s_cmp (r := decide (0 < (lv.length : Int))) (ev_t rfl rfl) ev_c rfl (w0 rfl) ?_
  refine c_done (n_then ?_)
  by_cases h17 : 0 < (lv.length : Int)
  · refine c_cond1 (vb (ev_t rfl rfl) (decide_eq_true h17)) ?_
    refine c_skip (n_then (c_seq (c_block (c_seq (c_reg ?_)))))
    refine s_move (v := .int .i64 ((nn : Nat) : Int)) (ev_t rfl e14) (w0 rfl) ?_
    refine s_move (v := .slice A1 lv.length c1) (ev_t rfl e15) (w0 rfl) ?_
    refine s_lenL F_l34 (ev_t rfl rfl) (w0 rfl) ?_
    refine s_add (r := ((nn + lv.length : Nat) : Int)) (ev_t rfl rfl) (ev_t rfl rfl) (by omega) (by omega) (w0 rfl) ?_
    refine s_assign (v := .int .i64 ((nn + lv.length : Nat) : Int)) (ev_t rfl rfl) (w0 rfl) ?_
    refine c_done (n_then (c_seq (c_seq (c_reg ?_))))
    refine s_move (v := .int .i64 ((nn + lv.length : Nat) : Int)) (ev_t rfl rfl) (w0 rfl) ?_
    refine s_move (v := .int .i64 ((L : Nat) : Int)) (ev_t rfl e13) (w0 rfl) ?_
    refine s_cmp (r := decide (((L : Nat) : Int) < ((nn + lv.length : Nat) : Int))) (ev_t rfl rfl) (ev_t rfl rfl) rfl (w0 rfl) ?_
    by_cases h18 : ((L : Nat) : Int) < ((nn + lv.length : Nat) : Int)
    · refine s_move (v := .bool true) (vb (ev_t rfl rfl) (decide_eq_true h18)) (w0 rfl) ?_
      refine s_skip (wn rfl rfl rfl rfl rfl) ?_
      refine s_skip (wn rfl rfl rfl rfl rfl) ?_
      refine s_pick1 (v := .bool true) (ev_t rfl rfl) ev_c (w0 rfl) ?_
      refine c_done (n_then ?_)
      refine c_cond1 (ev_t rfl rfl) ?_
      refine c_seq (c_reg ?_)
      refine s_move (v := .int .i64 ((L : Nat) : Int)) (ev_t rfl e13) (w0 rfl) ?_
      refine s_add (r := ((L + 1 : Nat) : Int)) (ev_t rfl rfl) ev_c (by omega) (by omega) (w0 rfl) ?_
      refine s_assign (v := .int .i64 ((L + 1 : Nat) : Int)) (ev_t rfl rfl) (w0 rfl) ?_
      refine c_done (n_then (c_ret (r_then (r_block (r_then (r_then (r_block (r_then ?_))))))))
      refine ret1 (v := .int .i64 ((L + 1 : Nat) : Int)) rfl rfl rfl ?_
      exact ⟨_, rfl, ⟨L + 1, by omega, rfl⟩, x8⟩
    · refine s_move (v := .bool false) (vb (ev_t rfl rfl) (decide_eq_false h18)) (w0 rfl) ?_
      refine s_move (v := .int .i64 ((dp : Nat) : Int)) (ev_t rfl e16) (wy rfl rfl rfl rfl) ?_
      refine s_cmp (r := decide (65536 ≤ ((dp : Nat) : Int))) (ev_t rfl rfl) ev_c rfl (wy rfl rfl rfl rfl) ?_
      refine s_pick0 (v := .bool (decide (65536 ≤ ((dp : Nat) : Int)))) (ev_t rfl rfl) (ev_t rfl rfl) (w0 rfl) ?_
      refine c_done (n_then ?_)
      by_cases h19 : 65536 ≤ ((dp : Nat) : Int)
      · refine c_cond1 (vb (ev_t rfl rfl) (decide_eq_true h19)) ?_
        refine c_seq (c_reg ?_)
        refine s_move (v := .int .i64 ((L : Nat) : Int)) (ev_t rfl e13) (w0 rfl) ?_
        refine s_add (r := ((L + 1 : Nat) : Int)) (ev_t rfl rfl) ev_c (by omega) (by omega) (w0 rfl) ?_
        refine s_assign (v := .int .i64 ((L + 1 : Nat) : Int)) (ev_t rfl rfl) (w0 rfl) ?_
        refine c_done (n_then (c_ret (r_then (r_block (r_then (r_then (r_block (r_then ?_))))))))
        refine ret1 (v := .int .i64 ((L + 1 : Nat) : Int)) rfl rfl rfl ?_
        exact ⟨_, rfl, ⟨L + 1, by omega, rfl⟩, x8⟩
      · refine c_cond0 (vb (ev_t rfl rfl) (decide_eq_false h19)) ?_
        refine c_skip (n_then (c_seq (c_reg ?_)))
        refine s_assign (v := .slice none 0 0) ev_c (w0 rfl) ?_
        refine c_done (n_then (c_seq (c_seq (c_reg ?_))))
        refine s_assign (v := .int .i64 0) ev_c (w0 rfl) ?_
        refine c_done (n_then (c_block ?_))
        obtain ⟨B2, hB2e_⟩ : ∃ B, B = w7.heap.size := ⟨_, rfl⟩
        have geB2 : w.heap.size ≤ B2 := by have a_ := Keep.size x8; omega
        have lvB_ : Lv w w7 A1 lv B2 := Lv.up i12 (by have a_ := Keep.size (Ext.refl w7); omega)
        refine c_loop (α := Nat × List Ex × Option Addr × Nat) (fun x_ env_ w_ => match x_ with | (i, nx, A2, c2) => Ext w w_ ∧ i ≤ lv.length ∧ nn + lv.length + nx.length ≤ L ∧ OwnE w B2 36 w_ A2 c2 nx ∧ Lv w w_ A1 lv B2 ∧ B2 ≤ w_.heap.size ∧ env_ 1 = .int .i64 ((L : Nat) : Int) ∧ env_ 5 = .int .i64 ((nn + lv.length : Nat) : Int) ∧ env_ 6 = .slice A1 lv.length c1 ∧ env_ 7 = .int .i64 ((dp : Nat) : Int) ∧ env_ 8 = .slice A2 nx.length c2 ∧ env_ 9 = .int .i64 ((i : Nat) : Int)) (fun x_ => match x_ with | (i, nx, A2, c2) => lv.length - i) (0, [], none, 0) ⟨x8, Nat.zero_le _, (by simp; omega), OwnE.nil, lvB_, (by omega), e13, rfl, e15, e16, rfl, rfl⟩ ?_
        rintro ⟨i, nx, A2, c2⟩ env22 w20 ⟨x21, i23, i24, i25, i26, i27, e28, e29, e30, e31, e32, e33⟩
        have hB2 := i27
        refine c_seq (c_seq (c_reg ?_))
        refine s_move (v := .int .i64 ((i : Nat) : Int)) (ev_t rfl e33) (w0 rfl) ?_
        refine s_move (v := .slice A1 lv.length c1) (ev_t rfl e30) (w0 rfl) ?_
        refine s_lenL F_l34 (ev_t rfl rfl) (w0 rfl) ?_
        refine s_cmp (r := decide (((i : Nat) : Int) < (lv.length : Int))) (ev_t rfl rfl) (ev_t rfl rfl) rfl (w0 rfl) ?_
        refine c_done (n_then ?_)
        by_cases h34 : ((i : Nat) : Int) < (lv.length : Int)
        · refine c_cond1 (vb (ev_t rfl rfl) (decide_eq_true h34)) ?_
          refine c_skip (n_then (c_seq (c_block (c_seq (c_seq (c_reg ?_))))))
          refine s_move (v := .int .i64 ((nn + lv.length : Nat) : Int)) (ev_t rfl e29) (w0 rfl) ?_
          refine s_move (v := .slice A2 nx.length c2) (ev_t rfl e32) (w0 rfl) ?_
          refine s_lenL F_l34 (ev_t rfl rfl) (w0 rfl) ?_
          refine s_add (r := ((nn + lv.length + nx.length : Nat) : Int)) (ev_t rfl rfl) (ev_t rfl rfl) (by omega) (by omega) (w0 rfl) ?_
          refine s_move (v := .slice A1 lv.length c1) (ev_t rfl e30) (w0 rfl) ?_
          refine s_move (v := .int .i64 ((i : Nat) : Int)) (ev_t rfl e33) (w0 rfl) ?_
          obtain ⟨b35, o36, x37, csx37, hA38, hx39, hR40, hc41⟩ := Row.at_ (Lv.row i26) i (by omega)
          obtain rfl := exAt_of hx39
          obtain ⟨A42, c43, rfl, ho44, hr45⟩ := RE.open_ hR40
          have hkc46 := Ex.okc.c ho44
          refine s_indexR (j := i) F_l34 (ev_t rfl rfl) hA38 (ev_t rfl rfl) rfl (by omega) (w0 rfl) ?_
          refine s_field (off := 5) (o' := o36 + i * 6 + 5) F_f36_2 (ev_t rfl rfl) rfl (w0 rfl) ?_
          refine s_load (v := .slice A42 ((exAt lv i).kids.length) c43) F_o34 (ev_t rfl rfl) (hc41 5 _ rfl) (w0 rfl) ?_
          refine s_lenL F_l34 (ev_t rfl rfl) (w0 rfl) ?_
          refine s_add (r := ((nn + lv.length + nx.length + (exAt lv i).kids.length : Nat) : Int)) (ev_t rfl rfl) (ev_t rfl rfl) (by omega) (by omega) (w0 rfl) ?_
          refine s_move (v := .int .i64 ((L : Nat) : Int)) (ev_t rfl e28) (w0 rfl) ?_
          refine s_cmp (r := decide (((L : Nat) : Int) < ((nn + lv.length + nx.length + (exAt lv i).kids.length : Nat) : Int))) (ev_t rfl rfl) (ev_t rfl rfl) rfl (w0 rfl) ?_
          refine c_done (n_then ?_)
          by_cases h47 : ((L : Nat) : Int) < ((nn + lv.length + nx.length + (exAt lv i).kids.length : Nat) : Int)
          · refine c_cond1 (vb (ev_t rfl rfl) (decide_eq_true h47)) ?_
            refine c_seq (c_reg ?_)
            refine s_move (v := .int .i64 ((L : Nat) : Int)) (ev_t rfl e28) (w0 rfl) ?_
            refine s_add (r := ((L + 1 : Nat) : Int)) (ev_t rfl rfl) ev_c (by omega) (by omega) (w0 rfl) ?_
            refine s_assign (v := .int .i64 ((L + 1 : Nat) : Int)) (ev_t rfl rfl) (w0 rfl) ?_
            refine c_done (n_then (c_ret (r_then (r_block (r_then (r_then (r_block (r_then (r_block (r_then (r_then (r_block (r_then ?_)))))))))))))
            refine ret1 (v := .int .i64 ((L + 1 : Nat) : Int)) rfl rfl rfl ?_
            exact ⟨_, rfl, ⟨L + 1, by omega, rfl⟩, x21⟩
          · refine c_cond0 (vb (ev_t rfl rfl) (decide_eq_false h47)) ?_
            refine c_skip (n_then (c_seq (c_reg ?_)))
            refine s_assign (v := .int .i64 0) ev_c (w0 rfl) ?_
            refine c_done (n_then (c_block ?_))
            refine c_loop (α := Nat × List Ex × Option Addr × Nat) (fun x_ env_ w_ => match x_ with | (k, nx, A2, c2) => Ext w w_ ∧ k ≤ (exAt lv i).kids.length ∧ nn + lv.length + nx.length + ((exAt lv i).kids.length - k) ≤ L ∧ OwnE w B2 36 w_ A2 c2 nx ∧ Lv w w_ A1 lv B2 ∧ B2 ≤ w_.heap.size ∧ env_ 1 = .int .i64 ((L : Nat) : Int) ∧ env_ 5 = .int .i64 ((nn + lv.length : Nat) : Int) ∧ env_ 6 = .slice A1 lv.length c1 ∧ env_ 7 = .int .i64 ((dp : Nat) : Int) ∧ env_ 8 = .slice A2 nx.length c2 ∧ env_ 9 = .int .i64 ((i : Nat) : Int) ∧ env_ 10 = .int .i64 ((k : Nat) : Int)) (fun x_ => match x_ with | (k, nx, A2, c2) => (exAt lv i).kids.length - k) (0, nx, A2, c2) ⟨x21, Nat.zero_le _, (by omega), i25, i26, (Nat.le_trans hB2 (Keep.size (Ext.refl _))), e28, e29, e30, e31, e32, e33, rfl⟩ ?_
            rintro ⟨k, nx, A2, c2⟩ env50 w48 ⟨x49, i51, i52, i53, i54, i55, e56, e57, e58, e59, e60, e61, e62⟩
            have hB2 := i55
            refine c_seq (c_seq (c_reg ?_))
            refine s_move (v := .int .i64 ((k : Nat) : Int)) (ev_t rfl e62) (w0 rfl) ?_
            refine s_move (v := .slice A1 lv.length c1) (ev_t rfl e58) (w0 rfl) ?_
            refine s_move (v := .int .i64 ((i : Nat) : Int)) (ev_t rfl e61) (w0 rfl) ?_
            obtain ⟨b63, o64, x65, csx65, hA66, hx67, hR68, hc69⟩ := Row.at_ (Lv.row i54) i (by omega)
            obtain rfl := exAt_of hx67
            obtain ⟨A70, c71, rfl, ho72, hr73⟩ := RE.open_ hR68
            have hkc74 := Ex.okc.c ho72
            refine s_indexR (j := i) F_l34 (ev_t rfl rfl) hA66 (ev_t rfl rfl) rfl (by omega) (w0 rfl) ?_
            refine s_field (off := 5) (o' := o64 + i * 6 + 5) F_f36_2 (ev_t rfl rfl) rfl (w0 rfl) ?_
            refine s_load (v := .slice A70 ((exAt lv i).kids.length) c71) F_o34 (ev_t rfl rfl) (hc69 5 _ rfl) (w0 rfl) ?_
            refine s_lenL F_l34 (ev_t rfl rfl) (w0 rfl) ?_
            refine s_cmp (r := decide (((k : Nat) : Int) < ((exAt lv i).kids.length : Int))) (ev_t rfl rfl) (ev_t rfl rfl) rfl (w0 rfl) ?_
            refine c_done (n_then ?_)
            by_cases h75 : ((k : Nat) : Int) < ((exAt lv i).kids.length : Int)
            · refine c_cond1 (vb (ev_t rfl rfl) (decide_eq_true h75)) ?_
              refine c_skip (n_then (c_seq (c_block (c_reg ?_))))
              refine s_move (v := .slice A2 nx.length c2) (ev_t rfl e60) (w0 rfl) ?_
              refine s_move (v := .slice A1 lv.length c1) (ev_t rfl e58) (w0 rfl) ?_
              refine s_move (v := .int .i64 ((i : Nat) : Int)) (ev_t rfl e61) (w0 rfl) ?_
              obtain ⟨b76, o77, x78, csx78, hA79, hx80, hR81, hc82⟩ := Row.at_ (Lv.row i54) i (by omega)
              obtain rfl := exAt_of hx80
              obtain ⟨A83, c84, rfl, ho85, hr86⟩ := RE.open_ hR81
              have hkc87 := Ex.okc.c ho85
              refine s_indexR (j := i) F_l34 (ev_t rfl rfl) hA79 (ev_t rfl rfl) rfl (by omega) (w0 rfl) ?_
              refine s_field (off := 5) (o' := o77 + i * 6 + 5) F_f36_2 (ev_t rfl rfl) rfl (w0 rfl) ?_
              refine s_load (v := .slice A83 ((exAt lv i).kids.length) c84) F_o34 (ev_t rfl rfl) (hc82 5 _ rfl) (w0 rfl) ?_
              refine s_move (v := .int .i64 ((k : Nat) : Int)) (ev_t rfl e62) (w0 rfl) ?_
              obtain ⟨b88, o89, x90, csx90, hA91, hx92, hR93, hc94⟩ := Row.at_ hr86 k (by omega)
              obtain rfl := Ex.kid_of hx92
              obtain ⟨A95, c96, rfl, ho97, hr98⟩ := RE.open_ hR93
              refine s_indexR (j := k) F_l34 (ev_t rfl rfl) hA91 (ev_t rfl rfl) rfl (by omega) (w0 rfl) ?_
              refine s_loadL (cs := [.int .i8 (((exAt lv i).kid k).op), .string (((exAt lv i).kid k).t.v), .int .i8 (((exAt lv i).kid k).t.l.k), .int .i64 (((exAt lv i).kid k).t.l.n), .string (((exAt lv i).kid k).t.l.s), .slice A95 (((exAt lv i).kid k).kids.length) c96]) (ca := #[.int .i8 (((exAt lv i).kid k).op), .string (((exAt lv i).kid k).t.v), .int .i8 (((exAt lv i).kid k).t.l.k), .int .i64 (((exAt lv i).kid k).t.l.n), .string (((exAt lv i).kid k).t.l.s), .slice A95 (((exAt lv i).kid k).kids.length) c96]) F_m36 (ev_t rfl rfl) rfl rfl (sub_cells (cells_ext x49 hc94) 0 (cs2 := [.int .i8 (((exAt lv i).kid k).op), .string (((exAt lv i).kid k).t.v), .int .i8 (((exAt lv i).kid k).t.l.k), .int .i64 (((exAt lv i).kid k).t.l.n), .string (((exAt lv i).kid k).t.l.s), .slice A95 (((exAt lv i).kid k).kids.length) c96]) rfl) (w0 rfl) ?_
              refine s_bslice (vs := [(0, .agg #[.int .i8 (((exAt lv i).kid k).op), .string (((exAt lv i).kid k).t.v), .int .i8 (((exAt lv i).kid k).t.l.k), .int .i64 (((exAt lv i).kid k).t.l.n), .string (((exAt lv i).kid k).t.l.s), .slice A95 (((exAt lv i).kid k).kids.length) c96])]) (cs := #[.int .i8 (((exAt lv i).kid k).op), .string (((exAt lv i).kid k).t.v), .int .i8 (((exAt lv i).kid k).t.l.k), .int .i64 (((exAt lv i).kid k).t.l.n), .string (((exAt lv i).kid k).t.l.s), .slice A95 (((exAt lv i).kid k).kids.length) c96]) (b1 (ev_t rfl rfl)) (bs34_1_0ii8_0s_0ii8_0ii64_0s_0s (((exAt lv i).kid k).op) (((exAt lv i).kid k).t.v) (((exAt lv i).kid k).t.l.k) (((exAt lv i).kid k).t.l.n) (((exAt lv i).kid k).t.l.s) A95 (((exAt lv i).kid k).kids.length) c96) (w0 rfl) ?_
              intro w100 g99 n101
              refine s_appendE (q := ((exAt lv i).kid k)) F_ul34 F_if36 rfl (ev_t rfl rfl) (OwnE.ext i53 (NewB.ext n101)) (ev_t rfl rfl) ho97 hr98 (NewB.blk n101) (by omega) (by omega) (Nat.le_trans hB2 (Keep.size (NewB.ext n101))) (w0 rfl) ?_
              intro A102 c103 w104 ow105 k106
              refine s_assign (v := .slice A102 (nx.length + 1) c103) (ev_t rfl rfl) (w0 rfl) ?_
              refine c_done (n_block (n_then (c_reg ?_)))
              refine s_move (v := .int .i64 ((k : Nat) : Int)) (ev_t rfl e62) (w0 rfl) ?_
              refine s_add (r := ((k + 1 : Nat) : Int)) (ev_t rfl rfl) ev_c (by omega) (by omega) (w0 rfl) ?_
              refine s_assign (v := .int .i64 ((k + 1 : Nat) : Int)) (ev_t rfl rfl) (w0 rfl) ?_
              refine c_done ?_
              exact ⟨(k + 1, (nx ++ [((exAt lv i).kid k)]), A102, c103), _, rfl, ⟨(Keep.then_ (Ext.trans x49 (NewB.ext n101)) k106 (fun i_ hi_ h_ => by have a_ := geB2; omega)), by omega, (by simp only [List.length_append, List.length_singleton]; omega), ow105, (Lv.keep (Lv.ext i54 (NewB.ext n101)) k106), (by have a_ := Keep.size (NewB.ext n101); have b_ := Keep.size k106; omega), e56, e57, e58, e59, (by rw [List.length_append]; rfl), e61, rfl⟩, (show (exAt lv i).kids.length - (k + 1) < (exAt lv i).kids.length - k by omega)⟩
            · refine c_cond0 (vb (ev_t rfl rfl) (decide_eq_false h75)) ?_
              refine c_exit (e_then (e_then (e_hit (n_block (n_then (c_reg ?_))))))
              refine s_move (v := .int .i64 ((i : Nat) : Int)) (ev_t rfl e61) (w0 rfl) ?_
              refine s_add (r := ((i + 1 : Nat) : Int)) (ev_t rfl rfl) ev_c (by omega) (by omega) (w0 rfl) ?_
              refine s_assign (v := .int .i64 ((i + 1 : Nat) : Int)) (ev_t rfl rfl) (w0 rfl) ?_
              refine c_done ?_
              exact ⟨(i + 1, nx, A2, c2), _, rfl, ⟨x49, by omega, by omega, i53, i54, (Nat.le_trans hB2 (Keep.size (Ext.refl _))), e56, e57, e58, e59, e60, rfl⟩, (show lv.length - (i + 1) < lv.length - i by omega)⟩
        · refine c_cond0 (vb (ev_t rfl rfl) (decide_eq_false h34)) ?_
          refine c_exit (e_then (e_then (e_hit (n_then (c_reg ?_)))))
          refine s_move (v := .slice A2 nx.length c2) (ev_t rfl e32) (w0 rfl) ?_
          refine s_assign (v := .slice A2 nx.length c2) (ev_t rfl rfl) (w0 rfl) ?_
          refine c_done (n_block (n_then (c_reg ?_)))
          refine s_move (v := .int .i64 ((dp : Nat) : Int)) (ev_t rfl e31) (w0 rfl) ?_
          refine s_add (r := ((dp + 1 : Nat) : Int)) (ev_t rfl rfl) ev_c (by omega) (by omega) (w0 rfl) ?_
          refine s_assign (v := .int .i64 ((dp + 1 : Nat) : Int)) (ev_t rfl rfl) (w0 rfl) ?_
          refine c_done ?_
          exact ⟨(nx, A2, c2, nn + lv.length, dp + 1), _, rfl, ⟨x21, by omega, by omega, (OwnE.lv i25), e28, e29, rfl, rfl⟩, (show 65536 - (dp + 1) < 65536 - dp by omega)⟩
  · refine c_cond0 (vb (ev_t rfl rfl) (decide_eq_false h17)) ?_
    refine c_exit (e_then (e_then (e_hit (n_then (c_seq (c_reg ?_))))))
    refine s_move (v := .int .i64 ((nn : Nat) : Int)) (ev_t rfl e14) (w0 rfl) ?_
    refine s_assign (v := .int .i64 ((nn : Nat) : Int)) (ev_t rfl rfl) (w0 rfl) ?_
    refine c_done (n_then (c_ret ?_))
    refine ret1 (v := .int .i64 ((nn : Nat) : Int)) rfl rfl rfl ?_
    exact ⟨_, rfl, ⟨nn, by omega, rfl⟩, x8⟩
end Go.Proofs.Zw

set_option linter.unusedVariables false
set_option linter.unusedSimpArgs false
namespace Go.Wk
open Go Go.RowKit Go.Lib
/-! ### the document's first examples -/
def tmX : Tm := ⟨⟨#[88]⟩, ⟨0, 0, ⟨#[]⟩⟩⟩
def tm5 : Tm := ⟨⟨#[]⟩, ⟨1, 5, ⟨#[]⟩⟩⟩
def exLive : Ex := .mk 3 Tm.none [.mk 0 tmX [], .mk 1 Tm.none [.mk 0 tm5 []]]
def atLive : At := ⟨⟨#[112]⟩, [⟨⟨#[95]⟩, ⟨0, 0, ⟨#[]⟩⟩⟩, ⟨⟨#[]⟩, ⟨2, 0, ⟨#[97]⟩⟩⟩]⟩
theorem itoa5 : itoaB 5 = ⟨#[53]⟩ := by
  unfold itoaB itoa
  rw [if_neg (by decide), decDigits, dif_pos (by decide)]
  rfl
theorem live_exB : exB 8 exLive = true := by decide
theorem live_exW : exW 8 exLive = ⟨#[88, 32, 45, 32, 45, 40, 53, 41]⟩ := by
  have h5 : termW tm5 = ⟨#[53]⟩ := by
    unfold termW
    rw [if_pos (by decide), if_pos (by decide)]
    unfold showB
    rw [if_pos (by decide)]
    exact itoa5
  have hX : termW tmX = ⟨#[88]⟩ := rfl
  have e5 : exW 6 (.mk 0 tm5 []) = ⟨#[53]⟩ := by rw [exW_pos (by decide), if_pos (by decide)]; exact h5
  have eX : exW 7 (.mk 0 tmX []) = ⟨#[88]⟩ := by rw [exW_pos (by decide), if_pos (by decide)]; exact hX
  have en : exW 7 (.mk 1 Tm.none [.mk 0 tm5 []]) = ⟨#[45, 40, 53, 41]⟩ := by
    rw [exW_pos (by decide), if_neg (by decide), if_neg (by decide), if_pos (by decide)]
    show (⟨#[45]⟩ : ByteArray) ++ inB _ (exW 6 (.mk 0 tm5 [])) = _
    rw [e5]
    rfl
  rw [exW_pos (by decide), if_neg (by decide), if_neg (by decide), if_neg (by decide)]
  show inB _ (exW 7 (.mk 0 tmX [])) ++ _ ++ _ ++ _ ++ inB _ (exW 7 (.mk 1 Tm.none [.mk 0 tm5 []])) = _
  rw [eX, en]
  rfl
theorem live_atB : atB atLive = true := by decide
theorem live_atW : atW atLive = ⟨#[112, 40, 95, 44, 32, 97, 41]⟩ := by rfl
theorem nil_wf : Tm.none.wf := ⟨by decide, ⟨by decide, by decide, by decide⟩⟩
theorem RE_leaf (w : World) {t : Tm} (ht : t.wf) : RE w (.mk 0 t []) [.int .i8 0, .string t.v, .int .i8 t.l.k, .int .i64 t.l.n, .string t.l.s, .slice none 0 0] :=
  RE.mk_ (x := .mk 0 t []) (c := 0) ⟨⟨by show (-128 : Int) ≤ 0; decide, by show (0 : Int) ≤ 127; decide⟩, ht, Nat.le_refl _, by show 0 * 80 ≤ 140737488351232; decide⟩ Row.nil
theorem live_row {w : World} {g g2 t : Nat} (h1 : w.heap[g]? = some (.cells #[.int .i8 0, .string ⟨#[88]⟩, .int .i8 0, .int .i64 0, .string ⟨#[]⟩, .slice none 0 0, .int .i8 1, .string ⟨#[]⟩, .int .i8 0, .int .i64 0, .string ⟨#[]⟩, .slice (some ⟨g2, 0, none⟩) 1 1] t (0, 0)))
    (h2 : w.heap[g2]? = some (.cells #[.int .i8 0, .string ⟨#[]⟩, .int .i8 1, .int .i64 5, .string ⟨#[]⟩, .slice none 0 0] t (0, 0))) : Row RE 6 w (some ⟨g, 0, none⟩) exLive.kids := by
  have hw5 : tm5.wf := ⟨by decide, ⟨by decide, by decide, by decide⟩⟩
  have hwX : tmX.wf := ⟨by decide, ⟨by decide, by decide, by decide⟩⟩
  have r5 : Row RE 6 w (some ⟨g2, 0, none⟩) [.mk 0 tm5 []] := .inr ⟨g2, 0, rfl, fun j x hx => by
    have hj : j = 0 := by have := (List.getElem?_eq_some_iff.1 hx).1; simpa using this
    subst hj
    have : x = .mk 0 tm5 [] := by simpa using hx.symm
    subst this
    exact ⟨_, RE_leaf w hw5, blk_cells h2 0 (cs := [.int .i8 0, .string ⟨#[]⟩, .int .i8 1, .int .i64 5, .string ⟨#[]⟩, .slice none 0 0]) rfl⟩⟩
  refine .inr ⟨g, 0, rfl, fun j x hx => ?_⟩
  have hj : j < 2 := by have := (List.getElem?_eq_some_iff.1 hx).1; exact this
  have hj2 : j = 0 ∨ j = 1 := by omega
  rcases hj2 with rfl | rfl
  · have : x = .mk 0 tmX [] := by simpa [exLive, Ex.kids] using hx.symm
    subst this
    exact ⟨_, RE_leaf w hwX, blk_cells h1 0 (cs := [.int .i8 0, .string ⟨#[88]⟩, .int .i8 0, .int .i64 0, .string ⟨#[]⟩, .slice none 0 0]) rfl⟩
  · have : x = .mk 1 Tm.none [.mk 0 tm5 []] := by simpa [exLive, Ex.kids] using hx.symm
    subst this
    exact ⟨_, RE.mk_ (x := .mk 1 Tm.none [.mk 0 tm5 []]) (c := 1) ⟨by decide, nil_wf, by decide, by decide⟩ r5, blk_cells h1 6 (cs := [.int .i8 1, .string ⟨#[]⟩, .int .i8 0, .int .i64 0, .string ⟨#[]⟩, .slice (some ⟨g2, 0, none⟩) 1 1]) rfl⟩
theorem live_args {w : World} {g t : Nat} (h1 : w.heap[g]? = some (.cells #[.string ⟨#[95]⟩, .int .i8 0, .int .i64 0, .string ⟨#[]⟩, .string ⟨#[]⟩, .int .i8 2, .int .i64 0, .string ⟨#[97]⟩] t (0, 0))) : Row RT 4 w (some ⟨g, 0, none⟩) atLive.args := by
  refine .inr ⟨g, 0, rfl, fun j x hx => ?_⟩
  have hj : j < 2 := by have := (List.getElem?_eq_some_iff.1 hx).1; exact this
  have hj2 : j = 0 ∨ j = 1 := by omega
  rcases hj2 with rfl | rfl
  · have : x = ⟨⟨#[95]⟩, ⟨0, 0, ⟨#[]⟩⟩⟩ := by simpa [atLive] using hx.symm
    subst this
    exact ⟨_, ⟨rfl, ⟨by decide, ⟨by decide, by decide, by decide⟩⟩⟩, blk_cells h1 0 (cs := [.string ⟨#[95]⟩, .int .i8 0, .int .i64 0, .string ⟨#[]⟩]) rfl⟩
  · have : x = ⟨⟨#[]⟩, ⟨2, 0, ⟨#[97]⟩⟩⟩ := by simpa [atLive] using hx.symm
    subst this
    exact ⟨_, ⟨rfl, ⟨by decide, ⟨by decide, by decide, by decide⟩⟩⟩, blk_cells h1 4 (cs := [.string ⟨#[]⟩, .int .i8 2, .int .i64 0, .string ⟨#[97]⟩]) rfl⟩
theorem cmpS_self (a : ByteArray) : cmpS .eql a a = some true := by simp [cmpS]
end Go.Wk

set_option linter.unusedVariables false
set_option linter.unusedSimpArgs false
set_option maxRecDepth 10000
namespace Go.Proofs.Zw
open Go Go.Wk Go.Proofs Go.Lib
attribute [local irreducible] Go.wpList Go.wpStill Go.wpQuiet Go.Code.wp Go.Calls
theorem F_e10 : enterable Tryz.prog 10 = true := by kernel_rfl
theorem F_e43 : enterable Tryz.prog 43 = true := by kernel_rfl
theorem bd24_0s_1s : ∀ (a0 : ByteArray) (a1 : Option Addr) (a1n a1c : Nat), ∀ w : World, (Instr.build 24 [(0, .string a0), (1, .slice a1 a1n a1c)].toArray).run Tryz.prog w = .ok (.agg #[.string a0, .slice a1 a1n a1c]) w := by
  intros
  kernel_rfl
theorem bd31_0ii8_1ii64 : ∀ (a0 : Int) (a1 : Int), ∀ w : World, (Instr.build 31 [(0, .int .i8 a0), (1, .int .i64 a1)].toArray).run Tryz.prog w = .ok (.agg #[.int .i8 a0, .int .i64 a1, .string (⟨#[]⟩ : ByteArray)]) w := by
  intros
  kernel_rfl
theorem bd31_0ii8_2s : ∀ (a0 : Int) (a1 : ByteArray), ∀ w : World, (Instr.build 31 [(0, .int .i8 a0), (2, .string a1)].toArray).run Tryz.prog w = .ok (.agg #[.int .i8 a0, .int .i64 0, .string a1]) w := by
  intros
  kernel_rfl
theorem bd33_1ii8_1ii64_1s : ∀ (a0 : Int) (a1 : Int) (a2 : ByteArray), ∀ w : World, (Instr.build 33 [(1, .agg #[.int .i8 a0, .int .i64 a1, .string a2])].toArray).run Tryz.prog w = .ok (.agg #[.string (⟨#[]⟩ : ByteArray), .int .i8 a0, .int .i64 a1, .string a2]) w := by
  intros
  kernel_rfl
theorem bd36_0ii8_2s : ∀ (a0 : Int) (a1 : Option Addr) (a1n a1c : Nat), ∀ w : World, (Instr.build 36 [(0, .int .i8 a0), (2, .slice a1 a1n a1c)].toArray).run Tryz.prog w = .ok (.agg #[.int .i8 a0, .string (⟨#[]⟩ : ByteArray), .int .i8 0, .int .i64 0, .string (⟨#[]⟩ : ByteArray), .slice a1 a1n a1c]) w := by
  intros
  kernel_rfl
theorem bd36_1s_1ii8_1ii64_1s : ∀ (a0 : ByteArray) (a1 : Int) (a2 : Int) (a3 : ByteArray), ∀ w : World, (Instr.build 36 [(1, .agg #[.string a0, .int .i8 a1, .int .i64 a2, .string a3])].toArray).run Tryz.prog w = .ok (.agg #[.int .i8 0, .string a0, .int .i8 a1, .int .i64 a2, .string a3, .slice none 0 0]) w := by
  intros
  kernel_rfl
theorem bs22_2_0s_0ii8_0ii64_0s_1s_1ii8_1ii64_1s : ∀ (a0 : ByteArray) (a1 : Int) (a2 : Int) (a3 : ByteArray) (a4 : ByteArray) (a5 : Int) (a6 : Int) (a7 : ByteArray), ∀ w : World, (Instr.buildSlice 22 2 [(0, .agg #[.string a0, .int .i8 a1, .int .i64 a2, .string a3]), (1, .agg #[.string a4, .int .i8 a5, .int .i64 a6, .string a7])].toArray).run Tryz.prog w = .ok (.slice (some ⟨w.heap.size, 0, none⟩) 2 2) (w.alloc (.cells #[.string a0, .int .i8 a1, .int .i64 a2, .string a3, .string a4, .int .i8 a5, .int .i64 a6, .string a7] 33)) := by
  intros
  kernel_rfl
theorem bs34_2_0ii8_0s_0ii8_0ii64_0s_0s_1ii8_1s_1ii8_1ii64_1s_1s : ∀ (a0 : Int) (a1 : ByteArray) (a2 : Int) (a3 : Int) (a4 : ByteArray) (a5 : Option Addr) (a5n a5c : Nat) (a6 : Int) (a7 : ByteArray) (a8 : Int) (a9 : Int) (a10 : ByteArray) (a11 : Option Addr) (a11n a11c : Nat), ∀ w : World, (Instr.buildSlice 34 2 [(0, .agg #[.int .i8 a0, .string a1, .int .i8 a2, .int .i64 a3, .string a4, .slice a5 a5n a5c]), (1, .agg #[.int .i8 a6, .string a7, .int .i8 a8, .int .i64 a9, .string a10, .slice a11 a11n a11c])].toArray).run Tryz.prog w = .ok (.slice (some ⟨w.heap.size, 0, none⟩) 2 2) (w.alloc (.cells #[.int .i8 a0, .string a1, .int .i8 a2, .int .i64 a3, .string a4, .slice a5 a5n a5c, .int .i8 a6, .string a7, .int .i8 a8, .int .i64 a9, .string a10, .slice a11 a11n a11c] 36)) := by
  intros
  kernel_rfl
theorem p_liveE (w : World) (g g2 : Nat) (tb : Tabs Tryz.prog w) (h1 : w.heap[g]? = some (.cells #[.int .i8 0, .string ⟨#[88]⟩, .int .i8 0, .int .i64 0, .string ⟨#[]⟩, .slice none 0 0, .int .i8 1, .string ⟨#[]⟩, .int .i8 0, .int .i64 0, .string ⟨#[]⟩, .slice (some ⟨g2, 0, none⟩) 1 1] 36 (0, 0)))
    (h2 : w.heap[g2]? = some (.cells #[.int .i8 0, .string ⟨#[]⟩, .int .i8 1, .int .i64 5, .string ⟨#[]⟩, .slice none 0 0] 36 (0, 0))) : Rt Tryz.prog 43 #[.agg #[.int .i8 3, .string ⟨#[]⟩, .int .i8 0, .int .i64 0, .string ⟨#[]⟩, .slice (some ⟨g, 0, none⟩) 2 2]] w fun v w' => v = .tuple #[.string ⟨#[88, 32, 45, 32, 45, 40, 53, 41]⟩, .int .i64 0] ∧ Ext w w' := by
  refine Rt.mono (p_Expr exLive (some ⟨g, 0, none⟩) 2 w ⟨by decide, nil_wf, by decide, by decide⟩ (live_row h1 h2) tb) ?_
  rintro v w' ⟨rfl, x⟩
  exact ⟨by rw [live_exB, if_pos rfl, live_exW]; rfl, x⟩
theorem p_liveA (w : World) (g : Nat) (tb : Tabs Tryz.prog w) (h1 : w.heap[g]? = some (.cells #[.string ⟨#[95]⟩, .int .i8 0, .int .i64 0, .string ⟨#[]⟩, .string ⟨#[]⟩, .int .i8 2, .int .i64 0, .string ⟨#[97]⟩] 33 (0, 0))) :
    Rt Tryz.prog 10 #[.agg #[.string ⟨#[112]⟩, .slice (some ⟨g, 0, none⟩) 2 2]] w fun v w' => v = .tuple #[.string ⟨#[112, 40, 95, 44, 32, 97, 41]⟩, .int .i64 0] ∧ Ext w w' := by
  refine Rt.mono (p_Atom atLive (some ⟨g, 0, none⟩) 2 w ⟨by decide, by decide, by decide⟩ (live_args h1) tb) ?_
  rintro v w' ⟨rfl, x⟩
  exact ⟨by rw [live_atB, if_pos rfl, live_atW]; rfl, x⟩
set_option maxHeartbeats 4000000 in
theorem l_lives  (w : World) (tb : Tabs Tryz.prog w) :
    Rt Tryz.prog 17 #[] w fun v w' => v = .bool true ∧ Ext w w' := by
  refine enter Tryz.func17 rfl (l := []) rfl Tryz.ntmps17 (Nat.le_of_ble_eq_true rfl) ?_
  refine c_seq (c_reg ?_)
  refine s_assign (v := .bool false) ev_c (w0 rfl) ?_
  refine c_done (n_then (c_seq (c_reg ?_)))
  refine s_build (v := .agg #[.string (⟨#[88]⟩ : ByteArray), .int .i8 0, .int .i64 0, .string (⟨#[]⟩ : ByteArray)]) (vs := [(0, .string (⟨#[88]⟩ : ByteArray))]) (b1 ev_c) (bd33_0s (⟨#[88]⟩ : ByteArray)) (w0 rfl) ?_
  refine s_build (v := .agg #[.int .i8 0, .string (⟨#[88]⟩ : ByteArray), .int .i8 0, .int .i64 0, .string (⟨#[]⟩ : ByteArray), .slice none 0 0]) (vs := [(1, .agg #[.string (⟨#[88]⟩ : ByteArray), .int .i8 0, .int .i64 0, .string (⟨#[]⟩ : ByteArray)])]) (b1 (ev_t rfl rfl)) (bd36_1s_1ii8_1ii64_1s (⟨#[88]⟩ : ByteArray) 0 0 (⟨#[]⟩ : ByteArray)) (w0 rfl) ?_
  refine s_build (v := .agg #[.int .i8 1, .int .i64 5, .string (⟨#[]⟩ : ByteArray)]) (vs := [(0, .int .i8 1), (1, .int .i64 5)]) (b2 ev_c ev_c) (bd31_0ii8_1ii64 1 5) (w0 rfl) ?_
  refine s_build (v := .agg #[.string (⟨#[]⟩ : ByteArray), .int .i8 1, .int .i64 5, .string (⟨#[]⟩ : ByteArray)]) (vs := [(1, .agg #[.int .i8 1, .int .i64 5, .string (⟨#[]⟩ : ByteArray)])]) (b1 (ev_t rfl rfl)) (bd33_1ii8_1ii64_1s 1 5 (⟨#[]⟩ : ByteArray)) (w0 rfl) ?_
  refine s_build (v := .agg #[.int .i8 0, .string (⟨#[]⟩ : ByteArray), .int .i8 1, .int .i64 5, .string (⟨#[]⟩ : ByteArray), .slice none 0 0]) (vs := [(1, .agg #[.string (⟨#[]⟩ : ByteArray), .int .i8 1, .int .i64 5, .string (⟨#[]⟩ : ByteArray)])]) (b1 (ev_t rfl rfl)) (bd36_1s_1ii8_1ii64_1s (⟨#[]⟩ : ByteArray) 1 5 (⟨#[]⟩ : ByteArray)) (w0 rfl) ?_
  refine s_alloc (cs := #[.int .i8 0, .string (⟨#[]⟩ : ByteArray), .int .i8 0, .int .i64 0, .string (⟨#[]⟩ : ByteArray), .slice none 0 0]) (w0 rfl) F_z36 rfl ?_
  intro w2 g1 n3
  refine s_alloc (cs := #[.int .i8 0, .string (⟨#[]⟩ : ByteArray), .int .i8 0, .int .i64 0, .string (⟨#[]⟩ : ByteArray), .slice none 0 0]) (w0 rfl) F_z36 rfl ?_
  intro w5 g4 n6
  refine s_store (cs' := #[.int .i8 0, .string (⟨#[88]⟩ : ByteArray), .int .i8 0, .int .i64 0, .string (⟨#[]⟩ : ByteArray), .slice none 0 0]) F_sz36 (ev_t rfl rfl) (ev_t rfl rfl) (l := [.int .i8 0, .string (⟨#[88]⟩ : ByteArray), .int .i8 0, .int .i64 0, .string (⟨#[]⟩ : ByteArray), .slice none 0 0]) rfl rfl rfl (Ext.blk (NewB.ext n6) (NewB.blk n3)) (Nat.le_of_ble_eq_true rfl) rfl (w0 rfl) ?_
  intro w7 k8
  refine s_store (cs' := #[.int .i8 0, .string (⟨#[]⟩ : ByteArray), .int .i8 1, .int .i64 5, .string (⟨#[]⟩ : ByteArray), .slice none 0 0]) F_sz36 (ev_t rfl rfl) (ev_t rfl rfl) (l := [.int .i8 0, .string (⟨#[]⟩ : ByteArray), .int .i8 1, .int .i64 5, .string (⟨#[]⟩ : ByteArray), .slice none 0 0]) rfl rfl rfl (Keep.blk (Wrote.keep k8) (NewB.blk n6) (by have a_ := NewB.eq n6; have b_ := lt_of_blk (NewB.blk n3); omega)) (Nat.le_of_ble_eq_true rfl) rfl (w0 rfl) ?_
  intro w9 k10
  refine c_done (n_then (c_seq (c_reg ?_)))
  refine s_loadL (cs := [.int .i8 0, .string (⟨#[88]⟩ : ByteArray), .int .i8 0, .int .i64 0, .string (⟨#[]⟩ : ByteArray), .slice none 0 0]) (ca := #[.int .i8 0, .string (⟨#[88]⟩ : ByteArray), .int .i8 0, .int .i64 0, .string (⟨#[]⟩ : ByteArray), .slice none 0 0]) F_m36 (ev_t rfl rfl) rfl rfl (blk_cells (Keep.blk (Wrote.keep k10) (Wrote.blk k8) (by have a_ := NewB.eq n6; have b_ := lt_of_blk (NewB.blk n3); omega)) 0 (cs := [.int .i8 0, .string (⟨#[88]⟩ : ByteArray), .int .i8 0, .int .i64 0, .string (⟨#[]⟩ : ByteArray), .slice none 0 0]) rfl) (w0 rfl) ?_
  refine s_loadL (cs := [.int .i8 0, .string (⟨#[]⟩ : ByteArray), .int .i8 1, .int .i64 5, .string (⟨#[]⟩ : ByteArray), .slice none 0 0]) (ca := #[.int .i8 0, .string (⟨#[]⟩ : ByteArray), .int .i8 1, .int .i64 5, .string (⟨#[]⟩ : ByteArray), .slice none 0 0]) F_m36 (ev_t rfl rfl) rfl rfl (blk_cells (Wrote.blk k10) 0 (cs := [.int .i8 0, .string (⟨#[]⟩ : ByteArray), .int .i8 1, .int .i64 5, .string (⟨#[]⟩ : ByteArray), .slice none 0 0]) rfl) (w0 rfl) ?_
  refine s_bslice (vs := [(0, .agg #[.int .i8 0, .string (⟨#[]⟩ : ByteArray), .int .i8 1, .int .i64 5, .string (⟨#[]⟩ : ByteArray), .slice none 0 0])]) (cs := #[.int .i8 0, .string (⟨#[]⟩ : ByteArray), .int .i8 1, .int .i64 5, .string (⟨#[]⟩ : ByteArray), .slice none 0 0]) (b1 (ev_t rfl rfl)) (bs34_1_0ii8_0s_0ii8_0ii64_0s_0s 0 (⟨#[]⟩ : ByteArray) 1 5 (⟨#[]⟩ : ByteArray) none 0 0) (w0 rfl) ?_
  intro w12 g11 n13
  refine s_build (v := .agg #[.int .i8 1, .string (⟨#[]⟩ : ByteArray), .int .i8 0, .int .i64 0, .string (⟨#[]⟩ : ByteArray), .slice (some ⟨g11, 0, none⟩) 1 1]) (vs := [(0, .int .i8 1), (2, .slice (some ⟨g11, 0, none⟩) 1 1)]) (b2 ev_c (ev_t rfl rfl)) (bd36_0ii8_2s 1 (some ⟨g11, 0, none⟩) 1 1) (w0 rfl) ?_
  refine s_bslice (vs := [(0, .agg #[.int .i8 0, .string (⟨#[88]⟩ : ByteArray), .int .i8 0, .int .i64 0, .string (⟨#[]⟩ : ByteArray), .slice none 0 0]), (1, .agg #[.int .i8 1, .string (⟨#[]⟩ : ByteArray), .int .i8 0, .int .i64 0, .string (⟨#[]⟩ : ByteArray), .slice (some ⟨g11, 0, none⟩) 1 1])]) (cs := #[.int .i8 0, .string (⟨#[88]⟩ : ByteArray), .int .i8 0, .int .i64 0, .string (⟨#[]⟩ : ByteArray), .slice none 0 0, .int .i8 1, .string (⟨#[]⟩ : ByteArray), .int .i8 0, .int .i64 0, .string (⟨#[]⟩ : ByteArray), .slice (some ⟨g11, 0, none⟩) 1 1]) (b2 (ev_t rfl rfl) (ev_t rfl rfl)) (bs34_2_0ii8_0s_0ii8_0ii64_0s_0s_1ii8_1s_1ii8_1ii64_1s_1s 0 (⟨#[88]⟩ : ByteArray) 0 0 (⟨#[]⟩ : ByteArray) none 0 0 1 (⟨#[]⟩ : ByteArray) 0 0 (⟨#[]⟩ : ByteArray) (some ⟨g11, 0, none⟩) 1 1) (w0 rfl) ?_
  intro w15 g14 n16
  refine s_build (v := .agg #[.int .i8 3, .string (⟨#[]⟩ : ByteArray), .int .i8 0, .int .i64 0, .string (⟨#[]⟩ : ByteArray), .slice (some ⟨g14, 0, none⟩) 2 2]) (vs := [(0, .int .i8 3), (2, .slice (some ⟨g14, 0, none⟩) 2 2)]) (b2 ev_c (ev_t rfl rfl)) (bd36_0ii8_2s 3 (some ⟨g14, 0, none⟩) 2 2) (w0 rfl) ?_
  refine s_call F_e43 (w0 rfl) ev_f (m1 (ev_t rfl rfl)) (args := #[.agg #[.int .i8 3, .string (⟨#[]⟩ : ByteArray), .int .i8 0, .int .i64 0, .string (⟨#[]⟩ : ByteArray), .slice (some ⟨g14, 0, none⟩) 2 2]]) rfl (p_liveE _ g14 g11 (Tabs.ext tb (Ext.trans (Ext.trans (Keep.then_ (Keep.then_ (Ext.trans (NewB.ext n3) (NewB.ext n6)) (Wrote.keep k8) (fun i_ hi_ h_ => by have a_ := NewB.eq n3; have b_ := Keep.size (Ext.refl w); omega)) (Wrote.keep k10) (fun i_ hi_ h_ => by have a_ := NewB.eq n6; have b_ := Keep.size (NewB.ext n3); omega)) (NewB.ext n13)) (NewB.ext n16))) (NewB.blk n16) (Ext.blk (NewB.ext n16) (NewB.blk n13))) ?_
  rintro _ w18 ⟨rfl, x17⟩
  refine s_move (v := .tuple #[.string (⟨#[88, 32, 45, 32, 45, 40, 53, 41]⟩ : ByteArray), .int .i64 0]) (ev_t rfl rfl) (w0 rfl) ?_
  refine s_extract (v := .string (⟨#[88, 32, 45, 32, 45, 40, 53, 41]⟩ : ByteArray)) (ev_t rfl rfl) rfl (w0 rfl) ?_
  refine s_extract (v := .int .i64 0) (ev_t rfl rfl) rfl (w0 rfl) ?_
  refine s_assign (v := .string (⟨#[88, 32, 45, 32, 45, 40, 53, 41]⟩ : ByteArray)) (ev_t rfl rfl) (w0 rfl) ?_
  refine s_assign (v := .int .i64 0) (ev_t rfl rfl) (w0 rfl) ?_
  refine c_done (n_then (c_seq (c_reg ?_)))
  refine s_build (v := .agg #[.string (⟨#[95]⟩ : ByteArray), .int .i8 0, .int .i64 0, .string (⟨#[]⟩ : ByteArray)]) (vs := [(0, .string (⟨#[95]⟩ : ByteArray))]) (b1 ev_c) (bd33_0s (⟨#[95]⟩ : ByteArray)) (w0 rfl) ?_
  refine s_build (v := .agg #[.int .i8 2, .int .i64 0, .string (⟨#[97]⟩ : ByteArray)]) (vs := [(0, .int .i8 2), (2, .string (⟨#[97]⟩ : ByteArray))]) (b2 ev_c ev_c) (bd31_0ii8_2s 2 (⟨#[97]⟩ : ByteArray)) (w0 rfl) ?_
  refine s_build (v := .agg #[.string (⟨#[]⟩ : ByteArray), .int .i8 2, .int .i64 0, .string (⟨#[97]⟩ : ByteArray)]) (vs := [(1, .agg #[.int .i8 2, .int .i64 0, .string (⟨#[97]⟩ : ByteArray)])]) (b1 (ev_t rfl rfl)) (bd33_1ii8_1ii64_1s 2 0 (⟨#[97]⟩ : ByteArray)) (w0 rfl) ?_
  refine s_bslice (vs := [(0, .agg #[.string (⟨#[95]⟩ : ByteArray), .int .i8 0, .int .i64 0, .string (⟨#[]⟩ : ByteArray)]), (1, .agg #[.string (⟨#[]⟩ : ByteArray), .int .i8 2, .int .i64 0, .string (⟨#[97]⟩ : ByteArray)])]) (cs := #[.string (⟨#[95]⟩ : ByteArray), .int .i8 0, .int .i64 0, .string (⟨#[]⟩ : ByteArray), .string (⟨#[]⟩ : ByteArray), .int .i8 2, .int .i64 0, .string (⟨#[97]⟩ : ByteArray)]) (b2 (ev_t rfl rfl) (ev_t rfl rfl)) (bs22_2_0s_0ii8_0ii64_0s_1s_1ii8_1ii64_1s (⟨#[95]⟩ : ByteArray) 0 0 (⟨#[]⟩ : ByteArray) (⟨#[]⟩ : ByteArray) 2 0 (⟨#[97]⟩ : ByteArray)) (w0 rfl) ?_
  intro w20 g19 n21
  refine s_build (v := .agg #[.string (⟨#[112]⟩ : ByteArray), .slice (some ⟨g19, 0, none⟩) 2 2]) (vs := [(0, .string (⟨#[112]⟩ : ByteArray)), (1, .slice (some ⟨g19, 0, none⟩) 2 2)]) (b2 ev_c (ev_t rfl rfl)) (bd24_0s_1s (⟨#[112]⟩ : ByteArray) (some ⟨g19, 0, none⟩) 2 2) (w0 rfl) ?_
  refine s_call F_e10 (w0 rfl) ev_f (m1 (ev_t rfl rfl)) (args := #[.agg #[.string (⟨#[112]⟩ : ByteArray), .slice (some ⟨g19, 0, none⟩) 2 2]]) rfl (p_liveA _ g19 (Tabs.ext tb (Ext.trans (Ext.trans (Ext.trans (Ext.trans (Keep.then_ (Keep.then_ (Ext.trans (NewB.ext n3) (NewB.ext n6)) (Wrote.keep k8) (fun i_ hi_ h_ => by have a_ := NewB.eq n3; have b_ := Keep.size (Ext.refl w); omega)) (Wrote.keep k10) (fun i_ hi_ h_ => by have a_ := NewB.eq n6; have b_ := Keep.size (NewB.ext n3); omega)) (NewB.ext n13)) (NewB.ext n16)) x17) (NewB.ext n21))) (NewB.blk n21)) ?_
  rintro _ w23 ⟨rfl, x22⟩
  refine s_move (v := .tuple #[.string (⟨#[112, 40, 95, 44, 32, 97, 41]⟩ : ByteArray), .int .i64 0]) (ev_t rfl rfl) (w0 rfl) ?_
  refine s_extract (v := .string (⟨#[112, 40, 95, 44, 32, 97, 41]⟩ : ByteArray)) (ev_t rfl rfl) rfl (w0 rfl) ?_
  refine s_extract (v := .int .i64 0) (ev_t rfl rfl) rfl (w0 rfl) ?_
  refine s_assign (v := .string (⟨#[112, 40, 95, 44, 32, 97, 41]⟩ : ByteArray)) (ev_t rfl rfl) (w0 rfl) ?_
  refine s_assign (v := .int .i64 0) (ev_t rfl rfl) (w0 rfl) ?_
  refine c_done (n_then (c_seq (c_reg ?_)))
  refine s_move (v := .string (⟨#[88, 32, 45, 32, 45, 40, 53, 41]⟩ : ByteArray)) (ev_t rfl rfl) (w0 rfl) ?_
  refine s_cmpS (r := true) (ev_t rfl rfl) ev_c (cmpS_self _) (w0 rfl) ?_
  refine s_move (v := .bool true) (ev_t rfl rfl) (w0 rfl) ?_
  refine s_move (v := .int .i64 0) (ev_t rfl rfl) (wy rfl rfl rfl rfl) ?_
  refine s_cmp (r := true) (ev_t rfl rfl) ev_c rfl (wy rfl rfl rfl rfl) ?_
  refine s_pick1 (v := .bool true) (ev_t rfl rfl) (ev_t rfl rfl) (w0 rfl) ?_
  refine s_move (v := .bool true) (ev_t rfl rfl) (w0 rfl) ?_
  refine s_move (v := .string (⟨#[112, 40, 95, 44, 32, 97, 41]⟩ : ByteArray)) (ev_t rfl rfl) (wy rfl rfl rfl rfl) ?_
  refine s_cmpS (r := true) (ev_t rfl rfl) ev_c (cmpS_self _) (wy rfl rfl rfl rfl) ?_
  refine s_pick1 (v := .bool true) (ev_t rfl rfl) (ev_t rfl rfl) (w0 rfl) ?_
  refine s_move (v := .bool true) (ev_t rfl rfl) (w0 rfl) ?_
  refine s_move (v := .int .i64 0) (ev_t rfl rfl) (wy rfl rfl rfl rfl) ?_
  refine s_cmp (r := true) (ev_t rfl rfl) ev_c rfl (wy rfl rfl rfl rfl) ?_
  refine s_pick1 (v := .bool true) (ev_t rfl rfl) (ev_t rfl rfl) (w0 rfl) ?_
  refine s_assign (v := .bool true) (ev_t rfl rfl) (w0 rfl) ?_
  refine c_done (n_then (c_ret ?_))
  refine ret1 (v := .bool true) rfl rfl rfl ?_
  refine ⟨_, rfl, ?_, (Ext.trans (Ext.trans (Ext.trans (Ext.trans (Ext.trans (Keep.then_ (Keep.then_ (Ext.trans (NewB.ext n3) (NewB.ext n6)) (Wrote.keep k8) (fun i_ hi_ h_ => by have a_ := NewB.eq n3; have b_ := Keep.size (Ext.refl w); omega)) (Wrote.keep k10) (fun i_ hi_ h_ => by have a_ := NewB.eq n6; have b_ := Keep.size (NewB.ext n3); omega)) (NewB.ext n13)) (NewB.ext n16)) x17) (NewB.ext n21)) x22)⟩
  rfl
end Go.Proofs.Zw

set_option linter.unusedVariables false
set_option linter.unusedSimpArgs false
namespace Go.Wk
open Go Go.RowKit Go.Lib
/-! ### rows of texts; columns as the document has them -/
def RS (_ : World) (s : ByteArray) (cs : List Value) : Prop := cs = [.string s]
def sAt (l : List ByteArray) (i : Nat) : ByteArray := l.getD i ⟨#[]⟩
theorem sAt_of {l : List ByteArray} {y : ByteArray} {j : Nat} (h : l[j]? = some y) : sAt l j = y := by simp [sAt, List.getD_eq_getElem?_getD, h]
theorem Row.extS {w w' : World} {A : Option Addr} {xs : List ByteArray} (h : Row RS 1 w A xs) (k : Ext w w') : Row RS 1 w' A xs := h.ext k (fun _ _ _ h => h)
def colS (l : List ByteArray) (i : Nat) : ByteArray := if i = 0 then ⟨#[40]⟩ else colP l i
theorem colS_step0 {l : List ByteArray} {i : Nat} (h : ¬ (0 : Int) < (i : Int)) : colS l (i + 1) = colS l i ++ sAt l i := by
  have : i = 0 := by omega
  subst this
  simp only [colS, colP, if_true, if_neg (Nat.succ_ne_zero 0)]
  rw [nil_app]; rfl
theorem colS_step {l : List ByteArray} {i : Nat} (h : (0 : Int) < (i : Int)) : colS l (i + 1) = colS l i ++ ⟨#[44, 32]⟩ ++ sAt l i := by
  have h0 : i ≠ 0 := by omega
  simp only [colS, colP, if_neg h0, if_neg (Nat.succ_ne_zero i)]
  rfl
theorem colS_le {l : List ByteArray} {M : Nat} (h : ∀ i, i < l.length → (sAt l i).size ≤ M) (i : Nat) (hi : i ≤ l.length) : (colS l i).size ≤ i * (M + 2) + 1 := by
  unfold colS
  split
  · simp [z1]
  · have := colP_le h i hi; omega
theorem own_rowS {w : World} {base e c n : Nat} {A : Option Addr} {ss : List ByteArray} (h : w.ownsRow base e 1 (.slice A n c) n (ss.map Value.string)) : Row RS 1 w A ss := by
  have hn : ss.length = n := by have := h.1; simpa using this
  by_cases h0 : ss = []
  · exact .inl h0
  · obtain ⟨b, hA, hc⟩ := own_cells h (by have := List.length_pos_iff.2 h0; omega)
    refine .inr ⟨b, 0, hA, fun j s hs => ⟨[.string s], rfl, fun i u hu => ?_⟩⟩
    have hi : i = 0 := by have := (List.getElem?_eq_some_iff.1 hu).1; simpa using this
    subst hi
    have hu' : u = .string s := by simpa using hu.symm
    subst hu'
    have := hc j (.string s) (by simp [hs])
    simpa using this
theorem take_mapS (l : List Tm) (i : Nat) (hi : i < l.length) : ((l.map termW).take i).map Value.string ++ [.string (termW (tmAt l i))] = ((l.map termW).take (i + 1)).map Value.string := by
  have h2 : i < (l.map termW).length := by simpa using hi
  rw [List.take_succ_eq_append_getElem h2, List.map_append]
  congr 1
  simp [tmAt, List.getD_eq_getElem?_getD, hi]
theorem atW_size {x : At} {w : World} {A : Option Addr} (h : atB x = true) (hr : Row RT 4 w A x.args) : (atW x).size ≤ 30000 := by
  obtain ⟨_, hp, hn, hq⟩ := atB_parts h
  unfold atW colW
  split
  · omega
  · have := colP_le (l := x.args.map termW) (M := 1000) (fun i hi => by
      rw [List.length_map] at hi
      rw [termW_at hi]
      have := termW_size (hq i hi) (RT_wf hr hi)
      omega) (x.args.map termW).length (Nat.le_refl _)
    have hl : (x.args.map termW).length = x.args.length := List.length_map _
    rw [hl] at this ⊢
    simp only [ByteArray.size_append, z1]
    omega
end Go.Wk

set_option linter.unusedVariables false
set_option linter.unusedSimpArgs false
set_option maxRecDepth 10000
namespace Go.Proofs.Zw
open Go Go.Wk Go.Proofs Go.Lib
attribute [local irreducible] Go.wpList Go.wpStill Go.wpQuiet Go.Code.wp Go.Calls
theorem F_e31 : enterable Tryz.prog 31 = true := by kernel_rfl
theorem F_e32 : enterable Tryz.prog 32 = true := by kernel_rfl
theorem F_e60 : enterable Tryz.prog 60 = true := by kernel_rfl
theorem F_e61 : enterable Tryz.prog 61 = true := by kernel_rfl
theorem F_e63 : enterable Tryz.prog 63 = true := by kernel_rfl
theorem F_if9 : (Tryz.prog.info? 9).map (fun i => (i.zero, i.size, i.bytes)) = some (some (.string (⟨#[]⟩ : ByteArray)), 1, 16) := by kernel_rfl
theorem F_ul106 : Tryz.prog.underlying 106 = some (.slice 9) := by kernel_rfl
set_option maxHeartbeats 4000000 in
theorem r4_atom (x : At) (A : Option Addr) (c : Nat) (w : World) (ho : x.okc c) (hr : Row RT 4 w A x.args) :
    Rt Tryz.prog 61 #[.agg #[.string x.p, .slice A x.args.length c]] w fun v w' => v = .bool (atB x) ∧ Ext w w' := by
  refine enter Tryz.func61 rfl (l := [.agg #[.string x.p, .slice A x.args.length c]]) rfl Tryz.ntmps61 (Nat.le_of_ble_eq_true rfl) ?_
  have hl_ := At.okc.l ho
  have hc_ := At.okc.c ho
  have hp_ := At.okc.p ho
  refine c_seq (c_reg ?_)
  refine s_box (v := .agg #[.string x.p, .slice A x.args.length c]) (cs := #[.string x.p, .slice A x.args.length c]) (w0 rfl) (ev_t rfl rfl) rfl ?_
  intro w2 g1 n3
  refine s_assign (v := .bool false) ev_c (w0 rfl) ?_
  refine c_done (n_then (c_seq (c_seq (c_reg ?_))))
  refine s_field (off := 0) (o' := 0) F_f24_0 (ev_t rfl rfl) rfl (w0 rfl) ?_
  refine s_load (v := .string x.p) F_o9 (ev_t rfl rfl) (cell_of_blk (i := 0) (NewB.blk n3) rfl) (w0 rfl) ?_
  refine s_call F_e100 (w0 rfl) ev_f (m1 (ev_t rfl rfl)) (args := #[.string x.p]) rfl (r1_Name x.p _ (by omega)) ?_
  rintro _ w5 ⟨rfl, x4⟩
  refine s_not (b := nameB x.p) (ev_t rfl rfl) (w0 rfl) ?_
  rcases Bool.eq_false_or_eq_true (nameB x.p) with h6 | h6
  · refine s_move (v := .bool false) (vb (ev_t rfl rfl) (nbt h6)) (w0 rfl) ?_
    refine s_field (off := 1) (o' := 1) F_f24_1 (ev_t rfl rfl) rfl (wy rfl rfl rfl rfl) ?_
    refine s_load (v := .slice A x.args.length c) F_o22 (ev_t rfl rfl) (cell_of_blk (i := 1) (Ext.blk x4 (NewB.blk n3)) rfl) (wy rfl rfl rfl rfl) ?_
    refine s_lenL F_l22 (ev_t rfl rfl) (wy rfl rfl rfl rfl) ?_
    refine s_cmp (r := decide (24 < (x.args.length : Int))) (ev_t rfl rfl) ev_c rfl (wy rfl rfl rfl rfl) ?_
    refine s_pick0 (v := .bool (decide (24 < (x.args.length : Int)))) (ev_t rfl rfl) (ev_t rfl rfl) (w0 rfl) ?_
    refine c_done (n_then ?_)
    by_cases h7 : 24 < (x.args.length : Int)
    · refine c_cond1 (vb (ev_t rfl rfl) (decide_eq_true h7)) ?_
      refine c_seq (c_reg ?_)
      refine s_assign (v := .bool false) ev_c (w0 rfl) ?_
      refine c_done (n_then (c_ret (r_then ?_)))
      refine ret1 (v := .bool false) rfl rfl rfl ?_
      refine ⟨_, rfl, ?_, (Ext.trans (NewB.ext n3) x4)⟩
      (refine congrArg Value.bool ?_; unfold atB; first | (simp only [*, decide_true, decide_false, if_true, if_false, Bool.and_true, Bool.true_and, Bool.false_and, Bool.and_false, Bool.not_true, Bool.not_false, Bool.false_eq_true, reduceIte, not_true_eq_false, not_false_eq_true]; done) | (rw [show decide ((x.args.length : Int) ≤ 24) = false by simp; omega]; simp only [Bool.and_false, Bool.false_and]))
    · refine c_cond0 (vb (ev_t rfl rfl) (decide_eq_false h7)) ?_
      refine c_skip (n_then (c_seq (c_seq (c_reg ?_))))
      refine s_assign (v := .int .i64 0) ev_c (w0 rfl) ?_
      refine c_done (n_then (c_block ?_))
      refine c_loop (α := Nat) (fun (i : Nat) env_ w_ => Ext w5 w_ ∧ i ≤ x.args.length ∧ (∀ j y, j < i → x.args[j]? = some y → tmB y = true) ∧ env_ 1 = .pointer (some ⟨g1, 0, none⟩) ∧ env_ 3 = .int .i64 ((i : Nat) : Int)) (fun i => x.args.length - i) (0) ⟨Ext.refl _, Nat.zero_le _, (fun j y h => absurd h (Nat.not_lt_zero j)), rfl, rfl⟩ ?_
      rintro i env10 w8 ⟨x9, i11, i12, e13, e14⟩
      refine c_seq (c_seq (c_reg ?_))
      refine s_move (v := .int .i64 ((i : Nat) : Int)) (ev_t rfl e14) (w0 rfl) ?_
      refine s_field (off := 1) (o' := 1) F_f24_1 (ev_t rfl e13) rfl (w0 rfl) ?_
      refine s_load (v := .slice A x.args.length c) F_o22 (ev_t rfl rfl) (cell_of_blk (i := 1) (Ext.blk x9 (Ext.blk x4 (NewB.blk n3))) rfl) (w0 rfl) ?_
      refine s_lenL F_l22 (ev_t rfl rfl) (w0 rfl) ?_
      refine s_cmp (r := decide (((i : Nat) : Int) < (x.args.length : Int))) (ev_t rfl rfl) (ev_t rfl rfl) rfl (w0 rfl) ?_
      refine c_done (n_then ?_)
      by_cases h15 : ((i : Nat) : Int) < (x.args.length : Int)
      · refine c_cond1 (vb (ev_t rfl rfl) (decide_eq_true h15)) ?_
        refine c_skip (n_then (c_seq (c_block (c_seq (c_reg ?_)))))
        refine s_field (off := 1) (o' := 1) F_f24_1 (ev_t rfl e13) rfl (w0 rfl) ?_
        refine s_load (v := .slice A x.args.length c) F_o22 (ev_t rfl rfl) (cell_of_blk (i := 1) (Ext.blk x9 (Ext.blk x4 (NewB.blk n3))) rfl) (w0 rfl) ?_
        refine s_move (v := .int .i64 ((i : Nat) : Int)) (ev_t rfl e14) (w0 rfl) ?_
        obtain ⟨b16, o17, x18, csx18, hA19, hx20, hR21, hc22⟩ := Row.at_ hr i (by omega)
        obtain rfl := tmAt_of hx20
        obtain ⟨rfl, wf23⟩ := hR21
        refine s_indexR (j := i) F_l22 (ev_t rfl rfl) hA19 (ev_t rfl rfl) rfl (by omega) (w0 rfl) ?_
        refine s_loadL (cs := [.string ((tmAt x.args i).v), .int .i8 ((tmAt x.args i).l.k), .int .i64 ((tmAt x.args i).l.n), .string ((tmAt x.args i).l.s)]) (ca := #[.string ((tmAt x.args i).v), .int .i8 ((tmAt x.args i).l.k), .int .i64 ((tmAt x.args i).l.n), .string ((tmAt x.args i).l.s)]) F_m33 (ev_t rfl rfl) rfl rfl (sub_cells (cells_ext x9 (cells_ext x4 (cells_ext (NewB.ext n3) hc22))) 0 (cs2 := [.string ((tmAt x.args i).v), .int .i8 ((tmAt x.args i).l.k), .int .i64 ((tmAt x.args i).l.n), .string ((tmAt x.args i).l.s)]) rfl) (w0 rfl) ?_
        refine s_call F_e101 (w0 rfl) ev_f (m1 (ev_t rfl rfl)) (args := #[.agg #[.string ((tmAt x.args i).v), .int .i8 ((tmAt x.args i).l.k), .int .i64 ((tmAt x.args i).l.n), .string ((tmAt x.args i).l.s)]]) rfl (r4_term (tmAt x.args i) _ wf23) ?_
        rintro _ w25 ⟨rfl, x24⟩
        refine s_not (b := tmB (tmAt x.args i)) (ev_t rfl rfl) (w0 rfl) ?_
        refine c_done (n_then ?_)
        rcases Bool.eq_false_or_eq_true (tmB (tmAt x.args i)) with h26 | h26
        · refine c_cond0 (vb (ev_t rfl rfl) (nbt h26)) ?_
          refine c_skip (n_block (n_then (c_reg ?_)))
          refine s_move (v := .int .i64 ((i : Nat) : Int)) (ev_t rfl e14) (w0 rfl) ?_
          refine s_add (r := ((i + 1 : Nat) : Int)) (ev_t rfl rfl) ev_c (by omega) (by omega) (w0 rfl) ?_
          refine s_assign (v := .int .i64 ((i + 1 : Nat) : Int)) (ev_t rfl rfl) (w0 rfl) ?_
          refine c_done ?_
          exact ⟨(i + 1), _, rfl, ⟨(Ext.trans x9 x24), by omega, (kids_step i12 (tmAt_there (by omega)) (by assumption)), e13, rfl⟩, (show x.args.length - (i + 1) < x.args.length - i by omega)⟩
        · refine c_cond1 (vb (ev_t rfl rfl) (nbf h26)) ?_
          refine c_seq (c_reg ?_)
          refine s_assign (v := .bool false) ev_c (w0 rfl) ?_
          refine c_done (n_then (c_ret (r_block (r_then (r_then (r_block (r_then ?_)))))))
          refine ret1 (v := .bool false) rfl rfl rfl ?_
          refine ⟨_, rfl, ?_, (Ext.trans (Ext.trans (Ext.trans (NewB.ext n3) x4) x9) x24)⟩
          (refine congrArg Value.bool ?_; unfold atB; rw [all_no (tmAt_there (l := x.args) (j := i) (by omega)) (by assumption)]; simp only [Bool.and_false])
      · refine c_cond0 (vb (ev_t rfl rfl) (decide_eq_false h15)) ?_
        refine c_exit (e_then (e_then (e_hit (n_then (c_seq (c_reg ?_))))))
        refine s_assign (v := .bool true) ev_c (w0 rfl) ?_
        refine c_done (n_then (c_ret ?_))
        refine ret1 (v := .bool true) rfl rfl rfl ?_
        refine ⟨_, rfl, ?_, (Ext.trans (Ext.trans (NewB.ext n3) x4) x9)⟩
        (refine congrArg Value.bool ?_; unfold atB; rw [all_yes (by assumption) i12, show decide ((x.args.length : Int) ≤ 24) = true by simp; omega]; simp only [*, decide_true, decide_false, if_true, if_false, Bool.and_true, Bool.true_and, Bool.false_and, Bool.and_false, Bool.not_true, Bool.not_false, Bool.false_eq_true, reduceIte, not_true_eq_false, not_false_eq_true])
  · refine s_move (v := .bool true) (vb (ev_t rfl rfl) (nbf h6)) (w0 rfl) ?_
    refine s_skip (wn rfl rfl rfl rfl rfl) ?_
    refine s_skip (wn rfl rfl rfl rfl rfl) ?_
    refine s_skip (wn rfl rfl rfl rfl rfl) ?_
    refine s_skip (wn rfl rfl rfl rfl rfl) ?_
    refine s_pick1 (v := .bool true) (ev_t rfl rfl) ev_c (w0 rfl) ?_
    refine c_done (n_then ?_)
    refine c_cond1 (ev_t rfl rfl) ?_
    refine c_seq (c_reg ?_)
    refine s_assign (v := .bool false) ev_c (w0 rfl) ?_
    refine c_done (n_then (c_ret (r_then ?_)))
    refine ret1 (v := .bool false) rfl rfl rfl ?_
    refine ⟨_, rfl, ?_, (Ext.trans (NewB.ext n3) x4)⟩
    (refine congrArg Value.bool ?_; unfold atB; first | (simp only [*, decide_true, decide_false, if_true, if_false, Bool.and_true, Bool.true_and, Bool.false_and, Bool.and_false, Bool.not_true, Bool.not_false, Bool.false_eq_true, reduceIte, not_true_eq_false, not_false_eq_true]; done) | (rw [show decide ((x.args.length : Int) ≤ 24) = false by simp; omega]; simp only [Bool.and_false, Bool.false_and]))
set_option maxHeartbeats 4000000 in
theorem r4_CheckAtom (x : At) (A : Option Addr) (c : Nat) (w : World) (ho : x.okc c) (hr : Row RT 4 w A x.args) :
    Rt Tryz.prog 31 #[.agg #[.string x.p, .slice A x.args.length c]] w fun v w' => v = .int .i64 (code (atB x)) ∧ Ext w w' := by
  refine enter Tryz.func31 rfl (l := [.agg #[.string x.p, .slice A x.args.length c]]) rfl Tryz.ntmps31 (Nat.le_of_ble_eq_true rfl) ?_
  have hl_ := At.okc.l ho
  have hc_ := At.okc.c ho
  have hp_ := At.okc.p ho
  refine c_seq (c_reg ?_)
  refine s_box (v := .agg #[.string x.p, .slice A x.args.length c]) (cs := #[.string x.p, .slice A x.args.length c]) (w0 rfl) (ev_t rfl rfl) rfl ?_
  intro w2 g1 n3
  refine s_assign (v := .int .i64 0) ev_c (w0 rfl) ?_
  refine c_done (n_then (c_seq (c_reg ?_)))
  refine s_loadL (cs := [.string x.p, .slice A x.args.length c]) (ca := #[.string x.p, .slice A x.args.length c]) F_m24 (ev_t rfl rfl) rfl rfl (blk_cells (NewB.blk n3) 0 (cs := [.string x.p, .slice A x.args.length c]) rfl) (w0 rfl) ?_
  refine s_call F_e61 (w0 rfl) ev_f (m1 (ev_t rfl rfl)) (args := #[.agg #[.string x.p, .slice A x.args.length c]]) rfl (r4_atom x A c _ ho (Row.extT hr (NewB.ext n3))) ?_
  rintro _ w5 ⟨rfl, x4⟩
  refine s_call F_e60 (w0 rfl) ev_f (m1 (ev_t rfl rfl)) (args := #[.bool (atB x)]) rfl (r4_said (atB x) _) ?_
  rintro _ w7 ⟨rfl, x6⟩
  refine s_assign (v := .int .i64 (code (atB x))) (ev_t rfl rfl) (w0 rfl) ?_
  refine c_done (n_then (c_ret ?_))
  refine ret1 (v := .int .i64 (code (atB x))) rfl rfl rfl ?_
  refine ⟨_, rfl, ?_, (Ext.trans (Ext.trans (NewB.ext n3) x4) x6)⟩
  rfl
set_option maxHeartbeats 4000000 in
theorem r6_columns (nm : ByteArray) (n : Nat) (l : List ByteArray) (A : Option Addr) (c : Nat) (w : World) (hnl : n = l.length) (hr : Row RS 1 w A l) (hn : l.length ≤ 24) (hM : ∀ i, i < l.length → (sAt l i).size ≤ 1000) (hs : nm.size ≤ 1000) :
    Rt Tryz.prog 63 #[.string nm, .slice A n c] w fun v w' => v = .string (colW nm l) ∧ Ext w w' := by
  refine enter Tryz.func63 rfl (l := [.string nm, .slice A n c]) rfl Tryz.ntmps63 (Nat.le_of_ble_eq_true rfl) ?_
  subst hnl
  refine c_seq (c_reg ?_)
  refine s_assign (v := .string (⟨#[]⟩ : ByteArray)) ev_c (w0 rfl) ?_
  refine c_done (n_then (c_seq (c_seq (c_reg ?_))))
  refine s_move (v := .slice A l.length c) (ev_t rfl rfl) (w0 rfl) ?_
  refine s_lenL F_l106 (ev_t rfl rfl) (w0 rfl) ?_
  refine s_cmp (r := decide ((l.length : Int) = 0)) (ev_t rfl rfl) ev_c rfl (w0 rfl) ?_
  refine c_done (n_then ?_)
  by_cases h1 : (l.length : Int) = 0
  · refine c_cond1 (vb (ev_t rfl rfl) (decide_eq_true h1)) ?_
    refine c_seq (c_reg ?_)
    refine s_move (v := .string nm) (ev_t rfl rfl) (w0 rfl) ?_
    refine s_assign (v := .string nm) (ev_t rfl rfl) (w0 rfl) ?_
    refine c_done (n_then (c_ret (r_then ?_)))
    refine ret1 (v := .string nm) rfl rfl rfl ?_
    refine ⟨_, rfl, ?_, (Ext.refl w)⟩
    (refine congrArg Value.string ?_; unfold colW; first | (rw [if_pos (by omega)]; done) | ((have e_ : i = l.length := by omega); subst e_; rw [if_neg (by omega)]; simp only [colS, if_neg (show ¬ l.length = 0 by omega)]))
  · refine c_cond0 (vb (ev_t rfl rfl) (decide_eq_false h1)) ?_
    refine c_skip (n_then (c_seq (c_reg ?_)))
    refine s_move (v := .string nm) (ev_t rfl rfl) (w0 rfl) ?_
    refine s_cat (ev_t rfl rfl) ev_c (by (try simp only [ByteArray.size_append, z0, z1, z2, z3, z4, z5, z6]); omega) (w0 rfl) ?_
    refine s_assign (v := .string (nm ++ (⟨#[40]⟩ : ByteArray))) (ev_t rfl rfl) (w0 rfl) ?_
    refine c_done (n_then (c_seq (c_seq (c_reg ?_))))
    refine s_assign (v := .int .i64 0) ev_c (w0 rfl) ?_
    refine c_done (n_then (c_block ?_))
    refine c_loop (α := Nat) (fun (i : Nat) env_ w_ => Ext w w_ ∧ i ≤ l.length ∧ env_ 1 = .slice A l.length c ∧ env_ 4 = .string (⟨#[]⟩ : ByteArray) ∧ env_ 5 = .string (nm ++ colS l i) ∧ env_ 6 = .int .i64 ((i : Nat) : Int)) (fun i => l.length - i) (0) ⟨Ext.refl _, Nat.zero_le _, rfl, rfl, rfl, rfl⟩ ?_
    rintro i env4 w2 ⟨x3, i5, e6, e7, e8, e9⟩
    have hP_ := colS_le hM i i5
    have hM2_ := hM i
    refine c_seq (c_seq (c_reg ?_))
    refine s_move (v := .int .i64 ((i : Nat) : Int)) (ev_t rfl e9) (w0 rfl) ?_
    refine s_move (v := .slice A l.length c) (ev_t rfl e6) (w0 rfl) ?_
    refine s_lenL F_l106 (ev_t rfl rfl) (w0 rfl) ?_
    refine s_cmp (r := decide (((i : Nat) : Int) < (l.length : Int))) (ev_t rfl rfl) (ev_t rfl rfl) rfl (w0 rfl) ?_
    refine c_done (n_then ?_)
    by_cases h10 : ((i : Nat) : Int) < (l.length : Int)
    · refine c_cond1 (vb (ev_t rfl rfl) (decide_eq_true h10)) ?_
      refine c_skip (n_then (c_seq (c_block (c_seq (c_seq (c_reg ?_))))))
      refine s_move (v := .int .i64 ((i : Nat) : Int)) (ev_t rfl e9) (w0 rfl) ?_
      refine s_cmp (r := decide (0 < ((i : Nat) : Int))) (ev_t rfl rfl) ev_c rfl (w0 rfl) ?_
      refine c_done (n_then ?_)
      by_cases h11 : 0 < ((i : Nat) : Int)
      · refine c_cond1 (vb (ev_t rfl rfl) (decide_eq_true h11)) ?_
        refine c_reg ?_
        refine s_move (v := .string (nm ++ colS l i)) (ev_t rfl e8) (w0 rfl) ?_
        refine s_cat (ev_t rfl rfl) ev_c (by (try simp only [ByteArray.size_append, z0, z1, z2, z3, z4, z5, z6]); omega) (w0 rfl) ?_
        refine s_assign (v := .string ((nm ++ colS l i) ++ (⟨#[44, 32]⟩ : ByteArray))) (ev_t rfl rfl) (w0 rfl) ?_
        refine c_done (n_then (c_reg ?_))
        refine s_move (v := .string ((nm ++ colS l i) ++ (⟨#[44, 32]⟩ : ByteArray))) (ev_t rfl rfl) (w0 rfl) ?_
        refine s_move (v := .slice A l.length c) (ev_t rfl e6) (w0 rfl) ?_
        refine s_move (v := .int .i64 ((i : Nat) : Int)) (ev_t rfl e9) (w0 rfl) ?_
        obtain ⟨b12, o13, x14, csx14, hA15, hx16, hR17, hc18⟩ := Row.at_ hr i (by omega)
        obtain rfl := sAt_of hx16
        obtain rfl := hR17
        refine s_indexR (j := i) F_l106 (ev_t rfl rfl) hA15 (ev_t rfl rfl) rfl (by omega) (w0 rfl) ?_
        refine s_load (v := .string (sAt l i)) F_o9 (ev_t rfl rfl) ((cells_ext x3 hc18) 0 _ rfl) (w0 rfl) ?_
        refine s_cat (ev_t rfl rfl) (ev_t rfl rfl) (by (try simp only [ByteArray.size_append, z0, z1, z2, z3, z4, z5, z6]); omega) (w0 rfl) ?_
        refine s_assign (v := .string ((nm ++ colS l i) ++ (⟨#[44, 32]⟩ : ByteArray) ++ (sAt l i))) (ev_t rfl rfl) (w0 rfl) ?_
        refine c_done (n_block (n_then (c_reg ?_)))
        refine s_move (v := .int .i64 ((i : Nat) : Int)) (ev_t rfl e9) (w0 rfl) ?_
        refine s_add (r := ((i + 1 : Nat) : Int)) (ev_t rfl rfl) ev_c (by omega) (by omega) (w0 rfl) ?_
        refine s_assign (v := .int .i64 ((i + 1 : Nat) : Int)) (ev_t rfl rfl) (w0 rfl) ?_
        refine c_done ?_
        exact ⟨(i + 1), _, rfl, ⟨x3, by omega, e6, e7, (congrArg Value.string (by rw [colS_step (by assumption)]; simp only [app_assoc])), rfl⟩, (show l.length - (i + 1) < l.length - i by omega)⟩
      · refine c_cond0 (vb (ev_t rfl rfl) (decide_eq_false h11)) ?_
        refine c_skip (n_then (c_reg ?_))
        refine s_move (v := .string (nm ++ colS l i)) (ev_t rfl e8) (w0 rfl) ?_
        refine s_move (v := .slice A l.length c) (ev_t rfl e6) (w0 rfl) ?_
        refine s_move (v := .int .i64 ((i : Nat) : Int)) (ev_t rfl e9) (w0 rfl) ?_
        obtain ⟨b19, o20, x21, csx21, hA22, hx23, hR24, hc25⟩ := Row.at_ hr i (by omega)
        obtain rfl := sAt_of hx23
        obtain rfl := hR24
        refine s_indexR (j := i) F_l106 (ev_t rfl rfl) hA22 (ev_t rfl rfl) rfl (by omega) (w0 rfl) ?_
        refine s_load (v := .string (sAt l i)) F_o9 (ev_t rfl rfl) ((cells_ext x3 hc25) 0 _ rfl) (w0 rfl) ?_
        refine s_cat (ev_t rfl rfl) (ev_t rfl rfl) (by (try simp only [ByteArray.size_append, z0, z1, z2, z3, z4, z5, z6]); omega) (w0 rfl) ?_
        refine s_assign (v := .string ((nm ++ colS l i) ++ (sAt l i))) (ev_t rfl rfl) (w0 rfl) ?_
        refine c_done (n_block (n_then (c_reg ?_)))
        refine s_move (v := .int .i64 ((i : Nat) : Int)) (ev_t rfl e9) (w0 rfl) ?_
        refine s_add (r := ((i + 1 : Nat) : Int)) (ev_t rfl rfl) ev_c (by omega) (by omega) (w0 rfl) ?_
        refine s_assign (v := .int .i64 ((i + 1 : Nat) : Int)) (ev_t rfl rfl) (w0 rfl) ?_
        refine c_done ?_
        exact ⟨(i + 1), _, rfl, ⟨x3, by omega, e6, e7, (congrArg Value.string (by rw [colS_step0 (by assumption)]; simp only [app_assoc])), rfl⟩, (show l.length - (i + 1) < l.length - i by omega)⟩
    · refine c_cond0 (vb (ev_t rfl rfl) (decide_eq_false h10)) ?_
      refine c_exit (e_then (e_then (e_hit (n_then (c_seq (c_reg ?_))))))
      refine s_move (v := .string (nm ++ colS l i)) (ev_t rfl e8) (w0 rfl) ?_
      refine s_cat (ev_t rfl rfl) ev_c (by (try simp only [ByteArray.size_append, z0, z1, z2, z3, z4, z5, z6]); omega) (w0 rfl) ?_
      refine s_assign (v := .string ((nm ++ colS l i) ++ (⟨#[41]⟩ : ByteArray))) (ev_t rfl rfl) (w0 rfl) ?_
      refine c_done (n_then (c_ret ?_))
      refine ret1 (v := .string ((nm ++ colS l i) ++ (⟨#[41]⟩ : ByteArray))) rfl rfl rfl ?_
      refine ⟨_, rfl, ?_, x3⟩
      (refine congrArg Value.string ?_; unfold colW; first | (rw [if_pos (by omega)]; done) | ((have e_ : i = l.length := by omega); subst e_; rw [if_neg (by omega)]; simp only [colS, if_neg (show ¬ l.length = 0 by omega)]))
set_option maxHeartbeats 4000000 in
theorem r6_atom (x : At) (A : Option Addr) (c : Nat) (w : World) (ho : x.okc c) (hr : Row RT 4 w A x.args) (hat : atB x = true) :
    Rt Tryz.prog 32 #[.agg #[.string x.p, .slice A x.args.length c]] w fun v w' => v = .string (atW x) ∧ Ext w w' := by
  refine enter Tryz.func32 rfl (l := [.agg #[.string x.p, .slice A x.args.length c]]) rfl Tryz.ntmps32 (Nat.le_of_ble_eq_true rfl) ?_
  have hl_ := At.okc.l ho
  have hc_ := At.okc.c ho
  have hp_ := At.okc.p ho
  obtain ⟨_, hpz_, hn_, hq_⟩ := atB_parts hat
  refine c_seq (c_reg ?_)
  refine s_box (v := .agg #[.string x.p, .slice A x.args.length c]) (cs := #[.string x.p, .slice A x.args.length c]) (w0 rfl) (ev_t rfl rfl) rfl ?_
  intro w2 g1 n3
  refine s_assign (v := .string (⟨#[]⟩ : ByteArray)) ev_c (w0 rfl) ?_
  refine c_done (n_then (c_seq (c_reg ?_)))
  refine s_assign (v := .slice none 0 0) ev_c (w0 rfl) ?_
  refine c_done (n_then (c_seq (c_seq (c_reg ?_))))
  refine s_assign (v := .int .i64 0) ev_c (w0 rfl) ?_
  refine c_done (n_then (c_block ?_))
  have ge4 : w.heap.size ≤ g1 := by have a_ := NewB.eq n3; have b_ := Keep.size (Ext.refl w); omega
  refine c_loop (α := Nat × Option Addr × Nat) (fun x_ env_ w_ => match x_ with | (i, A1, c1) => Ext w w_ ∧ w_.heap[g1]? = some (.cells #[.string x.p, .slice A x.args.length c] 24 (0, 0)) ∧ i ≤ x.args.length ∧ w_.ownsRow w.heap.size 9 1 (.slice A1 i c1) i (((x.args.map termW).take i).map Value.string) ∧ env_ 1 = .pointer (some ⟨g1, 0, none⟩) ∧ env_ 2 = .string (⟨#[]⟩ : ByteArray) ∧ env_ 3 = .slice A1 i c1 ∧ env_ 4 = .int .i64 ((i : Nat) : Int)) (fun x_ => match x_ with | (i, A1, c1) => x.args.length - i) (0, none, 0) ⟨(NewB.ext n3), (NewB.blk n3), Nat.zero_le _, (own_nil _ _ _), rfl, rfl, rfl, rfl⟩ ?_
  rintro ⟨i, A1, c1⟩ env7 w5 ⟨x6, bk14, i8, i9, e10, e11, e12, e13⟩
  refine c_seq (c_seq (c_reg ?_))
  refine s_move (v := .int .i64 ((i : Nat) : Int)) (ev_t rfl e13) (w0 rfl) ?_
  refine s_field (off := 1) (o' := 1) F_f24_1 (ev_t rfl e10) rfl (w0 rfl) ?_
  refine s_load (v := .slice A x.args.length c) F_o22 (ev_t rfl rfl) (cell_of_blk (i := 1) bk14 rfl) (w0 rfl) ?_
  refine s_lenL F_l22 (ev_t rfl rfl) (w0 rfl) ?_
  refine s_cmp (r := decide (((i : Nat) : Int) < (x.args.length : Int))) (ev_t rfl rfl) (ev_t rfl rfl) rfl (w0 rfl) ?_
  refine c_done (n_then ?_)
  by_cases h15 : ((i : Nat) : Int) < (x.args.length : Int)
  · refine c_cond1 (vb (ev_t rfl rfl) (decide_eq_true h15)) ?_
    refine c_skip (n_then (c_seq (c_block (c_reg ?_))))
    refine s_move (v := .slice A1 i c1) (ev_t rfl e12) (w0 rfl) ?_
    refine s_field (off := 1) (o' := 1) F_f24_1 (ev_t rfl e10) rfl (w0 rfl) ?_
    refine s_load (v := .slice A x.args.length c) F_o22 (ev_t rfl rfl) (cell_of_blk (i := 1) bk14 rfl) (w0 rfl) ?_
    refine s_move (v := .int .i64 ((i : Nat) : Int)) (ev_t rfl e13) (w0 rfl) ?_
    obtain ⟨b16, o17, x18, csx18, hA19, hx20, hR21, hc22⟩ := Row.at_ hr i (by omega)
    obtain rfl := tmAt_of hx20
    obtain ⟨rfl, wf23⟩ := hR21
    refine s_indexR (j := i) F_l22 (ev_t rfl rfl) hA19 (ev_t rfl rfl) rfl (by omega) (w0 rfl) ?_
    refine s_loadL (cs := [.string ((tmAt x.args i).v), .int .i8 ((tmAt x.args i).l.k), .int .i64 ((tmAt x.args i).l.n), .string ((tmAt x.args i).l.s)]) (ca := #[.string ((tmAt x.args i).v), .int .i8 ((tmAt x.args i).l.k), .int .i64 ((tmAt x.args i).l.n), .string ((tmAt x.args i).l.s)]) F_m33 (ev_t rfl rfl) rfl rfl (sub_cells (cells_ext x6 hc22) 0 (cs2 := [.string ((tmAt x.args i).v), .int .i8 ((tmAt x.args i).l.k), .int .i64 ((tmAt x.args i).l.n), .string ((tmAt x.args i).l.s)]) rfl) (w0 rfl) ?_
    refine s_call F_e62 (w0 rfl) ev_f (m1 (ev_t rfl rfl)) (args := #[.agg #[.string ((tmAt x.args i).v), .int .i8 ((tmAt x.args i).l.k), .int .i64 ((tmAt x.args i).l.n), .string ((tmAt x.args i).l.s)]]) rfl (r6_term (tmAt x.args i) _ wf23) ?_
    rintro _ w25 ⟨rfl, x24⟩
    refine s_bslice (vs := [(0, .string (termW (tmAt x.args i)))]) (cs := #[.string (termW (tmAt x.args i))]) (b1 (ev_t rfl rfl)) (bs106_1_0s (termW (tmAt x.args i))) (w0 rfl) ?_
    intro w27 g26 n28
    refine s_append (m := 1) (k := 1) (news := [.string (termW (tmAt x.args i))]) F_ul106 F_if9 rfl (by decide) (ev_t rfl rfl) (own_ext (NewB.ext n28) (own_ext x24 i9)) (ev_t rfl rfl) rfl (by have z_ := blk_cells (NewB.blk n28) 0 (cs := [.string (termW (tmAt x.args i))]) rfl; exact z_) rfl (by omega) (by omega) (Keep.size (Ext.trans (Ext.trans x6 x24) (NewB.ext n28))) (w0 rfl) ?_
    intro A31 c32 w29 ow33 k30
    refine s_assign (v := .slice A31 (i + 1) c32) (ev_t rfl rfl) (w0 rfl) ?_
    refine c_done (n_block (n_then (c_reg ?_)))
    refine s_move (v := .int .i64 ((i : Nat) : Int)) (ev_t rfl e13) (w0 rfl) ?_
    refine s_add (r := ((i + 1 : Nat) : Int)) (ev_t rfl rfl) ev_c (by omega) (by omega) (w0 rfl) ?_
    refine s_assign (v := .int .i64 ((i + 1 : Nat) : Int)) (ev_t rfl rfl) (w0 rfl) ?_
    refine c_done ?_
    exact ⟨(i + 1, A31, c32), _, rfl, ⟨(Keep.then_ (Ext.trans (Ext.trans x6 x24) (NewB.ext n28)) k30 (fun i_ hi_ h_ => by have a_ := own_ge (own_ext (NewB.ext n28) (own_ext x24 i9)) i_ h_; omega)), (Keep.blk k30 (Ext.blk (NewB.ext n28) (Ext.blk x24 bk14)) (own_ne (own_ext (NewB.ext n28) (own_ext x24 i9)) (Ext.blk (NewB.ext n28) (Ext.blk x24 bk14)) (by first | decide | assumption))), by omega, (own_len ow33 rfl (take_mapS _ _ (by omega))), e10, e11, rfl, rfl⟩, (show x.args.length - (i + 1) < x.args.length - i by omega)⟩
  · refine c_cond0 (vb (ev_t rfl rfl) (decide_eq_false h15)) ?_
    refine c_exit (e_then (e_then (e_hit (n_then (c_seq (c_reg ?_))))))
    refine s_field (off := 0) (o' := 0) F_f24_0 (ev_t rfl e10) rfl (w0 rfl) ?_
    refine s_load (v := .string x.p) F_o9 (ev_t rfl rfl) (cell_of_blk (i := 0) bk14 rfl) (w0 rfl) ?_
    refine s_move (v := .slice A1 i c1) (ev_t rfl e12) (w0 rfl) ?_
    refine s_call F_e63 (w0 rfl) ev_f (m2 (ev_t rfl rfl) (ev_t rfl rfl)) (args := #[.string x.p, .slice A1 i c1]) rfl (r6_columns x.p i (x.args.map termW) A1 c1 _ (by rw [List.length_map]; omega) (own_rowS (own_bytes i9 (by rw [List.take_of_length_le (by rw [List.length_map]; omega)]))) (by rw [List.length_map]; exact hn_) (fun i_ hi_ => by rw [List.length_map] at hi_; have z_ := termW_size (hq_ i_ hi_) (RT_wf hr hi_); have e_ : sAt (x.args.map termW) i_ = termW (tmAt x.args i_) := termW_at hi_; rw [e_]; omega) (by omega)) ?_
    rintro _ w35 ⟨rfl, x34⟩
    refine s_assign (v := .string (atW x)) (ev_t rfl rfl) (w0 rfl) ?_
    refine c_done (n_then (c_ret ?_))
    refine ret1 (v := .string (atW x)) rfl rfl rfl ?_
    refine ⟨_, rfl, ?_, (Ext.trans x6 x34)⟩
    rfl
set_option maxHeartbeats 4000000 in
theorem r6_Atom (x : At) (A : Option Addr) (c : Nat) (w : World) (ho : x.okc c) (hr : Row RT 4 w A x.args) :
    Rt Tryz.prog 9 #[.agg #[.string x.p, .slice A x.args.length c]] w fun v w' => v = .tuple #[.string (if atB x then atW x else ⟨#[]⟩), .int .i64 (code (atB x))] ∧ Ext w w' := by
  refine enter Tryz.func9 rfl (l := [.agg #[.string x.p, .slice A x.args.length c]]) rfl Tryz.ntmps9 (Nat.le_of_ble_eq_true rfl) ?_
  have hl_ := At.okc.l ho
  have hc_ := At.okc.c ho
  have hp_ := At.okc.p ho
  refine c_seq (c_reg ?_)
  refine s_box (v := .agg #[.string x.p, .slice A x.args.length c]) (cs := #[.string x.p, .slice A x.args.length c]) (w0 rfl) (ev_t rfl rfl) rfl ?_
  intro w2 g1 n3
  refine s_assign (v := .string (⟨#[]⟩ : ByteArray)) ev_c (w0 rfl) ?_
  refine s_assign (v := .int .i64 0) ev_c (w0 rfl) ?_
  refine c_done (n_then (c_seq (c_seq (c_reg ?_))))
  refine s_loadL (cs := [.string x.p, .slice A x.args.length c]) (ca := #[.string x.p, .slice A x.args.length c]) F_m24 (ev_t rfl rfl) rfl rfl (blk_cells (NewB.blk n3) 0 (cs := [.string x.p, .slice A x.args.length c]) rfl) (w0 rfl) ?_
  refine s_call F_e31 (w0 rfl) ev_f (m1 (ev_t rfl rfl)) (args := #[.agg #[.string x.p, .slice A x.args.length c]]) rfl (r4_CheckAtom x A c _ ho (Row.extT hr (NewB.ext n3))) ?_
  rintro _ w5 ⟨rfl, x4⟩
  refine s_cmp (r := !(atB x)) (ev_t rfl rfl) ev_c (ci_tn (b := (atB x)) (by decide)) (w0 rfl) ?_
  refine c_done (n_then ?_)
  rcases Bool.eq_false_or_eq_true (atB x) with h6 | h6
  · refine c_cond0 (vb (ev_t rfl rfl) (nbt h6)) ?_
    refine c_skip (n_then (c_seq (c_reg ?_)))
    refine s_loadL (cs := [.string x.p, .slice A x.args.length c]) (ca := #[.string x.p, .slice A x.args.length c]) F_m24 (ev_t rfl rfl) rfl rfl (blk_cells (Ext.blk x4 (NewB.blk n3)) 0 (cs := [.string x.p, .slice A x.args.length c]) rfl) (w0 rfl) ?_
    refine s_call F_e32 (w0 rfl) ev_f (m1 (ev_t rfl rfl)) (args := #[.agg #[.string x.p, .slice A x.args.length c]]) rfl (r6_atom x A c _ ho (Row.extT (Row.extT hr (NewB.ext n3)) x4) (by assumption)) ?_
    rintro _ w8 ⟨rfl, x7⟩
    refine s_assign (v := .string (atW x)) (ev_t rfl rfl) (w0 rfl) ?_
    refine s_assign (v := .int .i64 0) ev_c (w0 rfl) ?_
    refine c_done (n_then (c_ret ?_))
    refine ret2 (v := .string (atW x)) (v2 := .int .i64 0) rfl rfl rfl rfl rfl ?_
    refine ⟨_, rfl, ?_, (Ext.trans (Ext.trans (NewB.ext n3) x4) x7)⟩
    (simp [code, *])
  · refine c_cond1 (vb (ev_t rfl rfl) (nbf h6)) ?_
    refine c_seq (c_reg ?_)
    refine s_assign (v := .string (⟨#[]⟩ : ByteArray)) ev_c (w0 rfl) ?_
    refine s_assign (v := .int .i64 40) ev_c (w0 rfl) ?_
    refine c_done (n_then (c_ret (r_then ?_)))
    refine ret2 (v := .string (⟨#[]⟩ : ByteArray)) (v2 := .int .i64 40) rfl rfl rfl rfl rfl ?_
    refine ⟨_, rfl, ?_, (Ext.trans (NewB.ext n3) x4)⟩
    (simp [code, *])
set_option maxHeartbeats 4000000 in
theorem r6_Query (x : At) (A : Option Addr) (c : Nat) (w : World) (ho : x.okc c) (hr : Row RT 4 w A x.args) :
    Rt Tryz.prog 11 #[.agg #[.string x.p, .slice A x.args.length c]] w fun v w' => v = .tuple #[.string (if atB x then atW x ++ ⟨#[63]⟩ else ⟨#[]⟩), .int .i64 (code (atB x))] ∧ Ext w w' := by
  refine enter Tryz.func11 rfl (l := [.agg #[.string x.p, .slice A x.args.length c]]) rfl Tryz.ntmps11 (Nat.le_of_ble_eq_true rfl) ?_
  have hl_ := At.okc.l ho
  have hc_ := At.okc.c ho
  have hp_ := At.okc.p ho
  refine c_seq (c_reg ?_)
  refine s_box (v := .agg #[.string x.p, .slice A x.args.length c]) (cs := #[.string x.p, .slice A x.args.length c]) (w0 rfl) (ev_t rfl rfl) rfl ?_
  intro w2 g1 n3
  refine s_assign (v := .string (⟨#[]⟩ : ByteArray)) ev_c (w0 rfl) ?_
  refine s_assign (v := .int .i64 0) ev_c (w0 rfl) ?_
  refine c_done (n_then (c_seq (c_seq (c_reg ?_))))
  refine s_loadL (cs := [.string x.p, .slice A x.args.length c]) (ca := #[.string x.p, .slice A x.args.length c]) F_m24 (ev_t rfl rfl) rfl rfl (blk_cells (NewB.blk n3) 0 (cs := [.string x.p, .slice A x.args.length c]) rfl) (w0 rfl) ?_
  refine s_call F_e31 (w0 rfl) ev_f (m1 (ev_t rfl rfl)) (args := #[.agg #[.string x.p, .slice A x.args.length c]]) rfl (r4_CheckAtom x A c _ ho (Row.extT hr (NewB.ext n3))) ?_
  rintro _ w5 ⟨rfl, x4⟩
  refine s_cmp (r := !(atB x)) (ev_t rfl rfl) ev_c (ci_tn (b := (atB x)) (by decide)) (w0 rfl) ?_
  refine c_done (n_then ?_)
  rcases Bool.eq_false_or_eq_true (atB x) with h6 | h6
  · refine c_cond0 (vb (ev_t rfl rfl) (nbt h6)) ?_
    refine c_skip (n_then (c_seq (c_reg ?_)))
    refine s_loadL (cs := [.string x.p, .slice A x.args.length c]) (ca := #[.string x.p, .slice A x.args.length c]) F_m24 (ev_t rfl rfl) rfl rfl (blk_cells (Ext.blk x4 (NewB.blk n3)) 0 (cs := [.string x.p, .slice A x.args.length c]) rfl) (w0 rfl) ?_
    refine s_call F_e32 (w0 rfl) ev_f (m1 (ev_t rfl rfl)) (args := #[.agg #[.string x.p, .slice A x.args.length c]]) rfl (r6_atom x A c _ ho (Row.extT (Row.extT hr (NewB.ext n3)) x4) (by assumption)) ?_
    rintro _ w8 ⟨rfl, x7⟩
    refine s_cat (ev_t rfl rfl) ev_c (by have z_ := atW_size (x := x) (by assumption) hr; (try rw [if_pos (by assumption)]); (try simp only [ByteArray.size_append, z1]); omega) (w0 rfl) ?_
    refine s_assign (v := .string (atW x ++ (⟨#[63]⟩ : ByteArray))) (ev_t rfl rfl) (w0 rfl) ?_
    refine s_assign (v := .int .i64 0) ev_c (w0 rfl) ?_
    refine c_done (n_then (c_ret ?_))
    refine ret2 (v := .string (atW x ++ (⟨#[63]⟩ : ByteArray))) (v2 := .int .i64 0) rfl rfl rfl rfl rfl ?_
    refine ⟨_, rfl, ?_, (Ext.trans (Ext.trans (NewB.ext n3) x4) x7)⟩
    (simp [code, *])
  · refine c_cond1 (vb (ev_t rfl rfl) (nbf h6)) ?_
    refine c_seq (c_reg ?_)
    refine s_assign (v := .string (⟨#[]⟩ : ByteArray)) ev_c (w0 rfl) ?_
    refine s_assign (v := .int .i64 40) ev_c (w0 rfl) ?_
    refine c_done (n_then (c_ret (r_then ?_)))
    refine ret2 (v := .string (⟨#[]⟩ : ByteArray)) (v2 := .int .i64 40) rfl rfl rfl rfl rfl ?_
    refine ⟨_, rfl, ?_, (Ext.trans (NewB.ext n3) x4)⟩
    (simp [code, *])
set_option maxHeartbeats 4000000 in
theorem p_Query (x : At) (A : Option Addr) (c : Nat) (w : World) (ho : x.okc c) (hr : Row RT 4 w A x.args) (tb : Tabs Tryz.prog w) :
    Rt Tryz.prog 12 #[.agg #[.string x.p, .slice A x.args.length c]] w fun v w' => v = .tuple #[.string (if atB x then atW x ++ ⟨#[63]⟩ else ⟨#[]⟩), .int .i64 (code (atB x))] ∧ Ext w w' := by
  refine enter Tryz.func12 rfl (l := [.agg #[.string x.p, .slice A x.args.length c]]) rfl Tryz.ntmps12 (Nat.le_of_ble_eq_true rfl) ?_
  have hl_ := At.okc.l ho
  have hc_ := At.okc.c ho
  have hp_ := At.okc.p ho
  refine c_seq (c_reg ?_)
  refine s_box (v := .agg #[.string x.p, .slice A x.args.length c]) (cs := #[.string x.p, .slice A x.args.length c]) (w0 rfl) (ev_t rfl rfl) rfl ?_
  intro w2 g1 n3
  refine s_assign (v := .string (⟨#[]⟩ : ByteArray)) ev_c (w0 rfl) ?_
  refine s_assign (v := .int .i64 0) ev_c (w0 rfl) ?_
  refine c_done (n_then (c_seq (c_reg ?_)))
  refine s_loadL (cs := [.string x.p, .slice A x.args.length c]) (ca := #[.string x.p, .slice A x.args.length c]) F_m24 (ev_t rfl rfl) rfl rfl (blk_cells (NewB.blk n3) 0 (cs := [.string x.p, .slice A x.args.length c]) rfl) (w0 rfl) ?_
  refine s_call F_e10 (w0 rfl) ev_f (m1 (ev_t rfl rfl)) (args := #[.agg #[.string x.p, .slice A x.args.length c]]) rfl (p_Atom x A c _ ho (Row.extT hr (NewB.ext n3)) (Tabs.ext tb (NewB.ext n3))) ?_
  rintro _ w5 ⟨rfl, x4⟩
  refine s_move (v := .tuple #[.string (if atB x then atW x else ⟨#[]⟩), .int .i64 (code (atB x))]) (ev_t rfl rfl) (w0 rfl) ?_
  refine s_extract (v := .string (if atB x then atW x else ⟨#[]⟩)) (ev_t rfl rfl) rfl (w0 rfl) ?_
  refine s_extract (v := .int .i64 (code (atB x))) (ev_t rfl rfl) rfl (w0 rfl) ?_
  refine s_assign (v := .string (if atB x then atW x else ⟨#[]⟩)) (ev_t rfl rfl) (w0 rfl) ?_
  refine s_assign (v := .int .i64 (code (atB x))) (ev_t rfl rfl) (w0 rfl) ?_
  refine c_done (n_then (c_seq (c_seq (c_reg ?_))))
  refine s_move (v := .int .i64 (code (atB x))) (ev_t rfl rfl) (w0 rfl) ?_
  refine s_cmp (r := !(atB x)) (ev_t rfl rfl) ev_c (ci_tn (b := (atB x)) (by decide)) (w0 rfl) ?_
  refine c_done (n_then ?_)
  rcases Bool.eq_false_or_eq_true (atB x) with h6 | h6
  · refine c_cond0 (vb (ev_t rfl rfl) (nbt h6)) ?_
    refine c_skip (n_then (c_seq (c_reg ?_)))
    refine s_move (v := .string (if atB x then atW x else ⟨#[]⟩)) (ev_t rfl rfl) (w0 rfl) ?_
    refine s_cat (ev_t rfl rfl) ev_c (by have z_ := atW_size (x := x) (by assumption) hr; (try rw [if_pos (by assumption)]); (try simp only [ByteArray.size_append, z1]); omega) (w0 rfl) ?_
    refine s_assign (v := .string ((if atB x then atW x else ⟨#[]⟩) ++ (⟨#[63]⟩ : ByteArray))) (ev_t rfl rfl) (w0 rfl) ?_
    refine s_assign (v := .int .i64 0) ev_c (w0 rfl) ?_
    refine c_done (n_then (c_ret ?_))
    refine ret2 (v := .string ((if atB x then atW x else ⟨#[]⟩) ++ (⟨#[63]⟩ : ByteArray))) (v2 := .int .i64 0) rfl rfl rfl rfl rfl ?_
    refine ⟨_, rfl, ?_, (Ext.trans (NewB.ext n3) x4)⟩
    (simp [code, *])
  · refine c_cond1 (vb (ev_t rfl rfl) (nbf h6)) ?_
    refine c_seq (c_reg ?_)
    refine s_move (v := .int .i64 (code (atB x))) (ev_t rfl rfl) (w0 rfl) ?_
    refine s_assign (v := .string (⟨#[]⟩ : ByteArray)) ev_c (w0 rfl) ?_
    refine s_assign (v := .int .i64 (code (atB x))) (ev_t rfl rfl) (w0 rfl) ?_
    refine c_done (n_then (c_ret (r_then ?_)))
    refine ret2 (v := .string (⟨#[]⟩ : ByteArray)) (v2 := .int .i64 (code (atB x))) rfl rfl rfl rfl rfl ?_
    refine ⟨_, rfl, ?_, (Ext.trans (NewB.ext n3) x4)⟩
    (simp [code, *])
end Go.Proofs.Zw

set_option linter.unusedVariables false
set_option linter.unusedSimpArgs false
namespace Go.Wk
open Go Go.RowKit Go.Lib
/-! ### literals -/
structure Lt where
  k : Int
  a : At
  r : Int
  e1 : Ex
  e2 : Ex
def noE (e : Ex) : Bool := decide (e.op = 0) && zT e.t && decide ((e.kids.length : Int) = 0)
def ltB (x : Lt) : Bool :=
  if x.k = 1 ∨ x.k = 2 then atB x.a && decide (x.r = 0) && noE x.e1 && noE x.e2
  else if x.k = 3 then decide (x.a.p = ⟨#[]⟩) && decide ((x.a.args.length : Int) = 0) && decide (1 ≤ x.r) && decide (x.r ≤ 6) && exB 8 x.e1 && exB 8 x.e2
  else false
def ltW (x : Lt) : ByteArray := if x.k = 1 then atW x.a else if x.k = 2 then (⟨#[110, 111, 116, 32]⟩ : ByteArray) ++ atW x.a else exW 8 x.e1 ++ ⟨#[32]⟩ ++ relW x.r ++ ⟨#[32]⟩ ++ exW 8 x.e2
structure Lt.okc (x : Lt) (ca c1 c2 : Nat) : Prop where
  k : -128 ≤ x.k ∧ x.k ≤ 127
  r : -128 ≤ x.r ∧ x.r ≤ 127
  a : x.a.okc ca
  e1 : x.e1.okc c1
  e2 : x.e2.okc c2
theorem relW_size (r : Int) : (relW r).size ≤ 2 := by unfold relW; (repeat' split) <;> decide
theorem lt_at {x : Lt} (h : ltB x = true) (hk : x.k = 1 ∨ x.k = 2) : atB x.a = true := by
  unfold ltB at h; rw [if_pos hk] at h
  simp only [Bool.and_eq_true] at h; exact h.1.1.1
theorem lt_cmp {x : Lt} (h : ltB x = true) (h1 : ¬ x.k = 1) (h2 : ¬ x.k = 2) : x.k = 3 ∧ 1 ≤ x.r ∧ x.r ≤ 6 ∧ exB 8 x.e1 = true ∧ exB 8 x.e2 = true := by
  unfold ltB at h; rw [if_neg (by omega)] at h
  split at h
  · simp only [Bool.and_eq_true, decide_eq_true_eq] at h
    exact ⟨by assumption, h.1.1.1.2, h.1.1.2, h.1.2, h.2⟩
  · cases h
theorem lt_e1 {x : Lt} (h : ltB x = true) (h1 : ¬ x.k = 1) (h2 : ¬ x.k = 2) : exB 8 x.e1 = true := (lt_cmp h h1 h2).2.2.2.1
theorem lt_e2 {x : Lt} (h : ltB x = true) (h1 : ¬ x.k = 1) (h2 : ¬ x.k = 2) : exB 8 x.e2 = true := (lt_cmp h h1 h2).2.2.2.2
end Go.Wk

set_option linter.unusedVariables false
set_option linter.unusedSimpArgs false
set_option maxRecDepth 10000
namespace Go.Proofs.Zw
open Go Go.Wk Go.Proofs Go.Lib
attribute [local irreducible] Go.wpList Go.wpStill Go.wpQuiet Go.Code.wp Go.Calls
theorem F_e107 : enterable Tryz.prog 107 = true := by kernel_rfl
theorem F_e72 : enterable Tryz.prog 72 = true := by kernel_rfl
theorem F_e75 : enterable Tryz.prog 75 = true := by kernel_rfl
theorem F_f38_0 : fieldAt Tryz.prog 38 0 0 = true := by kernel_rfl
theorem F_f38_1 : fieldAt Tryz.prog 38 1 1 = true := by kernel_rfl
theorem F_f38_2 : fieldAt Tryz.prog 38 2 3 = true := by kernel_rfl
theorem F_f38_3 : fieldAt Tryz.prog 38 3 4 = true := by kernel_rfl
theorem F_f38_4 : fieldAt Tryz.prog 38 4 10 = true := by kernel_rfl
theorem F_m38 : many Tryz.prog 38 16 = true := by kernel_rfl
theorem F_o26 : one Tryz.prog 26 = true := by kernel_rfl
theorem F_o27 : one Tryz.prog 27 = true := by kernel_rfl
set_option maxHeartbeats 4000000 in
theorem r4_nothing (x : Ex) (A : Option Addr) (c : Nat) (w : World) (ho : x.okc c) (hr : Row RE 6 w A x.kids) :
    Rt Tryz.prog 107 #[.agg #[.int .i8 x.op, .string x.t.v, .int .i8 x.t.l.k, .int .i64 x.t.l.n, .string x.t.l.s, .slice A x.kids.length c]] w fun v w' => v = .bool (noE x) ∧ Ext w w' := by
  refine enter Tryz.func107 rfl (l := [.agg #[.int .i8 x.op, .string x.t.v, .int .i8 x.t.l.k, .int .i64 x.t.l.n, .string x.t.l.s, .slice A x.kids.length c]]) rfl Tryz.ntmps107 (Nat.le_of_ble_eq_true rfl) ?_
  have hl_ := Ex.okc.l ho
  have hc_ := Ex.okc.c ho
  refine c_seq (c_reg ?_)
  refine s_box (v := .agg #[.int .i8 x.op, .string x.t.v, .int .i8 x.t.l.k, .int .i64 x.t.l.n, .string x.t.l.s, .slice A x.kids.length c]) (cs := #[.int .i8 x.op, .string x.t.v, .int .i8 x.t.l.k, .int .i64 x.t.l.n, .string x.t.l.s, .slice A x.kids.length c]) (w0 rfl) (ev_t rfl rfl) rfl ?_
  intro w2 g1 n3
  refine s_assign (v := .bool false) ev_c (w0 rfl) ?_
  refine c_done (n_then (c_seq (c_reg ?_)))
  refine s_build (v := .agg #[.string (⟨#[]⟩ : ByteArray), .int .i8 0, .int .i64 0, .string (⟨#[]⟩ : ByteArray)]) (vs := []) b0 (bd33) (w0 rfl) ?_
  refine s_alloc (cs := #[.string (⟨#[]⟩ : ByteArray), .int .i8 0, .int .i64 0, .string (⟨#[]⟩ : ByteArray)]) (w0 rfl) F_z33 rfl ?_
  intro w5 g4 n6
  refine s_store (cs' := #[.string (⟨#[]⟩ : ByteArray), .int .i8 0, .int .i64 0, .string (⟨#[]⟩ : ByteArray)]) F_sz33 (ev_t rfl rfl) (ev_t rfl rfl) (l := [.string (⟨#[]⟩ : ByteArray), .int .i8 0, .int .i64 0, .string (⟨#[]⟩ : ByteArray)]) rfl rfl rfl (NewB.blk n6) (Nat.le_of_ble_eq_true rfl) rfl (w0 rfl) ?_
  intro w7 k8
  refine c_done (n_then (c_seq (c_reg ?_)))
  refine s_field (off := 0) (o' := 0) F_f36_0 (ev_t rfl rfl) rfl (w0 rfl) ?_
  refine s_load (v := .int .i8 x.op) F_o28 (ev_t rfl rfl) (cell_of_blk (i := 0) (Ext.blk (Keep.then_ (NewB.ext n6) (Wrote.keep k8) (fun i_ hi_ h_ => by have a_ := NewB.eq n6; have b_ := Keep.size (Ext.refl w2); omega)) (NewB.blk n3)) rfl) (w0 rfl) ?_
  refine s_cmp (r := decide (x.op = 0)) (ev_t rfl rfl) ev_c rfl (w0 rfl) ?_
  by_cases h9 : x.op = 0
  · refine s_move (v := .bool true) (vb (ev_t rfl rfl) (decide_eq_true h9)) (w0 rfl) ?_
    refine s_field (off := 1) (o' := 1) F_f36_1 (ev_t rfl rfl) rfl (wy rfl rfl rfl rfl) ?_
    refine s_loadL (cs := [.string x.t.v, .int .i8 x.t.l.k, .int .i64 x.t.l.n, .string x.t.l.s]) (ca := #[.string x.t.v, .int .i8 x.t.l.k, .int .i64 x.t.l.n, .string x.t.l.s]) F_m33 (ev_t rfl rfl) rfl rfl (blk_cells (Ext.blk (Keep.then_ (NewB.ext n6) (Wrote.keep k8) (fun i_ hi_ h_ => by have a_ := NewB.eq n6; have b_ := Keep.size (Ext.refl w2); omega)) (NewB.blk n3)) 1 (cs := [.string x.t.v, .int .i8 x.t.l.k, .int .i64 x.t.l.n, .string x.t.l.s]) rfl) (wy rfl rfl rfl rfl) ?_
    refine s_loadL (cs := [.string (⟨#[]⟩ : ByteArray), .int .i8 0, .int .i64 0, .string (⟨#[]⟩ : ByteArray)]) (ca := #[.string (⟨#[]⟩ : ByteArray), .int .i8 0, .int .i64 0, .string (⟨#[]⟩ : ByteArray)]) F_m33 (ev_t rfl rfl) rfl rfl (blk_cells (Wrote.blk k8) 0 (cs := [.string (⟨#[]⟩ : ByteArray), .int .i8 0, .int .i64 0, .string (⟨#[]⟩ : ByteArray)]) rfl) (wy rfl rfl rfl rfl) ?_
    refine s_cmpG (r := zT x.t) (ev_t rfl rfl) (ev_t rfl rfl) ((fun w_ => eqzT33eql x.t _ _ w_)) (wy rfl rfl rfl rfl) ?_
    refine s_pick1 (v := .bool (zT x.t)) (ev_t rfl rfl) (ev_t rfl rfl) (w0 rfl) ?_
    rcases Bool.eq_false_or_eq_true (zT x.t) with h10 | h10
    · refine s_move (v := .bool true) (vb (ev_t rfl rfl) h10) (w0 rfl) ?_
      refine s_field (off := 5) (o' := 5) F_f36_2 (ev_t rfl rfl) rfl (wy rfl rfl rfl rfl) ?_
      refine s_load (v := .slice A x.kids.length c) F_o34 (ev_t rfl rfl) (cell_of_blk (i := 5) (Ext.blk (Keep.then_ (NewB.ext n6) (Wrote.keep k8) (fun i_ hi_ h_ => by have a_ := NewB.eq n6; have b_ := Keep.size (Ext.refl w2); omega)) (NewB.blk n3)) rfl) (wy rfl rfl rfl rfl) ?_
      refine s_lenL F_l34 (ev_t rfl rfl) (wy rfl rfl rfl rfl) ?_
      refine s_cmp (r := decide ((x.kids.length : Int) = 0)) (ev_t rfl rfl) ev_c rfl (wy rfl rfl rfl rfl) ?_
      refine s_pick1 (v := .bool (decide ((x.kids.length : Int) = 0))) (ev_t rfl rfl) (ev_t rfl rfl) (w0 rfl) ?_
      refine s_assign (v := .bool (decide ((x.kids.length : Int) = 0))) (ev_t rfl rfl) (w0 rfl) ?_
      refine c_done (n_then (c_ret ?_))
      refine ret1 (v := .bool (decide ((x.kids.length : Int) = 0))) rfl rfl rfl ?_
      refine ⟨_, rfl, ?_, (Keep.then_ (Ext.trans (NewB.ext n3) (NewB.ext n6)) (Wrote.keep k8) (fun i_ hi_ h_ => by have a_ := NewB.eq n6; have b_ := Keep.size (NewB.ext n3); omega))⟩
      (refine congrArg Value.bool ?_; unfold noE; simp only [*, decide_true, decide_false, if_true, if_false, Bool.and_true, Bool.true_and, Bool.false_and, Bool.and_false, Bool.not_true, Bool.not_false, Bool.false_eq_true, reduceIte, not_true_eq_false, not_false_eq_true])
    · refine s_move (v := .bool false) (vb (ev_t rfl rfl) h10) (w0 rfl) ?_
      refine s_skip (wn rfl rfl rfl rfl rfl) ?_
      refine s_skip (wn rfl rfl rfl rfl rfl) ?_
      refine s_skip (wn rfl rfl rfl rfl rfl) ?_
      refine s_skip (wn rfl rfl rfl rfl rfl) ?_
      refine s_pick0 (v := .bool false) (ev_t rfl rfl) ev_c (w0 rfl) ?_
      refine s_assign (v := .bool false) (ev_t rfl rfl) (w0 rfl) ?_
      refine c_done (n_then (c_ret ?_))
      refine ret1 (v := .bool false) rfl rfl rfl ?_
      refine ⟨_, rfl, ?_, (Keep.then_ (Ext.trans (NewB.ext n3) (NewB.ext n6)) (Wrote.keep k8) (fun i_ hi_ h_ => by have a_ := NewB.eq n6; have b_ := Keep.size (NewB.ext n3); omega))⟩
      (refine congrArg Value.bool ?_; unfold noE; simp only [*, decide_true, decide_false, if_true, if_false, Bool.and_true, Bool.true_and, Bool.false_and, Bool.and_false, Bool.not_true, Bool.not_false, Bool.false_eq_true, reduceIte, not_true_eq_false, not_false_eq_true])
  · refine s_move (v := .bool false) (vb (ev_t rfl rfl) (decide_eq_false h9)) (w0 rfl) ?_
    refine s_skip (wn rfl rfl rfl rfl rfl) ?_
    refine s_skip (wn rfl rfl rfl rfl rfl) ?_
    refine s_skip (wn rfl rfl rfl rfl rfl) ?_
    refine s_skip (wn rfl rfl rfl rfl rfl) ?_
    refine s_pick0 (v := .bool false) (ev_t rfl rfl) ev_c (w0 rfl) ?_
    refine s_move (v := .bool false) (ev_t rfl rfl) (w0 rfl) ?_
    refine s_skip (wn rfl rfl rfl rfl rfl) ?_
    refine s_skip (wn rfl rfl rfl rfl rfl) ?_
    refine s_skip (wn rfl rfl rfl rfl rfl) ?_
    refine s_skip (wn rfl rfl rfl rfl rfl) ?_
    refine s_pick0 (v := .bool false) (ev_t rfl rfl) ev_c (w0 rfl) ?_
    refine s_assign (v := .bool false) (ev_t rfl rfl) (w0 rfl) ?_
    refine c_done (n_then (c_ret ?_))
    refine ret1 (v := .bool false) rfl rfl rfl ?_
    refine ⟨_, rfl, ?_, (Keep.then_ (Ext.trans (NewB.ext n3) (NewB.ext n6)) (Wrote.keep k8) (fun i_ hi_ h_ => by have a_ := NewB.eq n6; have b_ := Keep.size (NewB.ext n3); omega))⟩
    (refine congrArg Value.bool ?_; unfold noE; simp only [*, decide_true, decide_false, if_true, if_false, Bool.and_true, Bool.true_and, Bool.false_and, Bool.and_false, Bool.not_true, Bool.not_false, Bool.false_eq_true, reduceIte, not_true_eq_false, not_false_eq_true])
set_option maxHeartbeats 4000000 in
theorem r4_literal (x : Lt) (Aa A1 A2 : Option Addr) (ca c1 c2 : Nat) (w : World) (ho : x.okc ca c1 c2) (hra : Row RT 4 w Aa x.a.args) (hr1 : Row RE 6 w A1 x.e1.kids) (hr2 : Row RE 6 w A2 x.e2.kids) :
    Rt Tryz.prog 72 #[.agg #[.int .i8 x.k, .string x.a.p, .slice Aa x.a.args.length ca, .int .i8 x.r, .int .i8 x.e1.op, .string x.e1.t.v, .int .i8 x.e1.t.l.k, .int .i64 x.e1.t.l.n, .string x.e1.t.l.s, .slice A1 x.e1.kids.length c1, .int .i8 x.e2.op, .string x.e2.t.v, .int .i8 x.e2.t.l.k, .int .i64 x.e2.t.l.n, .string x.e2.t.l.s, .slice A2 x.e2.kids.length c2]] w fun v w' => v = .bool (ltB x) ∧ Ext w w' := by
  refine enter Tryz.func72 rfl (l := [.agg #[.int .i8 x.k, .string x.a.p, .slice Aa x.a.args.length ca, .int .i8 x.r, .int .i8 x.e1.op, .string x.e1.t.v, .int .i8 x.e1.t.l.k, .int .i64 x.e1.t.l.n, .string x.e1.t.l.s, .slice A1 x.e1.kids.length c1, .int .i8 x.e2.op, .string x.e2.t.v, .int .i8 x.e2.t.l.k, .int .i64 x.e2.t.l.n, .string x.e2.t.l.s, .slice A2 x.e2.kids.length c2]]) rfl Tryz.ntmps72 (Nat.le_of_ble_eq_true rfl) ?_
  have hoa_ := Lt.okc.a ho
  have ho1_ := Lt.okc.e1 ho
  have ho2_ := Lt.okc.e2 ho
  have hl1_ := Ex.okc.l ho1_
  have hl2_ := Ex.okc.l ho2_
  have hc1_ := Ex.okc.c ho1_
  have hc2_ := Ex.okc.c ho2_
  have hla_ := At.okc.l hoa_
  have hca_ := At.okc.c hoa_
  have hpa_ := At.okc.p hoa_
  refine c_seq (c_reg ?_)
  refine s_box (v := .agg #[.int .i8 x.k, .string x.a.p, .slice Aa x.a.args.length ca, .int .i8 x.r, .int .i8 x.e1.op, .string x.e1.t.v, .int .i8 x.e1.t.l.k, .int .i64 x.e1.t.l.n, .string x.e1.t.l.s, .slice A1 x.e1.kids.length c1, .int .i8 x.e2.op, .string x.e2.t.v, .int .i8 x.e2.t.l.k, .int .i64 x.e2.t.l.n, .string x.e2.t.l.s, .slice A2 x.e2.kids.length c2]) (cs := #[.int .i8 x.k, .string x.a.p, .slice Aa x.a.args.length ca, .int .i8 x.r, .int .i8 x.e1.op, .string x.e1.t.v, .int .i8 x.e1.t.l.k, .int .i64 x.e1.t.l.n, .string x.e1.t.l.s, .slice A1 x.e1.kids.length c1, .int .i8 x.e2.op, .string x.e2.t.v, .int .i8 x.e2.t.l.k, .int .i64 x.e2.t.l.n, .string x.e2.t.l.s, .slice A2 x.e2.kids.length c2]) (w0 rfl) (ev_t rfl rfl) rfl ?_
  intro w2 g1 n3
  refine s_assign (v := .bool false) ev_c (w0 rfl) ?_
  refine c_done (n_then (c_seq (c_seq (c_reg ?_))))
  refine s_field (off := 0) (o' := 0) F_f38_0 (ev_t rfl rfl) rfl (w0 rfl) ?_
  refine s_load (v := .int .i8 x.k) F_o26 (ev_t rfl rfl) (cell_of_blk (i := 0) (NewB.blk n3) rfl) (w0 rfl) ?_
  refine c_done (n_then (c_block (c_seq (c_seq (c_reg ?_)))))
  refine s_cmp (r := decide (x.k = 1)) (ev_t rfl rfl) ev_c rfl (w0 rfl) ?_
  refine s_assign (v := .bool (decide (x.k = 1))) (ev_t rfl rfl) (w0 rfl) ?_
  refine c_done (n_then ?_)
  by_cases h4 : x.k = 1
  · refine c_cond1 (vb (ev_t rfl rfl) (decide_eq_true h4)) ?_
    refine c_skip (n_then ?_)
    refine c_cond1 (vb (ev_t rfl rfl) (decide_eq_true h4)) ?_
    refine c_seq (c_reg ?_)
    refine s_field (off := 1) (o' := 1) F_f38_1 (ev_t rfl rfl) rfl (w0 rfl) ?_
    refine s_loadL (cs := [.string x.a.p, .slice Aa x.a.args.length ca]) (ca := #[.string x.a.p, .slice Aa x.a.args.length ca]) F_m24 (ev_t rfl rfl) rfl rfl (blk_cells (NewB.blk n3) 1 (cs := [.string x.a.p, .slice Aa x.a.args.length ca]) rfl) (w0 rfl) ?_
    refine s_call F_e61 (w0 rfl) ev_f (m1 (ev_t rfl rfl)) (args := #[.agg #[.string x.a.p, .slice Aa x.a.args.length ca]]) rfl (r4_atom x.a Aa ca _ hoa_ (Row.extT hra (NewB.ext n3))) ?_
    rintro _ w6 ⟨rfl, x5⟩
    rcases Bool.eq_false_or_eq_true (atB x.a) with h7 | h7
    · refine s_move (v := .bool true) (vb (ev_t rfl rfl) h7) (w0 rfl) ?_
      refine s_field (off := 3) (o' := 3) F_f38_2 (ev_t rfl rfl) rfl (wy rfl rfl rfl rfl) ?_
      refine s_load (v := .int .i8 x.r) F_o27 (ev_t rfl rfl) (cell_of_blk (i := 3) (Ext.blk x5 (NewB.blk n3)) rfl) (wy rfl rfl rfl rfl) ?_
      refine s_cmp (r := decide (x.r = 0)) (ev_t rfl rfl) ev_c rfl (wy rfl rfl rfl rfl) ?_
      refine s_pick1 (v := .bool (decide (x.r = 0))) (ev_t rfl rfl) (ev_t rfl rfl) (w0 rfl) ?_
      by_cases h8 : x.r = 0
      · refine s_move (v := .bool true) (vb (ev_t rfl rfl) (decide_eq_true h8)) (w0 rfl) ?_
        refine s_field (off := 4) (o' := 4) F_f38_3 (ev_t rfl rfl) rfl (wy rfl rfl rfl rfl) ?_
        refine s_loadL (cs := [.int .i8 x.e1.op, .string x.e1.t.v, .int .i8 x.e1.t.l.k, .int .i64 x.e1.t.l.n, .string x.e1.t.l.s, .slice A1 x.e1.kids.length c1]) (ca := #[.int .i8 x.e1.op, .string x.e1.t.v, .int .i8 x.e1.t.l.k, .int .i64 x.e1.t.l.n, .string x.e1.t.l.s, .slice A1 x.e1.kids.length c1]) F_m36 (ev_t rfl rfl) rfl rfl (blk_cells (Ext.blk x5 (NewB.blk n3)) 4 (cs := [.int .i8 x.e1.op, .string x.e1.t.v, .int .i8 x.e1.t.l.k, .int .i64 x.e1.t.l.n, .string x.e1.t.l.s, .slice A1 x.e1.kids.length c1]) rfl) (wy rfl rfl rfl rfl) ?_
        refine s_call F_e107 (wy rfl rfl rfl rfl) ev_f (m1 (ev_t rfl rfl)) (args := #[.agg #[.int .i8 x.e1.op, .string x.e1.t.v, .int .i8 x.e1.t.l.k, .int .i64 x.e1.t.l.n, .string x.e1.t.l.s, .slice A1 x.e1.kids.length c1]]) rfl (r4_nothing x.e1 A1 c1 _ ho1_ (Row.extE (Row.extE hr1 (NewB.ext n3)) x5)) ?_
        rintro _ w10 ⟨rfl, x9⟩
        refine s_pick1 (v := .bool (noE x.e1)) (ev_t rfl rfl) (ev_t rfl rfl) (w0 rfl) ?_
        rcases Bool.eq_false_or_eq_true (noE x.e1) with h11 | h11
        · refine s_move (v := .bool true) (vb (ev_t rfl rfl) h11) (w0 rfl) ?_
          refine s_field (off := 10) (o' := 10) F_f38_4 (ev_t rfl rfl) rfl (wy rfl rfl rfl rfl) ?_
          refine s_loadL (cs := [.int .i8 x.e2.op, .string x.e2.t.v, .int .i8 x.e2.t.l.k, .int .i64 x.e2.t.l.n, .string x.e2.t.l.s, .slice A2 x.e2.kids.length c2]) (ca := #[.int .i8 x.e2.op, .string x.e2.t.v, .int .i8 x.e2.t.l.k, .int .i64 x.e2.t.l.n, .string x.e2.t.l.s, .slice A2 x.e2.kids.length c2]) F_m36 (ev_t rfl rfl) rfl rfl (blk_cells (Ext.blk x9 (Ext.blk x5 (NewB.blk n3))) 10 (cs := [.int .i8 x.e2.op, .string x.e2.t.v, .int .i8 x.e2.t.l.k, .int .i64 x.e2.t.l.n, .string x.e2.t.l.s, .slice A2 x.e2.kids.length c2]) rfl) (wy rfl rfl rfl rfl) ?_
          refine s_call F_e107 (wy rfl rfl rfl rfl) ev_f (m1 (ev_t rfl rfl)) (args := #[.agg #[.int .i8 x.e2.op, .string x.e2.t.v, .int .i8 x.e2.t.l.k, .int .i64 x.e2.t.l.n, .string x.e2.t.l.s, .slice A2 x.e2.kids.length c2]]) rfl (r4_nothing x.e2 A2 c2 _ ho2_ (Row.extE (Row.extE (Row.extE hr2 (NewB.ext n3)) x5) x9)) ?_
          rintro _ w13 ⟨rfl, x12⟩
          refine s_pick1 (v := .bool (noE x.e2)) (ev_t rfl rfl) (ev_t rfl rfl) (w0 rfl) ?_
          refine s_assign (v := .bool (noE x.e2)) (ev_t rfl rfl) (w0 rfl) ?_
          refine c_done (n_then (c_ret (r_block (r_then ?_))))
          refine ret1 (v := .bool (noE x.e2)) rfl rfl rfl ?_
          refine ⟨_, rfl, ?_, (Ext.trans (Ext.trans (Ext.trans (NewB.ext n3) x5) x9) x12)⟩
          (refine congrArg Value.bool ?_; unfold ltB; first | (rw [if_pos (by omega)]; simp only [*, decide_true, decide_false, if_true, if_false, Bool.and_true, Bool.true_and, Bool.false_and, Bool.and_false, Bool.not_true, Bool.not_false, Bool.false_eq_true, reduceIte, not_true_eq_false, not_false_eq_true]; done) | (rw [if_neg (by omega), if_pos (by omega)]; simp only [*, decide_true, decide_false, if_true, if_false, Bool.and_true, Bool.true_and, Bool.false_and, Bool.and_false, Bool.not_true, Bool.not_false, Bool.false_eq_true, reduceIte, not_true_eq_false, not_false_eq_true]; done) | (rw [if_neg (by omega), if_neg (by omega)]; done) | (simp [*]; done) | (simp [*]; omega))
        · refine s_move (v := .bool false) (vb (ev_t rfl rfl) h11) (w0 rfl) ?_
          refine s_skip (wn rfl rfl rfl rfl rfl) ?_
          refine s_skip (wn rfl rfl rfl rfl rfl) ?_
          refine s_skip (wn rfl rfl rfl rfl rfl) ?_
          refine s_pick0 (v := .bool false) (ev_t rfl rfl) ev_c (w0 rfl) ?_
          refine s_assign (v := .bool false) (ev_t rfl rfl) (w0 rfl) ?_
          refine c_done (n_then (c_ret (r_block (r_then ?_))))
          refine ret1 (v := .bool false) rfl rfl rfl ?_
          refine ⟨_, rfl, ?_, (Ext.trans (Ext.trans (NewB.ext n3) x5) x9)⟩
          (refine congrArg Value.bool ?_; unfold ltB; first | (rw [if_pos (by omega)]; simp only [*, decide_true, decide_false, if_true, if_false, Bool.and_true, Bool.true_and, Bool.false_and, Bool.and_false, Bool.not_true, Bool.not_false, Bool.false_eq_true, reduceIte, not_true_eq_false, not_false_eq_true]; done) | (rw [if_neg (by omega), if_pos (by omega)]; simp only [*, decide_true, decide_false, if_true, if_false, Bool.and_true, Bool.true_and, Bool.false_and, Bool.and_false, Bool.not_true, Bool.not_false, Bool.false_eq_true, reduceIte, not_true_eq_false, not_false_eq_true]; done) | (rw [if_neg (by omega), if_neg (by omega)]; done) | (simp [*]; done) | (simp [*]; omega))
      · refine s_move (v := .bool false) (vb (ev_t rfl rfl) (decide_eq_false h8)) (w0 rfl) ?_
        refine s_skip (wn rfl rfl rfl rfl rfl) ?_
        refine s_skip (wn rfl rfl rfl rfl rfl) ?_
        refine s_skip (wn rfl rfl rfl rfl rfl) ?_
        refine s_pick0 (v := .bool false) (ev_t rfl rfl) ev_c (w0 rfl) ?_
        refine s_move (v := .bool false) (ev_t rfl rfl) (w0 rfl) ?_
        refine s_skip (wn rfl rfl rfl rfl rfl) ?_
        refine s_skip (wn rfl rfl rfl rfl rfl) ?_
        refine s_skip (wn rfl rfl rfl rfl rfl) ?_
        refine s_pick0 (v := .bool false) (ev_t rfl rfl) ev_c (w0 rfl) ?_
        refine s_assign (v := .bool false) (ev_t rfl rfl) (w0 rfl) ?_
        refine c_done (n_then (c_ret (r_block (r_then ?_))))
        refine ret1 (v := .bool false) rfl rfl rfl ?_
        refine ⟨_, rfl, ?_, (Ext.trans (NewB.ext n3) x5)⟩
        (refine congrArg Value.bool ?_; unfold ltB; first | (rw [if_pos (by omega)]; simp only [*, decide_true, decide_false, if_true, if_false, Bool.and_true, Bool.true_and, Bool.false_and, Bool.and_false, Bool.not_true, Bool.not_false, Bool.false_eq_true, reduceIte, not_true_eq_false, not_false_eq_true]; done) | (rw [if_neg (by omega), if_pos (by omega)]; simp only [*, decide_true, decide_false, if_true, if_false, Bool.and_true, Bool.true_and, Bool.false_and, Bool.and_false, Bool.not_true, Bool.not_false, Bool.false_eq_true, reduceIte, not_true_eq_false, not_false_eq_true]; done) | (rw [if_neg (by omega), if_neg (by omega)]; done) | (simp [*]; done) | (simp [*]; omega))
    · refine s_move (v := .bool false) (vb (ev_t rfl rfl) h7) (w0 rfl) ?_
      refine s_skip (wn rfl rfl rfl rfl rfl) ?_
      refine s_skip (wn rfl rfl rfl rfl rfl) ?_
      refine s_skip (wn rfl rfl rfl rfl rfl) ?_
      refine s_pick0 (v := .bool false) (ev_t rfl rfl) ev_c (w0 rfl) ?_
      refine s_move (v := .bool false) (ev_t rfl rfl) (w0 rfl) ?_
      refine s_skip (wn rfl rfl rfl rfl rfl) ?_
      refine s_skip (wn rfl rfl rfl rfl rfl) ?_
      refine s_skip (wn rfl rfl rfl rfl rfl) ?_
      refine s_pick0 (v := .bool false) (ev_t rfl rfl) ev_c (w0 rfl) ?_
      refine s_move (v := .bool false) (ev_t rfl rfl) (w0 rfl) ?_
      refine s_skip (wn rfl rfl rfl rfl rfl) ?_
      refine s_skip (wn rfl rfl rfl rfl rfl) ?_
      refine s_skip (wn rfl rfl rfl rfl rfl) ?_
      refine s_pick0 (v := .bool false) (ev_t rfl rfl) ev_c (w0 rfl) ?_
      refine s_assign (v := .bool false) (ev_t rfl rfl) (w0 rfl) ?_
      refine c_done (n_then (c_ret (r_block (r_then ?_))))
      refine ret1 (v := .bool false) rfl rfl rfl ?_
      refine ⟨_, rfl, ?_, (Ext.trans (NewB.ext n3) x5)⟩
      (refine congrArg Value.bool ?_; unfold ltB; first | (rw [if_pos (by omega)]; simp only [*, decide_true, decide_false, if_true, if_false, Bool.and_true, Bool.true_and, Bool.false_and, Bool.and_false, Bool.not_true, Bool.not_false, Bool.false_eq_true, reduceIte, not_true_eq_false, not_false_eq_true]; done) | (rw [if_neg (by omega), if_pos (by omega)]; simp only [*, decide_true, decide_false, if_true, if_false, Bool.and_true, Bool.true_and, Bool.false_and, Bool.and_false, Bool.not_true, Bool.not_false, Bool.false_eq_true, reduceIte, not_true_eq_false, not_false_eq_true]; done) | (rw [if_neg (by omega), if_neg (by omega)]; done) | (simp [*]; done) | (simp [*]; omega))
  · refine c_cond0 (vb (ev_t rfl rfl) (decide_eq_false h4)) ?_
    refine c_reg ?_
    refine s_cmp (r := decide (x.k = 2)) (ev_t rfl rfl) ev_c rfl (w0 rfl) ?_
    refine s_assign (v := .bool (decide (x.k = 2))) (ev_t rfl rfl) (w0 rfl) ?_
    refine c_done (n_then ?_)
    by_cases h14 : x.k = 2
    · refine c_cond1 (vb (ev_t rfl rfl) (decide_eq_true h14)) ?_
      refine c_seq (c_reg ?_)
      refine s_field (off := 1) (o' := 1) F_f38_1 (ev_t rfl rfl) rfl (w0 rfl) ?_
      refine s_loadL (cs := [.string x.a.p, .slice Aa x.a.args.length ca]) (ca := #[.string x.a.p, .slice Aa x.a.args.length ca]) F_m24 (ev_t rfl rfl) rfl rfl (blk_cells (NewB.blk n3) 1 (cs := [.string x.a.p, .slice Aa x.a.args.length ca]) rfl) (w0 rfl) ?_
      refine s_call F_e61 (w0 rfl) ev_f (m1 (ev_t rfl rfl)) (args := #[.agg #[.string x.a.p, .slice Aa x.a.args.length ca]]) rfl (r4_atom x.a Aa ca _ hoa_ (Row.extT hra (NewB.ext n3))) ?_
      rintro _ w16 ⟨rfl, x15⟩
      rcases Bool.eq_false_or_eq_true (atB x.a) with h17 | h17
      · refine s_move (v := .bool true) (vb (ev_t rfl rfl) h17) (w0 rfl) ?_
        refine s_field (off := 3) (o' := 3) F_f38_2 (ev_t rfl rfl) rfl (wy rfl rfl rfl rfl) ?_
        refine s_load (v := .int .i8 x.r) F_o27 (ev_t rfl rfl) (cell_of_blk (i := 3) (Ext.blk x15 (NewB.blk n3)) rfl) (wy rfl rfl rfl rfl) ?_
        refine s_cmp (r := decide (x.r = 0)) (ev_t rfl rfl) ev_c rfl (wy rfl rfl rfl rfl) ?_
        refine s_pick1 (v := .bool (decide (x.r = 0))) (ev_t rfl rfl) (ev_t rfl rfl) (w0 rfl) ?_
        by_cases h18 : x.r = 0
        · refine s_move (v := .bool true) (vb (ev_t rfl rfl) (decide_eq_true h18)) (w0 rfl) ?_
          refine s_field (off := 4) (o' := 4) F_f38_3 (ev_t rfl rfl) rfl (wy rfl rfl rfl rfl) ?_
          refine s_loadL (cs := [.int .i8 x.e1.op, .string x.e1.t.v, .int .i8 x.e1.t.l.k, .int .i64 x.e1.t.l.n, .string x.e1.t.l.s, .slice A1 x.e1.kids.length c1]) (ca := #[.int .i8 x.e1.op, .string x.e1.t.v, .int .i8 x.e1.t.l.k, .int .i64 x.e1.t.l.n, .string x.e1.t.l.s, .slice A1 x.e1.kids.length c1]) F_m36 (ev_t rfl rfl) rfl rfl (blk_cells (Ext.blk x15 (NewB.blk n3)) 4 (cs := [.int .i8 x.e1.op, .string x.e1.t.v, .int .i8 x.e1.t.l.k, .int .i64 x.e1.t.l.n, .string x.e1.t.l.s, .slice A1 x.e1.kids.length c1]) rfl) (wy rfl rfl rfl rfl) ?_
          refine s_call F_e107 (wy rfl rfl rfl rfl) ev_f (m1 (ev_t rfl rfl)) (args := #[.agg #[.int .i8 x.e1.op, .string x.e1.t.v, .int .i8 x.e1.t.l.k, .int .i64 x.e1.t.l.n, .string x.e1.t.l.s, .slice A1 x.e1.kids.length c1]]) rfl (r4_nothing x.e1 A1 c1 _ ho1_ (Row.extE (Row.extE hr1 (NewB.ext n3)) x15)) ?_
          rintro _ w20 ⟨rfl, x19⟩
          refine s_pick1 (v := .bool (noE x.e1)) (ev_t rfl rfl) (ev_t rfl rfl) (w0 rfl) ?_
          rcases Bool.eq_false_or_eq_true (noE x.e1) with h21 | h21
          · refine s_move (v := .bool true) (vb (ev_t rfl rfl) h21) (w0 rfl) ?_
            refine s_field (off := 10) (o' := 10) F_f38_4 (ev_t rfl rfl) rfl (wy rfl rfl rfl rfl) ?_
            refine s_loadL (cs := [.int .i8 x.e2.op, .string x.e2.t.v, .int .i8 x.e2.t.l.k, .int .i64 x.e2.t.l.n, .string x.e2.t.l.s, .slice A2 x.e2.kids.length c2]) (ca := #[.int .i8 x.e2.op, .string x.e2.t.v, .int .i8 x.e2.t.l.k, .int .i64 x.e2.t.l.n, .string x.e2.t.l.s, .slice A2 x.e2.kids.length c2]) F_m36 (ev_t rfl rfl) rfl rfl (blk_cells (Ext.blk x19 (Ext.blk x15 (NewB.blk n3))) 10 (cs := [.int .i8 x.e2.op, .string x.e2.t.v, .int .i8 x.e2.t.l.k, .int .i64 x.e2.t.l.n, .string x.e2.t.l.s, .slice A2 x.e2.kids.length c2]) rfl) (wy rfl rfl rfl rfl) ?_
            refine s_call F_e107 (wy rfl rfl rfl rfl) ev_f (m1 (ev_t rfl rfl)) (args := #[.agg #[.int .i8 x.e2.op, .string x.e2.t.v, .int .i8 x.e2.t.l.k, .int .i64 x.e2.t.l.n, .string x.e2.t.l.s, .slice A2 x.e2.kids.length c2]]) rfl (r4_nothing x.e2 A2 c2 _ ho2_ (Row.extE (Row.extE (Row.extE hr2 (NewB.ext n3)) x15) x19)) ?_
            rintro _ w23 ⟨rfl, x22⟩
            refine s_pick1 (v := .bool (noE x.e2)) (ev_t rfl rfl) (ev_t rfl rfl) (w0 rfl) ?_
            refine s_assign (v := .bool (noE x.e2)) (ev_t rfl rfl) (w0 rfl) ?_
            refine c_done (n_then (c_ret (r_block (r_then ?_))))
            refine ret1 (v := .bool (noE x.e2)) rfl rfl rfl ?_
            refine ⟨_, rfl, ?_, (Ext.trans (Ext.trans (Ext.trans (NewB.ext n3) x15) x19) x22)⟩
            (refine congrArg Value.bool ?_; unfold ltB; first | (rw [if_pos (by omega)]; simp only [*, decide_true, decide_false, if_true, if_false, Bool.and_true, Bool.true_and, Bool.false_and, Bool.and_false, Bool.not_true, Bool.not_false, Bool.false_eq_true, reduceIte, not_true_eq_false, not_false_eq_true]; done) | (rw [if_neg (by omega), if_pos (by omega)]; simp only [*, decide_true, decide_false, if_true, if_false, Bool.and_true, Bool.true_and, Bool.false_and, Bool.and_false, Bool.not_true, Bool.not_false, Bool.false_eq_true, reduceIte, not_true_eq_false, not_false_eq_true]; done) | (rw [if_neg (by omega), if_neg (by omega)]; done) | (simp [*]; done) | (simp [*]; omega))
          · refine s_move (v := .bool false) (vb (ev_t rfl rfl) h21) (w0 rfl) ?_
            refine s_skip (wn rfl rfl rfl rfl rfl) ?_
            refine s_skip (wn rfl rfl rfl rfl rfl) ?_
            refine s_skip (wn rfl rfl rfl rfl rfl) ?_
            refine s_pick0 (v := .bool false) (ev_t rfl rfl) ev_c (w0 rfl) ?_
            refine s_assign (v := .bool false) (ev_t rfl rfl) (w0 rfl) ?_
            refine c_done (n_then (c_ret (r_block (r_then ?_))))
            refine ret1 (v := .bool false) rfl rfl rfl ?_
            refine ⟨_, rfl, ?_, (Ext.trans (Ext.trans (NewB.ext n3) x15) x19)⟩
            (refine congrArg Value.bool ?_; unfold ltB; first | (rw [if_pos (by omega)]; simp only [*, decide_true, decide_false, if_true, if_false, Bool.and_true, Bool.true_and, Bool.false_and, Bool.and_false, Bool.not_true, Bool.not_false, Bool.false_eq_true, reduceIte, not_true_eq_false, not_false_eq_true]; done) | (rw [if_neg (by omega), if_pos (by omega)]; simp only [*, decide_true, decide_false, if_true, if_false, Bool.and_true, Bool.true_and, Bool.false_and, Bool.and_false, Bool.not_true, Bool.not_false, Bool.false_eq_true, reduceIte, not_true_eq_false, not_false_eq_true]; done) | (rw [if_neg (by omega), if_neg (by omega)]; done) | (simp [*]; done) | (simp [*]; omega))
        · refine s_move (v := .bool false) (vb (ev_t rfl rfl) (decide_eq_false h18)) (w0 rfl) ?_
          refine s_skip (wn rfl rfl rfl rfl rfl) ?_
          refine s_skip (wn rfl rfl rfl rfl rfl) ?_
          refine s_skip (wn rfl rfl rfl rfl rfl) ?_
          refine s_pick0 (v := .bool false) (ev_t rfl rfl) ev_c (w0 rfl) ?_
          refine s_move (v := .bool false) (ev_t rfl rfl) (w0 rfl) ?_
          refine s_skip (wn rfl rfl rfl rfl rfl) ?_
          refine s_skip (wn rfl rfl rfl rfl rfl) ?_
          refine s_skip (wn rfl rfl rfl rfl rfl) ?_
          refine s_pick0 (v := .bool false) (ev_t rfl rfl) ev_c (w0 rfl) ?_
          refine s_assign (v := .bool false) (ev_t rfl rfl) (w0 rfl) ?_
          refine c_done (n_then (c_ret (r_block (r_then ?_))))
          refine ret1 (v := .bool false) rfl rfl rfl ?_
          refine ⟨_, rfl, ?_, (Ext.trans (NewB.ext n3) x15)⟩
          (refine congrArg Value.bool ?_; unfold ltB; first | (rw [if_pos (by omega)]; simp only [*, decide_true, decide_false, if_true, if_false, Bool.and_true, Bool.true_and, Bool.false_and, Bool.and_false, Bool.not_true, Bool.not_false, Bool.false_eq_true, reduceIte, not_true_eq_false, not_false_eq_true]; done) | (rw [if_neg (by omega), if_pos (by omega)]; simp only [*, decide_true, decide_false, if_true, if_false, Bool.and_true, Bool.true_and, Bool.false_and, Bool.and_false, Bool.not_true, Bool.not_false, Bool.false_eq_true, reduceIte, not_true_eq_false, not_false_eq_true]; done) | (rw [if_neg (by omega), if_neg (by omega)]; done) | (simp [*]; done) | (simp [*]; omega))
      · refine s_move (v := .bool false) (vb (ev_t rfl rfl) h17) (w0 rfl) ?_
        refine s_skip (wn rfl rfl rfl rfl rfl) ?_
        refine s_skip (wn rfl rfl rfl rfl rfl) ?_
        refine s_skip (wn rfl rfl rfl rfl rfl) ?_
        refine s_pick0 (v := .bool false) (ev_t rfl rfl) ev_c (w0 rfl) ?_
        refine s_move (v := .bool false) (ev_t rfl rfl) (w0 rfl) ?_
        refine s_skip (wn rfl rfl rfl rfl rfl) ?_
        refine s_skip (wn rfl rfl rfl rfl rfl) ?_
        refine s_skip (wn rfl rfl rfl rfl rfl) ?_
        refine s_pick0 (v := .bool false) (ev_t rfl rfl) ev_c (w0 rfl) ?_
        refine s_move (v := .bool false) (ev_t rfl rfl) (w0 rfl) ?_
        refine s_skip (wn rfl rfl rfl rfl rfl) ?_
        refine s_skip (wn rfl rfl rfl rfl rfl) ?_
        refine s_skip (wn rfl rfl rfl rfl rfl) ?_
        refine s_pick0 (v := .bool false) (ev_t rfl rfl) ev_c (w0 rfl) ?_
        refine s_assign (v := .bool false) (ev_t rfl rfl) (w0 rfl) ?_
        refine c_done (n_then (c_ret (r_block (r_then ?_))))
        refine ret1 (v := .bool false) rfl rfl rfl ?_
        refine ⟨_, rfl, ?_, (Ext.trans (NewB.ext n3) x15)⟩
        (refine congrArg Value.bool ?_; unfold ltB; first | (rw [if_pos (by omega)]; simp only [*, decide_true, decide_false, if_true, if_false, Bool.and_true, Bool.true_and, Bool.false_and, Bool.and_false, Bool.not_true, Bool.not_false, Bool.false_eq_true, reduceIte, not_true_eq_false, not_false_eq_true]; done) | (rw [if_neg (by omega), if_pos (by omega)]; simp only [*, decide_true, decide_false, if_true, if_false, Bool.and_true, Bool.true_and, Bool.false_and, Bool.and_false, Bool.not_true, Bool.not_false, Bool.false_eq_true, reduceIte, not_true_eq_false, not_false_eq_true]; done) | (rw [if_neg (by omega), if_neg (by omega)]; done) | (simp [*]; done) | (simp [*]; omega))
    · refine c_cond0 (vb (ev_t rfl rfl) (decide_eq_false h14)) ?_
      refine c_seq (c_reg ?_)
      refine s_cmp (r := decide (x.k = 3)) (ev_t rfl rfl) ev_c rfl (w0 rfl) ?_
      refine s_assign (v := .bool (decide (x.k = 3))) (ev_t rfl rfl) (w0 rfl) ?_
      refine c_done (n_then ?_)
      by_cases h24 : x.k = 3
      · refine c_cond1 (vb (ev_t rfl rfl) (decide_eq_true h24)) ?_
        refine c_seq (c_reg ?_)
        refine s_field (off := 1) (o' := 1) F_f38_1 (ev_t rfl rfl) rfl (w0 rfl) ?_
        refine s_field (off := 0) (o' := 1) F_f24_0 (ev_t rfl rfl) rfl (w0 rfl) ?_
        refine s_load (v := .string x.a.p) F_o9 (ev_t rfl rfl) (cell_of_blk (i := 1) (NewB.blk n3) rfl) (w0 rfl) ?_
        refine s_cmpS (r := decide (x.a.p = (⟨#[]⟩ : ByteArray))) (ev_t rfl rfl) ev_c rfl (w0 rfl) ?_
        by_cases h25 : x.a.p = (⟨#[]⟩ : ByteArray)
        · refine s_move (v := .bool true) (vb (ev_t rfl rfl) (decide_eq_true h25)) (w0 rfl) ?_
          refine s_field (off := 1) (o' := 1) F_f38_1 (ev_t rfl rfl) rfl (wy rfl rfl rfl rfl) ?_
          refine s_field (off := 1) (o' := 2) F_f24_1 (ev_t rfl rfl) rfl (wy rfl rfl rfl rfl) ?_
          refine s_load (v := .slice Aa x.a.args.length ca) F_o22 (ev_t rfl rfl) (cell_of_blk (i := 2) (NewB.blk n3) rfl) (wy rfl rfl rfl rfl) ?_
          refine s_lenL F_l22 (ev_t rfl rfl) (wy rfl rfl rfl rfl) ?_
          refine s_cmp (r := decide ((x.a.args.length : Int) = 0)) (ev_t rfl rfl) ev_c rfl (wy rfl rfl rfl rfl) ?_
          refine s_pick1 (v := .bool (decide ((x.a.args.length : Int) = 0))) (ev_t rfl rfl) (ev_t rfl rfl) (w0 rfl) ?_
          by_cases h26 : (x.a.args.length : Int) = 0
          · refine s_move (v := .bool true) (vb (ev_t rfl rfl) (decide_eq_true h26)) (w0 rfl) ?_
            refine s_field (off := 3) (o' := 3) F_f38_2 (ev_t rfl rfl) rfl (wy rfl rfl rfl rfl) ?_
            refine s_load (v := .int .i8 x.r) F_o27 (ev_t rfl rfl) (cell_of_blk (i := 3) (NewB.blk n3) rfl) (wy rfl rfl rfl rfl) ?_
            refine s_cmp (r := decide (1 ≤ x.r)) (ev_t rfl rfl) ev_c rfl (wy rfl rfl rfl rfl) ?_
            refine s_pick1 (v := .bool (decide (1 ≤ x.r))) (ev_t rfl rfl) (ev_t rfl rfl) (w0 rfl) ?_
            by_cases h27 : 1 ≤ x.r
            · refine s_move (v := .bool true) (vb (ev_t rfl rfl) (decide_eq_true h27)) (w0 rfl) ?_
              refine s_field (off := 3) (o' := 3) F_f38_2 (ev_t rfl rfl) rfl (wy rfl rfl rfl rfl) ?_
              refine s_load (v := .int .i8 x.r) F_o27 (ev_t rfl rfl) (cell_of_blk (i := 3) (NewB.blk n3) rfl) (wy rfl rfl rfl rfl) ?_
              refine s_cmp (r := decide (x.r ≤ 6)) (ev_t rfl rfl) ev_c rfl (wy rfl rfl rfl rfl) ?_
              refine s_pick1 (v := .bool (decide (x.r ≤ 6))) (ev_t rfl rfl) (ev_t rfl rfl) (w0 rfl) ?_
              by_cases h28 : x.r ≤ 6
              · refine s_move (v := .bool true) (vb (ev_t rfl rfl) (decide_eq_true h28)) (w0 rfl) ?_
                refine s_field (off := 4) (o' := 4) F_f38_3 (ev_t rfl rfl) rfl (wy rfl rfl rfl rfl) ?_
                refine s_loadL (cs := [.int .i8 x.e1.op, .string x.e1.t.v, .int .i8 x.e1.t.l.k, .int .i64 x.e1.t.l.n, .string x.e1.t.l.s, .slice A1 x.e1.kids.length c1]) (ca := #[.int .i8 x.e1.op, .string x.e1.t.v, .int .i8 x.e1.t.l.k, .int .i64 x.e1.t.l.n, .string x.e1.t.l.s, .slice A1 x.e1.kids.length c1]) F_m36 (ev_t rfl rfl) rfl rfl (blk_cells (NewB.blk n3) 4 (cs := [.int .i8 x.e1.op, .string x.e1.t.v, .int .i8 x.e1.t.l.k, .int .i64 x.e1.t.l.n, .string x.e1.t.l.s, .slice A1 x.e1.kids.length c1]) rfl) (wy rfl rfl rfl rfl) ?_
                refine s_call F_e108 (wy rfl rfl rfl rfl) ev_f (m2 (ev_t rfl rfl) ev_c) (args := #[.agg #[.int .i8 x.e1.op, .string x.e1.t.v, .int .i8 x.e1.t.l.k, .int .i64 x.e1.t.l.n, .string x.e1.t.l.s, .slice A1 x.e1.kids.length c1], .int .i64 8]) rfl (r4_expr 8 x.e1 A1 c1 _ (by decide) ho1_ (Row.extE hr1 (NewB.ext n3))) ?_
                rintro _ w30 ⟨rfl, x29⟩
                refine s_pick1 (v := .bool (exB 8 x.e1)) (ev_t rfl rfl) (ev_t rfl rfl) (w0 rfl) ?_
                rcases Bool.eq_false_or_eq_true (exB 8 x.e1) with h31 | h31
                · refine s_move (v := .bool true) (vb (ev_t rfl rfl) h31) (w0 rfl) ?_
                  refine s_field (off := 10) (o' := 10) F_f38_4 (ev_t rfl rfl) rfl (wy rfl rfl rfl rfl) ?_
                  refine s_loadL (cs := [.int .i8 x.e2.op, .string x.e2.t.v, .int .i8 x.e2.t.l.k, .int .i64 x.e2.t.l.n, .string x.e2.t.l.s, .slice A2 x.e2.kids.length c2]) (ca := #[.int .i8 x.e2.op, .string x.e2.t.v, .int .i8 x.e2.t.l.k, .int .i64 x.e2.t.l.n, .string x.e2.t.l.s, .slice A2 x.e2.kids.length c2]) F_m36 (ev_t rfl rfl) rfl rfl (blk_cells (Ext.blk x29 (NewB.blk n3)) 10 (cs := [.int .i8 x.e2.op, .string x.e2.t.v, .int .i8 x.e2.t.l.k, .int .i64 x.e2.t.l.n, .string x.e2.t.l.s, .slice A2 x.e2.kids.length c2]) rfl) (wy rfl rfl rfl rfl) ?_
                  refine s_call F_e108 (wy rfl rfl rfl rfl) ev_f (m2 (ev_t rfl rfl) ev_c) (args := #[.agg #[.int .i8 x.e2.op, .string x.e2.t.v, .int .i8 x.e2.t.l.k, .int .i64 x.e2.t.l.n, .string x.e2.t.l.s, .slice A2 x.e2.kids.length c2], .int .i64 8]) rfl (r4_expr 8 x.e2 A2 c2 _ (by decide) ho2_ (Row.extE (Row.extE hr2 (NewB.ext n3)) x29)) ?_
                  rintro _ w33 ⟨rfl, x32⟩
                  refine s_pick1 (v := .bool (exB 8 x.e2)) (ev_t rfl rfl) (ev_t rfl rfl) (w0 rfl) ?_
                  refine s_assign (v := .bool (exB 8 x.e2)) (ev_t rfl rfl) (w0 rfl) ?_
                  refine c_done (n_then (c_ret (r_block (r_then ?_))))
                  refine ret1 (v := .bool (exB 8 x.e2)) rfl rfl rfl ?_
                  refine ⟨_, rfl, ?_, (Ext.trans (Ext.trans (NewB.ext n3) x29) x32)⟩
                  (refine congrArg Value.bool ?_; unfold ltB; first | (rw [if_pos (by omega)]; simp only [*, decide_true, decide_false, if_true, if_false, Bool.and_true, Bool.true_and, Bool.false_and, Bool.and_false, Bool.not_true, Bool.not_false, Bool.false_eq_true, reduceIte, not_true_eq_false, not_false_eq_true]; done) | (rw [if_neg (by omega), if_pos (by omega)]; simp only [*, decide_true, decide_false, if_true, if_false, Bool.and_true, Bool.true_and, Bool.false_and, Bool.and_false, Bool.not_true, Bool.not_false, Bool.false_eq_true, reduceIte, not_true_eq_false, not_false_eq_true]; done) | (rw [if_neg (by omega), if_neg (by omega)]; done) | (simp [*]; done) | (simp [*]; omega))
                · refine s_move (v := .bool false) (vb (ev_t rfl rfl) h31) (w0 rfl) ?_
                  refine s_skip (wn rfl rfl rfl rfl rfl) ?_
                  refine s_skip (wn rfl rfl rfl rfl rfl) ?_
                  refine s_skip (wn rfl rfl rfl rfl rfl) ?_
                  refine s_pick0 (v := .bool false) (ev_t rfl rfl) ev_c (w0 rfl) ?_
                  refine s_assign (v := .bool false) (ev_t rfl rfl) (w0 rfl) ?_
                  refine c_done (n_then (c_ret (r_block (r_then ?_))))
                  refine ret1 (v := .bool false) rfl rfl rfl ?_
                  refine ⟨_, rfl, ?_, (Ext.trans (NewB.ext n3) x29)⟩
                  (refine congrArg Value.bool ?_; unfold ltB; first | (rw [if_pos (by omega)]; simp only [*, decide_true, decide_false, if_true, if_false, Bool.and_true, Bool.true_and, Bool.false_and, Bool.and_false, Bool.not_true, Bool.not_false, Bool.false_eq_true, reduceIte, not_true_eq_false, not_false_eq_true]; done) | (rw [if_neg (by omega), if_pos (by omega)]; simp only [*, decide_true, decide_false, if_true, if_false, Bool.and_true, Bool.true_and, Bool.false_and, Bool.and_false, Bool.not_true, Bool.not_false, Bool.false_eq_true, reduceIte, not_true_eq_false, not_false_eq_true]; done) | (rw [if_neg (by omega), if_neg (by omega)]; done) | (simp [*]; done) | (simp [*]; omega))
              · refine s_move (v := .bool false) (vb (ev_t rfl rfl) (decide_eq_false h28)) (w0 rfl) ?_
                refine s_skip (wn rfl rfl rfl rfl rfl) ?_
                refine s_skip (wn rfl rfl rfl rfl rfl) ?_
                refine s_skip (wn rfl rfl rfl rfl rfl) ?_
                refine s_pick0 (v := .bool false) (ev_t rfl rfl) ev_c (w0 rfl) ?_
                refine s_move (v := .bool false) (ev_t rfl rfl) (w0 rfl) ?_
                refine s_skip (wn rfl rfl rfl rfl rfl) ?_
                refine s_skip (wn rfl rfl rfl rfl rfl) ?_
                refine s_skip (wn rfl rfl rfl rfl rfl) ?_
                refine s_pick0 (v := .bool false) (ev_t rfl rfl) ev_c (w0 rfl) ?_
                refine s_assign (v := .bool false) (ev_t rfl rfl) (w0 rfl) ?_
                refine c_done (n_then (c_ret (r_block (r_then ?_))))
                refine ret1 (v := .bool false) rfl rfl rfl ?_
                refine ⟨_, rfl, ?_, (NewB.ext n3)⟩
                (refine congrArg Value.bool ?_; unfold ltB; first | (rw [if_pos (by omega)]; simp only [*, decide_true, decide_false, if_true, if_false, Bool.and_true, Bool.true_and, Bool.false_and, Bool.and_false, Bool.not_true, Bool.not_false, Bool.false_eq_true, reduceIte, not_true_eq_false, not_false_eq_true]; done) | (rw [if_neg (by omega), if_pos (by omega)]; simp only [*, decide_true, decide_false, if_true, if_false, Bool.and_true, Bool.true_and, Bool.false_and, Bool.and_false, Bool.not_true, Bool.not_false, Bool.false_eq_true, reduceIte, not_true_eq_false, not_false_eq_true]; done) | (rw [if_neg (by omega), if_neg (by omega)]; done) | (simp [*]; done) | (simp [*]; omega))
            · refine s_move (v := .bool false) (vb (ev_t rfl rfl) (decide_eq_false h27)) (w0 rfl) ?_
              refine s_skip (wn rfl rfl rfl rfl rfl) ?_
              refine s_skip (wn rfl rfl rfl rfl rfl) ?_
              refine s_skip (wn rfl rfl rfl rfl rfl) ?_
              refine s_pick0 (v := .bool false) (ev_t rfl rfl) ev_c (w0 rfl) ?_
              refine s_move (v := .bool false) (ev_t rfl rfl) (w0 rfl) ?_
              refine s_skip (wn rfl rfl rfl rfl rfl) ?_
              refine s_skip (wn rfl rfl rfl rfl rfl) ?_
              refine s_skip (wn rfl rfl rfl rfl rfl) ?_
              refine s_pick0 (v := .bool false) (ev_t rfl rfl) ev_c (w0 rfl) ?_
              refine s_move (v := .bool false) (ev_t rfl rfl) (w0 rfl) ?_
              refine s_skip (wn rfl rfl rfl rfl rfl) ?_
              refine s_skip (wn rfl rfl rfl rfl rfl) ?_
              refine s_skip (wn rfl rfl rfl rfl rfl) ?_
              refine s_pick0 (v := .bool false) (ev_t rfl rfl) ev_c (w0 rfl) ?_
              refine s_assign (v := .bool false) (ev_t rfl rfl) (w0 rfl) ?_
              refine c_done (n_then (c_ret (r_block (r_then ?_))))
              refine ret1 (v := .bool false) rfl rfl rfl ?_
              refine ⟨_, rfl, ?_, (NewB.ext n3)⟩
              (refine congrArg Value.bool ?_; unfold ltB; first | (rw [if_pos (by omega)]; simp only [*, decide_true, decide_false, if_true, if_false, Bool.and_true, Bool.true_and, Bool.false_and, Bool.and_false, Bool.not_true, Bool.not_false, Bool.false_eq_true, reduceIte, not_true_eq_false, not_false_eq_true]; done) | (rw [if_neg (by omega), if_pos (by omega)]; simp only [*, decide_true, decide_false, if_true, if_false, Bool.and_true, Bool.true_and, Bool.false_and, Bool.and_false, Bool.not_true, Bool.not_false, Bool.false_eq_true, reduceIte, not_true_eq_false, not_false_eq_true]; done) | (rw [if_neg (by omega), if_neg (by omega)]; done) | (simp [*]; done) | (simp [*]; omega))
          · refine s_move (v := .bool false) (vb (ev_t rfl rfl) (decide_eq_false h26)) (w0 rfl) ?_
            refine s_skip (wn rfl rfl rfl rfl rfl) ?_
            refine s_skip (wn rfl rfl rfl rfl rfl) ?_
            refine s_skip (wn rfl rfl rfl rfl rfl) ?_
            refine s_pick0 (v := .bool false) (ev_t rfl rfl) ev_c (w0 rfl) ?_
            refine s_move (v := .bool false) (ev_t rfl rfl) (w0 rfl) ?_
            refine s_skip (wn rfl rfl rfl rfl rfl) ?_
            refine s_skip (wn rfl rfl rfl rfl rfl) ?_
            refine s_skip (wn rfl rfl rfl rfl rfl) ?_
            refine s_pick0 (v := .bool false) (ev_t rfl rfl) ev_c (w0 rfl) ?_
            refine s_move (v := .bool false) (ev_t rfl rfl) (w0 rfl) ?_
            refine s_skip (wn rfl rfl rfl rfl rfl) ?_
            refine s_skip (wn rfl rfl rfl rfl rfl) ?_
            refine s_skip (wn rfl rfl rfl rfl rfl) ?_
            refine s_pick0 (v := .bool false) (ev_t rfl rfl) ev_c (w0 rfl) ?_
            refine s_move (v := .bool false) (ev_t rfl rfl) (w0 rfl) ?_
            refine s_skip (wn rfl rfl rfl rfl rfl) ?_
            refine s_skip (wn rfl rfl rfl rfl rfl) ?_
            refine s_skip (wn rfl rfl rfl rfl rfl) ?_
            refine s_pick0 (v := .bool false) (ev_t rfl rfl) ev_c (w0 rfl) ?_
            refine s_assign (v := .bool false) (ev_t rfl rfl) (w0 rfl) ?_
            refine c_done (n_then (c_ret (r_block (r_then ?_))))
            refine ret1 (v := .bool false) rfl rfl rfl ?_
            refine ⟨_, rfl, ?_, (NewB.ext n3)⟩
            (refine congrArg Value.bool ?_; unfold ltB; first | (rw [if_pos (by omega)]; simp only [*, decide_true, decide_false, if_true, if_false, Bool.and_true, Bool.true_and, Bool.false_and, Bool.and_false, Bool.not_true, Bool.not_false, Bool.false_eq_true, reduceIte, not_true_eq_false, not_false_eq_true]; done) | (rw [if_neg (by omega), if_pos (by omega)]; simp only [*, decide_true, decide_false, if_true, if_false, Bool.and_true, Bool.true_and, Bool.false_and, Bool.and_false, Bool.not_true, Bool.not_false, Bool.false_eq_true, reduceIte, not_true_eq_false, not_false_eq_true]; done) | (rw [if_neg (by omega), if_neg (by omega)]; done) | (simp [*]; done) | (simp [*]; omega))
        · refine s_move (v := .bool false) (vb (ev_t rfl rfl) (decide_eq_false h25)) (w0 rfl) ?_
          refine s_skip (wn rfl rfl rfl rfl rfl) ?_
          refine s_skip (wn rfl rfl rfl rfl rfl) ?_
          refine s_skip (wn rfl rfl rfl rfl rfl) ?_
          refine s_skip (wn rfl rfl rfl rfl rfl) ?_
          refine s_skip (wn rfl rfl rfl rfl rfl) ?_
          refine s_pick0 (v := .bool false) (ev_t rfl rfl) ev_c (w0 rfl) ?_
          refine s_move (v := .bool false) (ev_t rfl rfl) (w0 rfl) ?_
          refine s_skip (wn rfl rfl rfl rfl rfl) ?_
          refine s_skip (wn rfl rfl rfl rfl rfl) ?_
          refine s_skip (wn rfl rfl rfl rfl rfl) ?_
          refine s_pick0 (v := .bool false) (ev_t rfl rfl) ev_c (w0 rfl) ?_
          refine s_move (v := .bool false) (ev_t rfl rfl) (w0 rfl) ?_
          refine s_skip (wn rfl rfl rfl rfl rfl) ?_
          refine s_skip (wn rfl rfl rfl rfl rfl) ?_
          refine s_skip (wn rfl rfl rfl rfl rfl) ?_
          refine s_pick0 (v := .bool false) (ev_t rfl rfl) ev_c (w0 rfl) ?_
          refine s_move (v := .bool false) (ev_t rfl rfl) (w0 rfl) ?_
          refine s_skip (wn rfl rfl rfl rfl rfl) ?_
          refine s_skip (wn rfl rfl rfl rfl rfl) ?_
          refine s_skip (wn rfl rfl rfl rfl rfl) ?_
          refine s_pick0 (v := .bool false) (ev_t rfl rfl) ev_c (w0 rfl) ?_
          refine s_move (v := .bool false) (ev_t rfl rfl) (w0 rfl) ?_
          refine s_skip (wn rfl rfl rfl rfl rfl) ?_
          refine s_skip (wn rfl rfl rfl rfl rfl) ?_
          refine s_skip (wn rfl rfl rfl rfl rfl) ?_
          refine s_pick0 (v := .bool false) (ev_t rfl rfl) ev_c (w0 rfl) ?_
          refine s_assign (v := .bool false) (ev_t rfl rfl) (w0 rfl) ?_
          refine c_done (n_then (c_ret (r_block (r_then ?_))))
          refine ret1 (v := .bool false) rfl rfl rfl ?_
          refine ⟨_, rfl, ?_, (NewB.ext n3)⟩
          (refine congrArg Value.bool ?_; unfold ltB; first | (rw [if_pos (by omega)]; simp only [*, decide_true, decide_false, if_true, if_false, Bool.and_true, Bool.true_and, Bool.false_and, Bool.and_false, Bool.not_true, Bool.not_false, Bool.false_eq_true, reduceIte, not_true_eq_false, not_false_eq_true]; done) | (rw [if_neg (by omega), if_pos (by omega)]; simp only [*, decide_true, decide_false, if_true, if_false, Bool.and_true, Bool.true_and, Bool.false_and, Bool.and_false, Bool.not_true, Bool.not_false, Bool.false_eq_true, reduceIte, not_true_eq_false, not_false_eq_true]; done) | (rw [if_neg (by omega), if_neg (by omega)]; done) | (simp [*]; done) | (simp [*]; omega))
      · refine c_cond0 (vb (ev_t rfl rfl) (decide_eq_false h24)) ?_
        refine c_skip (n_block (n_then (c_seq (c_reg ?_))))
        refine s_assign (v := .bool false) ev_c (w0 rfl) ?_
        refine c_done (n_then (c_ret ?_))
        refine ret1 (v := .bool false) rfl rfl rfl ?_
        refine ⟨_, rfl, ?_, (NewB.ext n3)⟩
        (refine congrArg Value.bool ?_; unfold ltB; first | (rw [if_pos (by omega)]; simp only [*, decide_true, decide_false, if_true, if_false, Bool.and_true, Bool.true_and, Bool.false_and, Bool.and_false, Bool.not_true, Bool.not_false, Bool.false_eq_true, reduceIte, not_true_eq_false, not_false_eq_true]; done) | (rw [if_neg (by omega), if_pos (by omega)]; simp only [*, decide_true, decide_false, if_true, if_false, Bool.and_true, Bool.true_and, Bool.false_and, Bool.and_false, Bool.not_true, Bool.not_false, Bool.false_eq_true, reduceIte, not_true_eq_false, not_false_eq_true]; done) | (rw [if_neg (by omega), if_neg (by omega)]; done) | (simp [*]; done) | (simp [*]; omega))
set_option maxHeartbeats 4000000 in
theorem r4_CheckLiteral (x : Lt) (Aa A1 A2 : Option Addr) (ca c1 c2 : Nat) (w : World) (ho : x.okc ca c1 c2) (hra : Row RT 4 w Aa x.a.args) (hr1 : Row RE 6 w A1 x.e1.kids) (hr2 : Row RE 6 w A2 x.e2.kids) :
    Rt Tryz.prog 36 #[.agg #[.int .i8 x.k, .string x.a.p, .slice Aa x.a.args.length ca, .int .i8 x.r, .int .i8 x.e1.op, .string x.e1.t.v, .int .i8 x.e1.t.l.k, .int .i64 x.e1.t.l.n, .string x.e1.t.l.s, .slice A1 x.e1.kids.length c1, .int .i8 x.e2.op, .string x.e2.t.v, .int .i8 x.e2.t.l.k, .int .i64 x.e2.t.l.n, .string x.e2.t.l.s, .slice A2 x.e2.kids.length c2]] w fun v w' => v = .int .i64 (code (ltB x)) ∧ Ext w w' := by
  refine enter Tryz.func36 rfl (l := [.agg #[.int .i8 x.k, .string x.a.p, .slice Aa x.a.args.length ca, .int .i8 x.r, .int .i8 x.e1.op, .string x.e1.t.v, .int .i8 x.e1.t.l.k, .int .i64 x.e1.t.l.n, .string x.e1.t.l.s, .slice A1 x.e1.kids.length c1, .int .i8 x.e2.op, .string x.e2.t.v, .int .i8 x.e2.t.l.k, .int .i64 x.e2.t.l.n, .string x.e2.t.l.s, .slice A2 x.e2.kids.length c2]]) rfl Tryz.ntmps36 (Nat.le_of_ble_eq_true rfl) ?_
  have hoa_ := Lt.okc.a ho
  have ho1_ := Lt.okc.e1 ho
  have ho2_ := Lt.okc.e2 ho
  have hl1_ := Ex.okc.l ho1_
  have hl2_ := Ex.okc.l ho2_
  have hc1_ := Ex.okc.c ho1_
  have hc2_ := Ex.okc.c ho2_
  have hla_ := At.okc.l hoa_
  have hca_ := At.okc.c hoa_
  have hpa_ := At.okc.p hoa_
  refine c_seq (c_reg ?_)
  refine s_box (v := .agg #[.int .i8 x.k, .string x.a.p, .slice Aa x.a.args.length ca, .int .i8 x.r, .int .i8 x.e1.op, .string x.e1.t.v, .int .i8 x.e1.t.l.k, .int .i64 x.e1.t.l.n, .string x.e1.t.l.s, .slice A1 x.e1.kids.length c1, .int .i8 x.e2.op, .string x.e2.t.v, .int .i8 x.e2.t.l.k, .int .i64 x.e2.t.l.n, .string x.e2.t.l.s, .slice A2 x.e2.kids.length c2]) (cs := #[.int .i8 x.k, .string x.a.p, .slice Aa x.a.args.length ca, .int .i8 x.r, .int .i8 x.e1.op, .string x.e1.t.v, .int .i8 x.e1.t.l.k, .int .i64 x.e1.t.l.n, .string x.e1.t.l.s, .slice A1 x.e1.kids.length c1, .int .i8 x.e2.op, .string x.e2.t.v, .int .i8 x.e2.t.l.k, .int .i64 x.e2.t.l.n, .string x.e2.t.l.s, .slice A2 x.e2.kids.length c2]) (w0 rfl) (ev_t rfl rfl) rfl ?_
  intro w2 g1 n3
  refine s_assign (v := .int .i64 0) ev_c (w0 rfl) ?_
  refine c_done (n_then (c_seq (c_reg ?_)))
  refine s_loadL (cs := [.int .i8 x.k, .string x.a.p, .slice Aa x.a.args.length ca, .int .i8 x.r, .int .i8 x.e1.op, .string x.e1.t.v, .int .i8 x.e1.t.l.k, .int .i64 x.e1.t.l.n, .string x.e1.t.l.s, .slice A1 x.e1.kids.length c1, .int .i8 x.e2.op, .string x.e2.t.v, .int .i8 x.e2.t.l.k, .int .i64 x.e2.t.l.n, .string x.e2.t.l.s, .slice A2 x.e2.kids.length c2]) (ca := #[.int .i8 x.k, .string x.a.p, .slice Aa x.a.args.length ca, .int .i8 x.r, .int .i8 x.e1.op, .string x.e1.t.v, .int .i8 x.e1.t.l.k, .int .i64 x.e1.t.l.n, .string x.e1.t.l.s, .slice A1 x.e1.kids.length c1, .int .i8 x.e2.op, .string x.e2.t.v, .int .i8 x.e2.t.l.k, .int .i64 x.e2.t.l.n, .string x.e2.t.l.s, .slice A2 x.e2.kids.length c2]) F_m38 (ev_t rfl rfl) rfl rfl (blk_cells (NewB.blk n3) 0 (cs := [.int .i8 x.k, .string x.a.p, .slice Aa x.a.args.length ca, .int .i8 x.r, .int .i8 x.e1.op, .string x.e1.t.v, .int .i8 x.e1.t.l.k, .int .i64 x.e1.t.l.n, .string x.e1.t.l.s, .slice A1 x.e1.kids.length c1, .int .i8 x.e2.op, .string x.e2.t.v, .int .i8 x.e2.t.l.k, .int .i64 x.e2.t.l.n, .string x.e2.t.l.s, .slice A2 x.e2.kids.length c2]) rfl) (w0 rfl) ?_
  refine s_call F_e72 (w0 rfl) ev_f (m1 (ev_t rfl rfl)) (args := #[.agg #[.int .i8 x.k, .string x.a.p, .slice Aa x.a.args.length ca, .int .i8 x.r, .int .i8 x.e1.op, .string x.e1.t.v, .int .i8 x.e1.t.l.k, .int .i64 x.e1.t.l.n, .string x.e1.t.l.s, .slice A1 x.e1.kids.length c1, .int .i8 x.e2.op, .string x.e2.t.v, .int .i8 x.e2.t.l.k, .int .i64 x.e2.t.l.n, .string x.e2.t.l.s, .slice A2 x.e2.kids.length c2]]) rfl (r4_literal x Aa A1 A2 ca c1 c2 _ ho (Row.extT hra (NewB.ext n3)) (Row.extE hr1 (NewB.ext n3)) (Row.extE hr2 (NewB.ext n3))) ?_
  rintro _ w5 ⟨rfl, x4⟩
  refine s_call F_e60 (w0 rfl) ev_f (m1 (ev_t rfl rfl)) (args := #[.bool (ltB x)]) rfl (r4_said (ltB x) _) ?_
  rintro _ w7 ⟨rfl, x6⟩
  refine s_assign (v := .int .i64 (code (ltB x))) (ev_t rfl rfl) (w0 rfl) ?_
  refine c_done (n_then (c_ret ?_))
  refine ret1 (v := .int .i64 (code (ltB x))) rfl rfl rfl ?_
  refine ⟨_, rfl, ?_, (Ext.trans (Ext.trans (NewB.ext n3) x4) x6)⟩
  rfl
set_option maxHeartbeats 4000000 in
theorem t_empty (x : Ex) (A : Option Addr) (c : Nat) (w : World) (ho : x.okc c) (hr : Row RE 6 w A x.kids) :
    Rt Tryz.prog 75 #[.agg #[.int .i8 x.op, .string x.t.v, .int .i8 x.t.l.k, .int .i64 x.t.l.n, .string x.t.l.s, .slice A x.kids.length c]] w fun v w' => v = .bool (noE x) ∧ Ext w w' := by
  refine enter Tryz.func75 rfl (l := [.agg #[.int .i8 x.op, .string x.t.v, .int .i8 x.t.l.k, .int .i64 x.t.l.n, .string x.t.l.s, .slice A x.kids.length c]]) rfl Tryz.ntmps75 (Nat.le_of_ble_eq_true rfl) ?_
  have hl_ := Ex.okc.l ho
  have hc_ := Ex.okc.c ho
  refine c_seq (c_reg ?_)
  refine s_box (v := .agg #[.int .i8 x.op, .string x.t.v, .int .i8 x.t.l.k, .int .i64 x.t.l.n, .string x.t.l.s, .slice A x.kids.length c]) (cs := #[.int .i8 x.op, .string x.t.v, .int .i8 x.t.l.k, .int .i64 x.t.l.n, .string x.t.l.s, .slice A x.kids.length c]) (w0 rfl) (ev_t rfl rfl) rfl ?_
  intro w2 g1 n3
  refine s_assign (v := .bool false) ev_c (w0 rfl) ?_
  refine c_done (n_then (c_seq (c_reg ?_)))
  refine s_field (off := 0) (o' := 0) F_f36_0 (ev_t rfl rfl) rfl (w0 rfl) ?_
  refine s_load (v := .int .i8 x.op) F_o28 (ev_t rfl rfl) (cell_of_blk (i := 0) (NewB.blk n3) rfl) (w0 rfl) ?_
  refine s_cmp (r := decide (x.op = 0)) (ev_t rfl rfl) ev_c rfl (w0 rfl) ?_
  by_cases h4 : x.op = 0
  · refine s_move (v := .bool true) (vb (ev_t rfl rfl) (decide_eq_true h4)) (w0 rfl) ?_
    refine s_field (off := 1) (o' := 1) F_f36_1 (ev_t rfl rfl) rfl (wy rfl rfl rfl rfl) ?_
    refine s_loadL (cs := [.string x.t.v, .int .i8 x.t.l.k, .int .i64 x.t.l.n, .string x.t.l.s]) (ca := #[.string x.t.v, .int .i8 x.t.l.k, .int .i64 x.t.l.n, .string x.t.l.s]) F_m33 (ev_t rfl rfl) rfl rfl (blk_cells (NewB.blk n3) 1 (cs := [.string x.t.v, .int .i8 x.t.l.k, .int .i64 x.t.l.n, .string x.t.l.s]) rfl) (wy rfl rfl rfl rfl) ?_
    refine s_call F_e113 (wy rfl rfl rfl rfl) ev_f (m1 (ev_t rfl rfl)) (args := #[.agg #[.string x.t.v, .int .i8 x.t.l.k, .int .i64 x.t.l.n, .string x.t.l.s]]) rfl (t_none x.t _) ?_
    rintro _ w6 ⟨rfl, x5⟩
    refine s_pick1 (v := .bool (zT x.t)) (ev_t rfl rfl) (ev_t rfl rfl) (w0 rfl) ?_
    rcases Bool.eq_false_or_eq_true (zT x.t) with h7 | h7
    · refine s_move (v := .bool true) (vb (ev_t rfl rfl) h7) (w0 rfl) ?_
      refine s_field (off := 5) (o' := 5) F_f36_2 (ev_t rfl rfl) rfl (wy rfl rfl rfl rfl) ?_
      refine s_load (v := .slice A x.kids.length c) F_o34 (ev_t rfl rfl) (cell_of_blk (i := 5) (Ext.blk x5 (NewB.blk n3)) rfl) (wy rfl rfl rfl rfl) ?_
      refine s_lenL F_l34 (ev_t rfl rfl) (wy rfl rfl rfl rfl) ?_
      refine s_cmp (r := decide ((x.kids.length : Int) = 0)) (ev_t rfl rfl) ev_c rfl (wy rfl rfl rfl rfl) ?_
      refine s_pick1 (v := .bool (decide ((x.kids.length : Int) = 0))) (ev_t rfl rfl) (ev_t rfl rfl) (w0 rfl) ?_
      refine s_assign (v := .bool (decide ((x.kids.length : Int) = 0))) (ev_t rfl rfl) (w0 rfl) ?_
      refine c_done (n_then (c_ret ?_))
      refine ret1 (v := .bool (decide ((x.kids.length : Int) = 0))) rfl rfl rfl ?_
      refine ⟨_, rfl, ?_, (Ext.trans (NewB.ext n3) x5)⟩
      (refine congrArg Value.bool ?_; unfold noE; simp only [*, decide_true, decide_false, if_true, if_false, Bool.and_true, Bool.true_and, Bool.false_and, Bool.and_false, Bool.not_true, Bool.not_false, Bool.false_eq_true, reduceIte, not_true_eq_false, not_false_eq_true])
    · refine s_move (v := .bool false) (vb (ev_t rfl rfl) h7) (w0 rfl) ?_
      refine s_skip (wn rfl rfl rfl rfl rfl) ?_
      refine s_skip (wn rfl rfl rfl rfl rfl) ?_
      refine s_skip (wn rfl rfl rfl rfl rfl) ?_
      refine s_skip (wn rfl rfl rfl rfl rfl) ?_
      refine s_pick0 (v := .bool false) (ev_t rfl rfl) ev_c (w0 rfl) ?_
      refine s_assign (v := .bool false) (ev_t rfl rfl) (w0 rfl) ?_
      refine c_done (n_then (c_ret ?_))
      refine ret1 (v := .bool false) rfl rfl rfl ?_
      refine ⟨_, rfl, ?_, (Ext.trans (NewB.ext n3) x5)⟩
      (refine congrArg Value.bool ?_; unfold noE; simp only [*, decide_true, decide_false, if_true, if_false, Bool.and_true, Bool.true_and, Bool.false_and, Bool.and_false, Bool.not_true, Bool.not_false, Bool.false_eq_true, reduceIte, not_true_eq_false, not_false_eq_true])
  · refine s_move (v := .bool false) (vb (ev_t rfl rfl) (decide_eq_false h4)) (w0 rfl) ?_
    refine s_skip (wn rfl rfl rfl rfl rfl) ?_
    refine s_skip (wn rfl rfl rfl rfl rfl) ?_
    refine s_skip (wn rfl rfl rfl rfl rfl) ?_
    refine s_pick0 (v := .bool false) (ev_t rfl rfl) ev_c (w0 rfl) ?_
    refine s_move (v := .bool false) (ev_t rfl rfl) (w0 rfl) ?_
    refine s_skip (wn rfl rfl rfl rfl rfl) ?_
    refine s_skip (wn rfl rfl rfl rfl rfl) ?_
    refine s_skip (wn rfl rfl rfl rfl rfl) ?_
    refine s_skip (wn rfl rfl rfl rfl rfl) ?_
    refine s_pick0 (v := .bool false) (ev_t rfl rfl) ev_c (w0 rfl) ?_
    refine s_assign (v := .bool false) (ev_t rfl rfl) (w0 rfl) ?_
    refine c_done (n_then (c_ret ?_))
    refine ret1 (v := .bool false) rfl rfl rfl ?_
    refine ⟨_, rfl, ?_, (NewB.ext n3)⟩
    (refine congrArg Value.bool ?_; unfold noE; simp only [*, decide_true, decide_false, if_true, if_false, Bool.and_true, Bool.true_and, Bool.false_and, Bool.and_false, Bool.not_true, Bool.not_false, Bool.false_eq_true, reduceIte, not_true_eq_false, not_false_eq_true])
set_option maxHeartbeats 4000000 in
theorem t_CheckLiteral (x : Lt) (Aa A1 A2 : Option Addr) (ca c1 c2 : Nat) (w : World) (ho : x.okc ca c1 c2) (hra : Row RT 4 w Aa x.a.args) (hr1 : Row RE 6 w A1 x.e1.kids) (hr2 : Row RE 6 w A2 x.e2.kids) :
    Rt Tryz.prog 39 #[.agg #[.int .i8 x.k, .string x.a.p, .slice Aa x.a.args.length ca, .int .i8 x.r, .int .i8 x.e1.op, .string x.e1.t.v, .int .i8 x.e1.t.l.k, .int .i64 x.e1.t.l.n, .string x.e1.t.l.s, .slice A1 x.e1.kids.length c1, .int .i8 x.e2.op, .string x.e2.t.v, .int .i8 x.e2.t.l.k, .int .i64 x.e2.t.l.n, .string x.e2.t.l.s, .slice A2 x.e2.kids.length c2]] w fun v w' => v = .int .i64 (code (ltB x)) ∧ Ext w w' := by
  refine enter Tryz.func39 rfl (l := [.agg #[.int .i8 x.k, .string x.a.p, .slice Aa x.a.args.length ca, .int .i8 x.r, .int .i8 x.e1.op, .string x.e1.t.v, .int .i8 x.e1.t.l.k, .int .i64 x.e1.t.l.n, .string x.e1.t.l.s, .slice A1 x.e1.kids.length c1, .int .i8 x.e2.op, .string x.e2.t.v, .int .i8 x.e2.t.l.k, .int .i64 x.e2.t.l.n, .string x.e2.t.l.s, .slice A2 x.e2.kids.length c2]]) rfl Tryz.ntmps39 (Nat.le_of_ble_eq_true rfl) ?_
  have hoa_ := Lt.okc.a ho
  have ho1_ := Lt.okc.e1 ho
  have ho2_ := Lt.okc.e2 ho
  have hl1_ := Ex.okc.l ho1_
  have hl2_ := Ex.okc.l ho2_
  have hc1_ := Ex.okc.c ho1_
  have hc2_ := Ex.okc.c ho2_
  have hla_ := At.okc.l hoa_
  have hca_ := At.okc.c hoa_
  have hpa_ := At.okc.p hoa_
  refine c_seq (c_reg ?_)
  refine s_box (v := .agg #[.int .i8 x.k, .string x.a.p, .slice Aa x.a.args.length ca, .int .i8 x.r, .int .i8 x.e1.op, .string x.e1.t.v, .int .i8 x.e1.t.l.k, .int .i64 x.e1.t.l.n, .string x.e1.t.l.s, .slice A1 x.e1.kids.length c1, .int .i8 x.e2.op, .string x.e2.t.v, .int .i8 x.e2.t.l.k, .int .i64 x.e2.t.l.n, .string x.e2.t.l.s, .slice A2 x.e2.kids.length c2]) (cs := #[.int .i8 x.k, .string x.a.p, .slice Aa x.a.args.length ca, .int .i8 x.r, .int .i8 x.e1.op, .string x.e1.t.v, .int .i8 x.e1.t.l.k, .int .i64 x.e1.t.l.n, .string x.e1.t.l.s, .slice A1 x.e1.kids.length c1, .int .i8 x.e2.op, .string x.e2.t.v, .int .i8 x.e2.t.l.k, .int .i64 x.e2.t.l.n, .string x.e2.t.l.s, .slice A2 x.e2.kids.length c2]) (w0 rfl) (ev_t rfl rfl) rfl ?_
  intro w2 g1 n3
  refine s_assign (v := .int .i64 0) ev_c (w0 rfl) ?_
  refine c_done (n_then (c_seq (c_seq (c_reg ?_))))
  refine s_field (off := 0) (o' := 0) F_f38_0 (ev_t rfl rfl) rfl (w0 rfl) ?_
  refine s_load (v := .int .i8 x.k) F_o26 (ev_t rfl rfl) (cell_of_blk (i := 0) (NewB.blk n3) rfl) (w0 rfl) ?_
  refine c_done (n_then (c_block (c_seq (c_seq (c_reg ?_)))))
  refine s_cmp (r := decide (x.k = 1)) (ev_t rfl rfl) ev_c rfl (w0 rfl) ?_
  refine s_assign (v := .bool (decide (x.k = 1))) (ev_t rfl rfl) (w0 rfl) ?_
  refine c_done (n_then ?_)
  by_cases h4 : x.k = 1
  · refine c_cond1 (vb (ev_t rfl rfl) (decide_eq_true h4)) ?_
    refine c_skip (n_then ?_)
    refine c_cond1 (vb (ev_t rfl rfl) (decide_eq_true h4)) ?_
    refine c_seq (c_seq (c_reg ?_))
    refine s_field (off := 3) (o' := 3) F_f38_2 (ev_t rfl rfl) rfl (w0 rfl) ?_
    refine s_load (v := .int .i8 x.r) F_o27 (ev_t rfl rfl) (cell_of_blk (i := 3) (NewB.blk n3) rfl) (w0 rfl) ?_
    refine s_cmp (r := !decide (x.r = 0)) (ev_t rfl rfl) ev_c rfl (w0 rfl) ?_
    by_cases h5 : x.r = 0
    · refine s_move (v := .bool false) (vb (ev_t rfl rfl) (nb0 h5)) (w0 rfl) ?_
      refine s_field (off := 4) (o' := 4) F_f38_3 (ev_t rfl rfl) rfl (wy rfl rfl rfl rfl) ?_
      refine s_loadL (cs := [.int .i8 x.e1.op, .string x.e1.t.v, .int .i8 x.e1.t.l.k, .int .i64 x.e1.t.l.n, .string x.e1.t.l.s, .slice A1 x.e1.kids.length c1]) (ca := #[.int .i8 x.e1.op, .string x.e1.t.v, .int .i8 x.e1.t.l.k, .int .i64 x.e1.t.l.n, .string x.e1.t.l.s, .slice A1 x.e1.kids.length c1]) F_m36 (ev_t rfl rfl) rfl rfl (blk_cells (NewB.blk n3) 4 (cs := [.int .i8 x.e1.op, .string x.e1.t.v, .int .i8 x.e1.t.l.k, .int .i64 x.e1.t.l.n, .string x.e1.t.l.s, .slice A1 x.e1.kids.length c1]) rfl) (wy rfl rfl rfl rfl) ?_
      refine s_call F_e75 (wy rfl rfl rfl rfl) ev_f (m1 (ev_t rfl rfl)) (args := #[.agg #[.int .i8 x.e1.op, .string x.e1.t.v, .int .i8 x.e1.t.l.k, .int .i64 x.e1.t.l.n, .string x.e1.t.l.s, .slice A1 x.e1.kids.length c1]]) rfl (t_empty x.e1 A1 c1 _ ho1_ (Row.extE hr1 (NewB.ext n3))) ?_
      rintro _ w7 ⟨rfl, x6⟩
      refine s_not (b := noE x.e1) (ev_t rfl rfl) (wy rfl rfl rfl rfl) ?_
      refine s_pick0 (v := .bool (!(noE x.e1))) (ev_t rfl rfl) (ev_t rfl rfl) (w0 rfl) ?_
      rcases Bool.eq_false_or_eq_true (noE x.e1) with h8 | h8
      · refine s_move (v := .bool false) (vb (ev_t rfl rfl) (nbt h8)) (w0 rfl) ?_
        refine s_field (off := 10) (o' := 10) F_f38_4 (ev_t rfl rfl) rfl (wy rfl rfl rfl rfl) ?_
        refine s_loadL (cs := [.int .i8 x.e2.op, .string x.e2.t.v, .int .i8 x.e2.t.l.k, .int .i64 x.e2.t.l.n, .string x.e2.t.l.s, .slice A2 x.e2.kids.length c2]) (ca := #[.int .i8 x.e2.op, .string x.e2.t.v, .int .i8 x.e2.t.l.k, .int .i64 x.e2.t.l.n, .string x.e2.t.l.s, .slice A2 x.e2.kids.length c2]) F_m36 (ev_t rfl rfl) rfl rfl (blk_cells (Ext.blk x6 (NewB.blk n3)) 10 (cs := [.int .i8 x.e2.op, .string x.e2.t.v, .int .i8 x.e2.t.l.k, .int .i64 x.e2.t.l.n, .string x.e2.t.l.s, .slice A2 x.e2.kids.length c2]) rfl) (wy rfl rfl rfl rfl) ?_
        refine s_call F_e75 (wy rfl rfl rfl rfl) ev_f (m1 (ev_t rfl rfl)) (args := #[.agg #[.int .i8 x.e2.op, .string x.e2.t.v, .int .i8 x.e2.t.l.k, .int .i64 x.e2.t.l.n, .string x.e2.t.l.s, .slice A2 x.e2.kids.length c2]]) rfl (t_empty x.e2 A2 c2 _ ho2_ (Row.extE (Row.extE hr2 (NewB.ext n3)) x6)) ?_
        rintro _ w10 ⟨rfl, x9⟩
        refine s_not (b := noE x.e2) (ev_t rfl rfl) (wy rfl rfl rfl rfl) ?_
        refine s_pick0 (v := .bool (!(noE x.e2))) (ev_t rfl rfl) (ev_t rfl rfl) (w0 rfl) ?_
        refine c_done (n_then ?_)
        rcases Bool.eq_false_or_eq_true (noE x.e2) with h11 | h11
        · refine c_cond0 (vb (ev_t rfl rfl) (nbt h11)) ?_
          refine c_skip (n_then (c_seq (c_reg ?_)))
          refine s_field (off := 1) (o' := 1) F_f38_1 (ev_t rfl rfl) rfl (w0 rfl) ?_
          refine s_loadL (cs := [.string x.a.p, .slice Aa x.a.args.length ca]) (ca := #[.string x.a.p, .slice Aa x.a.args.length ca]) F_m24 (ev_t rfl rfl) rfl rfl (blk_cells (Ext.blk x9 (Ext.blk x6 (NewB.blk n3))) 1 (cs := [.string x.a.p, .slice Aa x.a.args.length ca]) rfl) (w0 rfl) ?_
          refine s_call F_e34 (w0 rfl) ev_f (m1 (ev_t rfl rfl)) (args := #[.agg #[.string x.a.p, .slice Aa x.a.args.length ca]]) rfl (t_CheckAtom x.a Aa ca _ hoa_ (Row.extT (Row.extT (Row.extT hra (NewB.ext n3)) x6) x9)) ?_
          rintro _ w13 ⟨rfl, x12⟩
          refine s_assign (v := .int .i64 (code (atB x.a))) (ev_t rfl rfl) (w0 rfl) ?_
          refine c_done (n_then (c_ret (r_block (r_then ?_))))
          refine ret1 (v := .int .i64 (code (atB x.a))) rfl rfl rfl ?_
          refine ⟨_, rfl, ?_, (Ext.trans (Ext.trans (Ext.trans (NewB.ext n3) x6) x9) x12)⟩
          (refine congrArg (Value.int .i64) ?_; unfold ltB; first | (rw [if_pos (by omega)]; ((try simp only [*, decide_true, decide_false, if_true, if_false, Bool.and_true, Bool.true_and, Bool.false_and, Bool.and_false, Bool.not_true, Bool.not_false, Bool.false_eq_true, reduceIte, not_true_eq_false, not_false_eq_true]); first | done | rfl); done) | (rw [if_neg (by omega), if_pos (by omega)]; first | (((try simp only [*, decide_true, decide_false, if_true, if_false, Bool.and_true, Bool.true_and, Bool.false_and, Bool.and_false, Bool.not_true, Bool.not_false, Bool.false_eq_true, reduceIte, not_true_eq_false, not_false_eq_true]); first | done | rfl); done) | (rw [show decide (1 ≤ x.r) = false from decide_eq_false (by omega)]; simp only [Bool.and_false, Bool.false_and]; rfl) | (rw [show decide (x.r ≤ 6) = false from decide_eq_false (by omega)]; simp only [Bool.and_false, Bool.false_and]; rfl) | (rw [show decide ((x.a.args.length : Int) = 0) = false from decide_eq_false (by omega)]; simp only [Bool.and_false, Bool.false_and]; rfl) | (rw [show decide (1 ≤ x.r) = true from decide_eq_true (by omega), show decide (x.r ≤ 6) = true from decide_eq_true (by omega), show decide ((x.a.args.length : Int) = 0) = true from decide_eq_true (by omega)]; ((try simp only [*, decide_true, decide_false, if_true, if_false, Bool.and_true, Bool.true_and, Bool.false_and, Bool.and_false, Bool.not_true, Bool.not_false, Bool.false_eq_true, reduceIte, not_true_eq_false, not_false_eq_true]); first | done | rfl))) | (rw [if_neg (by omega), if_neg (by omega)]; rfl))
        · refine c_cond1 (vb (ev_t rfl rfl) (nbf h11)) ?_
          refine c_seq (c_reg ?_)
          refine s_assign (v := .int .i64 40) ev_c (w0 rfl) ?_
          refine c_done (n_then (c_ret (r_then (r_block (r_then ?_)))))
          refine ret1 (v := .int .i64 40) rfl rfl rfl ?_
          refine ⟨_, rfl, ?_, (Ext.trans (Ext.trans (NewB.ext n3) x6) x9)⟩
          (refine congrArg (Value.int .i64) ?_; unfold ltB; first | (rw [if_pos (by omega)]; ((try simp only [*, decide_true, decide_false, if_true, if_false, Bool.and_true, Bool.true_and, Bool.false_and, Bool.and_false, Bool.not_true, Bool.not_false, Bool.false_eq_true, reduceIte, not_true_eq_false, not_false_eq_true]); first | done | rfl); done) | (rw [if_neg (by omega), if_pos (by omega)]; first | (((try simp only [*, decide_true, decide_false, if_true, if_false, Bool.and_true, Bool.true_and, Bool.false_and, Bool.and_false, Bool.not_true, Bool.not_false, Bool.false_eq_true, reduceIte, not_true_eq_false, not_false_eq_true]); first | done | rfl); done) | (rw [show decide (1 ≤ x.r) = false from decide_eq_false (by omega)]; simp only [Bool.and_false, Bool.false_and]; rfl) | (rw [show decide (x.r ≤ 6) = false from decide_eq_false (by omega)]; simp only [Bool.and_false, Bool.false_and]; rfl) | (rw [show decide ((x.a.args.length : Int) = 0) = false from decide_eq_false (by omega)]; simp only [Bool.and_false, Bool.false_and]; rfl) | (rw [show decide (1 ≤ x.r) = true from decide_eq_true (by omega), show decide (x.r ≤ 6) = true from decide_eq_true (by omega), show decide ((x.a.args.length : Int) = 0) = true from decide_eq_true (by omega)]; ((try simp only [*, decide_true, decide_false, if_true, if_false, Bool.and_true, Bool.true_and, Bool.false_and, Bool.and_false, Bool.not_true, Bool.not_false, Bool.false_eq_true, reduceIte, not_true_eq_false, not_false_eq_true]); first | done | rfl))) | (rw [if_neg (by omega), if_neg (by omega)]; rfl))
      · refine s_move (v := .bool true) (vb (ev_t rfl rfl) (nbf h8)) (w0 rfl) ?_
        refine s_skip (wn rfl rfl rfl rfl rfl) ?_
        refine s_skip (wn rfl rfl rfl rfl rfl) ?_
        refine s_skip (wn rfl rfl rfl rfl rfl) ?_
        refine s_skip (wn rfl rfl rfl rfl rfl) ?_
        refine s_pick1 (v := .bool true) (ev_t rfl rfl) ev_c (w0 rfl) ?_
        refine c_done (n_then ?_)
        refine c_cond1 (ev_t rfl rfl) ?_
        refine c_seq (c_reg ?_)
        refine s_assign (v := .int .i64 40) ev_c (w0 rfl) ?_
        refine c_done (n_then (c_ret (r_then (r_block (r_then ?_)))))
        refine ret1 (v := .int .i64 40) rfl rfl rfl ?_
        refine ⟨_, rfl, ?_, (Ext.trans (NewB.ext n3) x6)⟩
        (refine congrArg (Value.int .i64) ?_; unfold ltB; first | (rw [if_pos (by omega)]; ((try simp only [*, decide_true, decide_false, if_true, if_false, Bool.and_true, Bool.true_and, Bool.false_and, Bool.and_false, Bool.not_true, Bool.not_false, Bool.false_eq_true, reduceIte, not_true_eq_false, not_false_eq_true]); first | done | rfl); done) | (rw [if_neg (by omega), if_pos (by omega)]; first | (((try simp only [*, decide_true, decide_false, if_true, if_false, Bool.and_true, Bool.true_and, Bool.false_and, Bool.and_false, Bool.not_true, Bool.not_false, Bool.false_eq_true, reduceIte, not_true_eq_false, not_false_eq_true]); first | done | rfl); done) | (rw [show decide (1 ≤ x.r) = false from decide_eq_false (by omega)]; simp only [Bool.and_false, Bool.false_and]; rfl) | (rw [show decide (x.r ≤ 6) = false from decide_eq_false (by omega)]; simp only [Bool.and_false, Bool.false_and]; rfl) | (rw [show decide ((x.a.args.length : Int) = 0) = false from decide_eq_false (by omega)]; simp only [Bool.and_false, Bool.false_and]; rfl) | (rw [show decide (1 ≤ x.r) = true from decide_eq_true (by omega), show decide (x.r ≤ 6) = true from decide_eq_true (by omega), show decide ((x.a.args.length : Int) = 0) = true from decide_eq_true (by omega)]; ((try simp only [*, decide_true, decide_false, if_true, if_false, Bool.and_true, Bool.true_and, Bool.false_and, Bool.and_false, Bool.not_true, Bool.not_false, Bool.false_eq_true, reduceIte, not_true_eq_false, not_false_eq_true]); first | done | rfl))) | (rw [if_neg (by omega), if_neg (by omega)]; rfl))
    · refine s_move (v := .bool true) (vb (ev_t rfl rfl) (nb1 h5)) (w0 rfl) ?_
      refine s_skip (wn rfl rfl rfl rfl rfl) ?_
      refine s_skip (wn rfl rfl rfl rfl rfl) ?_
      refine s_skip (wn rfl rfl rfl rfl rfl) ?_
      refine s_skip (wn rfl rfl rfl rfl rfl) ?_
      refine s_pick1 (v := .bool true) (ev_t rfl rfl) ev_c (w0 rfl) ?_
      refine s_move (v := .bool true) (ev_t rfl rfl) (w0 rfl) ?_
      refine s_skip (wn rfl rfl rfl rfl rfl) ?_
      refine s_skip (wn rfl rfl rfl rfl rfl) ?_
      refine s_skip (wn rfl rfl rfl rfl rfl) ?_
      refine s_skip (wn rfl rfl rfl rfl rfl) ?_
      refine s_pick1 (v := .bool true) (ev_t rfl rfl) ev_c (w0 rfl) ?_
      refine c_done (n_then ?_)
      refine c_cond1 (ev_t rfl rfl) ?_
      refine c_seq (c_reg ?_)
      refine s_assign (v := .int .i64 40) ev_c (w0 rfl) ?_
      refine c_done (n_then (c_ret (r_then (r_block (r_then ?_)))))
      refine ret1 (v := .int .i64 40) rfl rfl rfl ?_
      refine ⟨_, rfl, ?_, (NewB.ext n3)⟩
      (refine congrArg (Value.int .i64) ?_; unfold ltB; first | (rw [if_pos (by omega)]; ((try simp only [*, decide_true, decide_false, if_true, if_false, Bool.and_true, Bool.true_and, Bool.false_and, Bool.and_false, Bool.not_true, Bool.not_false, Bool.false_eq_true, reduceIte, not_true_eq_false, not_false_eq_true]); first | done | rfl); done) | (rw [if_neg (by omega), if_pos (by omega)]; first | (((try simp only [*, decide_true, decide_false, if_true, if_false, Bool.and_true, Bool.true_and, Bool.false_and, Bool.and_false, Bool.not_true, Bool.not_false, Bool.false_eq_true, reduceIte, not_true_eq_false, not_false_eq_true]); first | done | rfl); done) | (rw [show decide (1 ≤ x.r) = false from decide_eq_false (by omega)]; simp only [Bool.and_false, Bool.false_and]; rfl) | (rw [show decide (x.r ≤ 6) = false from decide_eq_false (by omega)]; simp only [Bool.and_false, Bool.false_and]; rfl) | (rw [show decide ((x.a.args.length : Int) = 0) = false from decide_eq_false (by omega)]; simp only [Bool.and_false, Bool.false_and]; rfl) | (rw [show decide (1 ≤ x.r) = true from decide_eq_true (by omega), show decide (x.r ≤ 6) = true from decide_eq_true (by omega), show decide ((x.a.args.length : Int) = 0) = true from decide_eq_true (by omega)]; ((try simp only [*, decide_true, decide_false, if_true, if_false, Bool.and_true, Bool.true_and, Bool.false_and, Bool.and_false, Bool.not_true, Bool.not_false, Bool.false_eq_true, reduceIte, not_true_eq_false, not_false_eq_true]); first | done | rfl))) | (rw [if_neg (by omega), if_neg (by omega)]; rfl))
  · refine c_cond0 (vb (ev_t rfl rfl) (decide_eq_false h4)) ?_
    refine c_reg ?_
    refine s_cmp (r := decide (x.k = 2)) (ev_t rfl rfl) ev_c rfl (w0 rfl) ?_
    refine s_assign (v := .bool (decide (x.k = 2))) (ev_t rfl rfl) (w0 rfl) ?_
    refine c_done (n_then ?_)
    by_cases h14 : x.k = 2
    · refine c_cond1 (vb (ev_t rfl rfl) (decide_eq_true h14)) ?_
      refine c_seq (c_seq (c_reg ?_))
      refine s_field (off := 3) (o' := 3) F_f38_2 (ev_t rfl rfl) rfl (w0 rfl) ?_
      refine s_load (v := .int .i8 x.r) F_o27 (ev_t rfl rfl) (cell_of_blk (i := 3) (NewB.blk n3) rfl) (w0 rfl) ?_
      refine s_cmp (r := !decide (x.r = 0)) (ev_t rfl rfl) ev_c rfl (w0 rfl) ?_
      by_cases h15 : x.r = 0
      · refine s_move (v := .bool false) (vb (ev_t rfl rfl) (nb0 h15)) (w0 rfl) ?_
        refine s_field (off := 4) (o' := 4) F_f38_3 (ev_t rfl rfl) rfl (wy rfl rfl rfl rfl) ?_
        refine s_loadL (cs := [.int .i8 x.e1.op, .string x.e1.t.v, .int .i8 x.e1.t.l.k, .int .i64 x.e1.t.l.n, .string x.e1.t.l.s, .slice A1 x.e1.kids.length c1]) (ca := #[.int .i8 x.e1.op, .string x.e1.t.v, .int .i8 x.e1.t.l.k, .int .i64 x.e1.t.l.n, .string x.e1.t.l.s, .slice A1 x.e1.kids.length c1]) F_m36 (ev_t rfl rfl) rfl rfl (blk_cells (NewB.blk n3) 4 (cs := [.int .i8 x.e1.op, .string x.e1.t.v, .int .i8 x.e1.t.l.k, .int .i64 x.e1.t.l.n, .string x.e1.t.l.s, .slice A1 x.e1.kids.length c1]) rfl) (wy rfl rfl rfl rfl) ?_
        refine s_call F_e75 (wy rfl rfl rfl rfl) ev_f (m1 (ev_t rfl rfl)) (args := #[.agg #[.int .i8 x.e1.op, .string x.e1.t.v, .int .i8 x.e1.t.l.k, .int .i64 x.e1.t.l.n, .string x.e1.t.l.s, .slice A1 x.e1.kids.length c1]]) rfl (t_empty x.e1 A1 c1 _ ho1_ (Row.extE hr1 (NewB.ext n3))) ?_
        rintro _ w17 ⟨rfl, x16⟩
        refine s_not (b := noE x.e1) (ev_t rfl rfl) (wy rfl rfl rfl rfl) ?_
        refine s_pick0 (v := .bool (!(noE x.e1))) (ev_t rfl rfl) (ev_t rfl rfl) (w0 rfl) ?_
        rcases Bool.eq_false_or_eq_true (noE x.e1) with h18 | h18
        · refine s_move (v := .bool false) (vb (ev_t rfl rfl) (nbt h18)) (w0 rfl) ?_
          refine s_field (off := 10) (o' := 10) F_f38_4 (ev_t rfl rfl) rfl (wy rfl rfl rfl rfl) ?_
          refine s_loadL (cs := [.int .i8 x.e2.op, .string x.e2.t.v, .int .i8 x.e2.t.l.k, .int .i64 x.e2.t.l.n, .string x.e2.t.l.s, .slice A2 x.e2.kids.length c2]) (ca := #[.int .i8 x.e2.op, .string x.e2.t.v, .int .i8 x.e2.t.l.k, .int .i64 x.e2.t.l.n, .string x.e2.t.l.s, .slice A2 x.e2.kids.length c2]) F_m36 (ev_t rfl rfl) rfl rfl (blk_cells (Ext.blk x16 (NewB.blk n3)) 10 (cs := [.int .i8 x.e2.op, .string x.e2.t.v, .int .i8 x.e2.t.l.k, .int .i64 x.e2.t.l.n, .string x.e2.t.l.s, .slice A2 x.e2.kids.length c2]) rfl) (wy rfl rfl rfl rfl) ?_
          refine s_call F_e75 (wy rfl rfl rfl rfl) ev_f (m1 (ev_t rfl rfl)) (args := #[.agg #[.int .i8 x.e2.op, .string x.e2.t.v, .int .i8 x.e2.t.l.k, .int .i64 x.e2.t.l.n, .string x.e2.t.l.s, .slice A2 x.e2.kids.length c2]]) rfl (t_empty x.e2 A2 c2 _ ho2_ (Row.extE (Row.extE hr2 (NewB.ext n3)) x16)) ?_
          rintro _ w20 ⟨rfl, x19⟩
          refine s_not (b := noE x.e2) (ev_t rfl rfl) (wy rfl rfl rfl rfl) ?_
          refine s_pick0 (v := .bool (!(noE x.e2))) (ev_t rfl rfl) (ev_t rfl rfl) (w0 rfl) ?_
          refine c_done (n_then ?_)
          rcases Bool.eq_false_or_eq_true (noE x.e2) with h21 | h21
          · refine c_cond0 (vb (ev_t rfl rfl) (nbt h21)) ?_
            refine c_skip (n_then (c_seq (c_reg ?_)))
            refine s_field (off := 1) (o' := 1) F_f38_1 (ev_t rfl rfl) rfl (w0 rfl) ?_
            refine s_loadL (cs := [.string x.a.p, .slice Aa x.a.args.length ca]) (ca := #[.string x.a.p, .slice Aa x.a.args.length ca]) F_m24 (ev_t rfl rfl) rfl rfl (blk_cells (Ext.blk x19 (Ext.blk x16 (NewB.blk n3))) 1 (cs := [.string x.a.p, .slice Aa x.a.args.length ca]) rfl) (w0 rfl) ?_
            refine s_call F_e34 (w0 rfl) ev_f (m1 (ev_t rfl rfl)) (args := #[.agg #[.string x.a.p, .slice Aa x.a.args.length ca]]) rfl (t_CheckAtom x.a Aa ca _ hoa_ (Row.extT (Row.extT (Row.extT hra (NewB.ext n3)) x16) x19)) ?_
            rintro _ w23 ⟨rfl, x22⟩
            refine s_assign (v := .int .i64 (code (atB x.a))) (ev_t rfl rfl) (w0 rfl) ?_
            refine c_done (n_then (c_ret (r_block (r_then ?_))))
            refine ret1 (v := .int .i64 (code (atB x.a))) rfl rfl rfl ?_
            refine ⟨_, rfl, ?_, (Ext.trans (Ext.trans (Ext.trans (NewB.ext n3) x16) x19) x22)⟩
            (refine congrArg (Value.int .i64) ?_; unfold ltB; first | (rw [if_pos (by omega)]; ((try simp only [*, decide_true, decide_false, if_true, if_false, Bool.and_true, Bool.true_and, Bool.false_and, Bool.and_false, Bool.not_true, Bool.not_false, Bool.false_eq_true, reduceIte, not_true_eq_false, not_false_eq_true]); first | done | rfl); done) | (rw [if_neg (by omega), if_pos (by omega)]; first | (((try simp only [*, decide_true, decide_false, if_true, if_false, Bool.and_true, Bool.true_and, Bool.false_and, Bool.and_false, Bool.not_true, Bool.not_false, Bool.false_eq_true, reduceIte, not_true_eq_false, not_false_eq_true]); first | done | rfl); done) | (rw [show decide (1 ≤ x.r) = false from decide_eq_false (by omega)]; simp only [Bool.and_false, Bool.false_and]; rfl) | (rw [show decide (x.r ≤ 6) = false from decide_eq_false (by omega)]; simp only [Bool.and_false, Bool.false_and]; rfl) | (rw [show decide ((x.a.args.length : Int) = 0) = false from decide_eq_false (by omega)]; simp only [Bool.and_false, Bool.false_and]; rfl) | (rw [show decide (1 ≤ x.r) = true from decide_eq_true (by omega), show decide (x.r ≤ 6) = true from decide_eq_true (by omega), show decide ((x.a.args.length : Int) = 0) = true from decide_eq_true (by omega)]; ((try simp only [*, decide_true, decide_false, if_true, if_false, Bool.and_true, Bool.true_and, Bool.false_and, Bool.and_false, Bool.not_true, Bool.not_false, Bool.false_eq_true, reduceIte, not_true_eq_false, not_false_eq_true]); first | done | rfl))) | (rw [if_neg (by omega), if_neg (by omega)]; rfl))
          · refine c_cond1 (vb (ev_t rfl rfl) (nbf h21)) ?_
            refine c_seq (c_reg ?_)
            refine s_assign (v := .int .i64 40) ev_c (w0 rfl) ?_
            refine c_done (n_then (c_ret (r_then (r_block (r_then ?_)))))
            refine ret1 (v := .int .i64 40) rfl rfl rfl ?_
            refine ⟨_, rfl, ?_, (Ext.trans (Ext.trans (NewB.ext n3) x16) x19)⟩
            (refine congrArg (Value.int .i64) ?_; unfold ltB; first | (rw [if_pos (by omega)]; ((try simp only [*, decide_true, decide_false, if_true, if_false, Bool.and_true, Bool.true_and, Bool.false_and, Bool.and_false, Bool.not_true, Bool.not_false, Bool.false_eq_true, reduceIte, not_true_eq_false, not_false_eq_true]); first | done | rfl); done) | (rw [if_neg (by omega), if_pos (by omega)]; first | (((try simp only [*, decide_true, decide_false, if_true, if_false, Bool.and_true, Bool.true_and, Bool.false_and, Bool.and_false, Bool.not_true, Bool.not_false, Bool.false_eq_true, reduceIte, not_true_eq_false, not_false_eq_true]); first | done | rfl); done) | (rw [show decide (1 ≤ x.r) = false from decide_eq_false (by omega)]; simp only [Bool.and_false, Bool.false_and]; rfl) | (rw [show decide (x.r ≤ 6) = false from decide_eq_false (by omega)]; simp only [Bool.and_false, Bool.false_and]; rfl) | (rw [show decide ((x.a.args.length : Int) = 0) = false from decide_eq_false (by omega)]; simp only [Bool.and_false, Bool.false_and]; rfl) | (rw [show decide (1 ≤ x.r) = true from decide_eq_true (by omega), show decide (x.r ≤ 6) = true from decide_eq_true (by omega), show decide ((x.a.args.length : Int) = 0) = true from decide_eq_true (by omega)]; ((try simp only [*, decide_true, decide_false, if_true, if_false, Bool.and_true, Bool.true_and, Bool.false_and, Bool.and_false, Bool.not_true, Bool.not_false, Bool.false_eq_true, reduceIte, not_true_eq_false, not_false_eq_true]); first | done | rfl))) | (rw [if_neg (by omega), if_neg (by omega)]; rfl))
        · refine s_move (v := .bool true) (vb (ev_t rfl rfl) (nbf h18)) (w0 rfl) ?_
          refine s_skip (wn rfl rfl rfl rfl rfl) ?_
          refine s_skip (wn rfl rfl rfl rfl rfl) ?_
          refine s_skip (wn rfl rfl rfl rfl rfl) ?_
          refine s_skip (wn rfl rfl rfl rfl rfl) ?_
          refine s_pick1 (v := .bool true) (ev_t rfl rfl) ev_c (w0 rfl) ?_
          refine c_done (n_then ?_)
          refine c_cond1 (ev_t rfl rfl) ?_
          refine c_seq (c_reg ?_)
          refine s_assign (v := .int .i64 40) ev_c (w0 rfl) ?_
          refine c_done (n_then (c_ret (r_then (r_block (r_then ?_)))))
          refine ret1 (v := .int .i64 40) rfl rfl rfl ?_
          refine ⟨_, rfl, ?_, (Ext.trans (NewB.ext n3) x16)⟩
          (refine congrArg (Value.int .i64) ?_; unfold ltB; first | (rw [if_pos (by omega)]; ((try simp only [*, decide_true, decide_false, if_true, if_false, Bool.and_true, Bool.true_and, Bool.false_and, Bool.and_false, Bool.not_true, Bool.not_false, Bool.false_eq_true, reduceIte, not_true_eq_false, not_false_eq_true]); first | done | rfl); done) | (rw [if_neg (by omega), if_pos (by omega)]; first | (((try simp only [*, decide_true, decide_false, if_true, if_false, Bool.and_true, Bool.true_and, Bool.false_and, Bool.and_false, Bool.not_true, Bool.not_false, Bool.false_eq_true, reduceIte, not_true_eq_false, not_false_eq_true]); first | done | rfl); done) | (rw [show decide (1 ≤ x.r) = false from decide_eq_false (by omega)]; simp only [Bool.and_false, Bool.false_and]; rfl) | (rw [show decide (x.r ≤ 6) = false from decide_eq_false (by omega)]; simp only [Bool.and_false, Bool.false_and]; rfl) | (rw [show decide ((x.a.args.length : Int) = 0) = false from decide_eq_false (by omega)]; simp only [Bool.and_false, Bool.false_and]; rfl) | (rw [show decide (1 ≤ x.r) = true from decide_eq_true (by omega), show decide (x.r ≤ 6) = true from decide_eq_true (by omega), show decide ((x.a.args.length : Int) = 0) = true from decide_eq_true (by omega)]; ((try simp only [*, decide_true, decide_false, if_true, if_false, Bool.and_true, Bool.true_and, Bool.false_and, Bool.and_false, Bool.not_true, Bool.not_false, Bool.false_eq_true, reduceIte, not_true_eq_false, not_false_eq_true]); first | done | rfl))) | (rw [if_neg (by omega), if_neg (by omega)]; rfl))
      · refine s_move (v := .bool true) (vb (ev_t rfl rfl) (nb1 h15)) (w0 rfl) ?_
        refine s_skip (wn rfl rfl rfl rfl rfl) ?_
        refine s_skip (wn rfl rfl rfl rfl rfl) ?_
        refine s_skip (wn rfl rfl rfl rfl rfl) ?_
        refine s_skip (wn rfl rfl rfl rfl rfl) ?_
        refine s_pick1 (v := .bool true) (ev_t rfl rfl) ev_c (w0 rfl) ?_
        refine s_move (v := .bool true) (ev_t rfl rfl) (w0 rfl) ?_
        refine s_skip (wn rfl rfl rfl rfl rfl) ?_
        refine s_skip (wn rfl rfl rfl rfl rfl) ?_
        refine s_skip (wn rfl rfl rfl rfl rfl) ?_
        refine s_skip (wn rfl rfl rfl rfl rfl) ?_
        refine s_pick1 (v := .bool true) (ev_t rfl rfl) ev_c (w0 rfl) ?_
        refine c_done (n_then ?_)
        refine c_cond1 (ev_t rfl rfl) ?_
        refine c_seq (c_reg ?_)
        refine s_assign (v := .int .i64 40) ev_c (w0 rfl) ?_
        refine c_done (n_then (c_ret (r_then (r_block (r_then ?_)))))
        refine ret1 (v := .int .i64 40) rfl rfl rfl ?_
        refine ⟨_, rfl, ?_, (NewB.ext n3)⟩
        (refine congrArg (Value.int .i64) ?_; unfold ltB; first | (rw [if_pos (by omega)]; ((try simp only [*, decide_true, decide_false, if_true, if_false, Bool.and_true, Bool.true_and, Bool.false_and, Bool.and_false, Bool.not_true, Bool.not_false, Bool.false_eq_true, reduceIte, not_true_eq_false, not_false_eq_true]); first | done | rfl); done) | (rw [if_neg (by omega), if_pos (by omega)]; first | (((try simp only [*, decide_true, decide_false, if_true, if_false, Bool.and_true, Bool.true_and, Bool.false_and, Bool.and_false, Bool.not_true, Bool.not_false, Bool.false_eq_true, reduceIte, not_true_eq_false, not_false_eq_true]); first | done | rfl); done) | (rw [show decide (1 ≤ x.r) = false from decide_eq_false (by omega)]; simp only [Bool.and_false, Bool.false_and]; rfl) | (rw [show decide (x.r ≤ 6) = false from decide_eq_false (by omega)]; simp only [Bool.and_false, Bool.false_and]; rfl) | (rw [show decide ((x.a.args.length : Int) = 0) = false from decide_eq_false (by omega)]; simp only [Bool.and_false, Bool.false_and]; rfl) | (rw [show decide (1 ≤ x.r) = true from decide_eq_true (by omega), show decide (x.r ≤ 6) = true from decide_eq_true (by omega), show decide ((x.a.args.length : Int) = 0) = true from decide_eq_true (by omega)]; ((try simp only [*, decide_true, decide_false, if_true, if_false, Bool.and_true, Bool.true_and, Bool.false_and, Bool.and_false, Bool.not_true, Bool.not_false, Bool.false_eq_true, reduceIte, not_true_eq_false, not_false_eq_true]); first | done | rfl))) | (rw [if_neg (by omega), if_neg (by omega)]; rfl))
    · refine c_cond0 (vb (ev_t rfl rfl) (decide_eq_false h14)) ?_
      refine c_seq (c_reg ?_)
      refine s_cmp (r := decide (x.k = 3)) (ev_t rfl rfl) ev_c rfl (w0 rfl) ?_
      refine s_assign (v := .bool (decide (x.k = 3))) (ev_t rfl rfl) (w0 rfl) ?_
      refine c_done (n_then ?_)
      by_cases h24 : x.k = 3
      · refine c_cond1 (vb (ev_t rfl rfl) (decide_eq_true h24)) ?_
        refine c_seq (c_seq (c_reg ?_))
        refine s_field (off := 1) (o' := 1) F_f38_1 (ev_t rfl rfl) rfl (w0 rfl) ?_
        refine s_field (off := 0) (o' := 1) F_f24_0 (ev_t rfl rfl) rfl (w0 rfl) ?_
        refine s_load (v := .string x.a.p) F_o9 (ev_t rfl rfl) (cell_of_blk (i := 1) (NewB.blk n3) rfl) (w0 rfl) ?_
        refine s_cmpS (r := !decide (x.a.p = (⟨#[]⟩ : ByteArray))) (ev_t rfl rfl) ev_c rfl (w0 rfl) ?_
        by_cases h25 : x.a.p = (⟨#[]⟩ : ByteArray)
        · refine s_move (v := .bool false) (vb (ev_t rfl rfl) (nb0 h25)) (w0 rfl) ?_
          refine s_field (off := 1) (o' := 1) F_f38_1 (ev_t rfl rfl) rfl (wy rfl rfl rfl rfl) ?_
          refine s_field (off := 1) (o' := 2) F_f24_1 (ev_t rfl rfl) rfl (wy rfl rfl rfl rfl) ?_
          refine s_load (v := .slice Aa x.a.args.length ca) F_o22 (ev_t rfl rfl) (cell_of_blk (i := 2) (NewB.blk n3) rfl) (wy rfl rfl rfl rfl) ?_
          refine s_lenL F_l22 (ev_t rfl rfl) (wy rfl rfl rfl rfl) ?_
          refine s_cmp (r := decide (0 < (x.a.args.length : Int))) (ev_t rfl rfl) ev_c rfl (wy rfl rfl rfl rfl) ?_
          refine s_pick0 (v := .bool (decide (0 < (x.a.args.length : Int)))) (ev_t rfl rfl) (ev_t rfl rfl) (w0 rfl) ?_
          by_cases h26 : 0 < (x.a.args.length : Int)
          · refine s_move (v := .bool true) (vb (ev_t rfl rfl) (decide_eq_true h26)) (w0 rfl) ?_
            refine s_skip (wn rfl rfl rfl rfl rfl) ?_
            refine s_skip (wn rfl rfl rfl rfl rfl) ?_
            refine s_skip (wn rfl rfl rfl rfl rfl) ?_
            refine s_pick1 (v := .bool true) (ev_t rfl rfl) ev_c (w0 rfl) ?_
            refine s_move (v := .bool true) (ev_t rfl rfl) (w0 rfl) ?_
            refine s_skip (wn rfl rfl rfl rfl rfl) ?_
            refine s_skip (wn rfl rfl rfl rfl rfl) ?_
            refine s_skip (wn rfl rfl rfl rfl rfl) ?_
            refine s_pick1 (v := .bool true) (ev_t rfl rfl) ev_c (w0 rfl) ?_
            refine s_move (v := .bool true) (ev_t rfl rfl) (w0 rfl) ?_
            refine s_skip (wn rfl rfl rfl rfl rfl) ?_
            refine s_skip (wn rfl rfl rfl rfl rfl) ?_
            refine s_skip (wn rfl rfl rfl rfl rfl) ?_
            refine s_skip (wn rfl rfl rfl rfl rfl) ?_
            refine s_pick1 (v := .bool true) (ev_t rfl rfl) ev_c (w0 rfl) ?_
            refine c_done (n_then ?_)
            refine c_cond1 (ev_t rfl rfl) ?_
            refine c_seq (c_reg ?_)
            refine s_assign (v := .int .i64 40) ev_c (w0 rfl) ?_
            refine c_done (n_then (c_ret (r_then (r_block (r_then ?_)))))
            refine ret1 (v := .int .i64 40) rfl rfl rfl ?_
            refine ⟨_, rfl, ?_, (NewB.ext n3)⟩
            (refine congrArg (Value.int .i64) ?_; unfold ltB; first | (rw [if_pos (by omega)]; ((try simp only [*, decide_true, decide_false, if_true, if_false, Bool.and_true, Bool.true_and, Bool.false_and, Bool.and_false, Bool.not_true, Bool.not_false, Bool.false_eq_true, reduceIte, not_true_eq_false, not_false_eq_true]); first | done | rfl); done) | (rw [if_neg (by omega), if_pos (by omega)]; first | (((try simp only [*, decide_true, decide_false, if_true, if_false, Bool.and_true, Bool.true_and, Bool.false_and, Bool.and_false, Bool.not_true, Bool.not_false, Bool.false_eq_true, reduceIte, not_true_eq_false, not_false_eq_true]); first | done | rfl); done) | (rw [show decide (1 ≤ x.r) = false from decide_eq_false (by omega)]; simp only [Bool.and_false, Bool.false_and]; rfl) | (rw [show decide (x.r ≤ 6) = false from decide_eq_false (by omega)]; simp only [Bool.and_false, Bool.false_and]; rfl) | (rw [show decide ((x.a.args.length : Int) = 0) = false from decide_eq_false (by omega)]; simp only [Bool.and_false, Bool.false_and]; rfl) | (rw [show decide (1 ≤ x.r) = true from decide_eq_true (by omega), show decide (x.r ≤ 6) = true from decide_eq_true (by omega), show decide ((x.a.args.length : Int) = 0) = true from decide_eq_true (by omega)]; ((try simp only [*, decide_true, decide_false, if_true, if_false, Bool.and_true, Bool.true_and, Bool.false_and, Bool.and_false, Bool.not_true, Bool.not_false, Bool.false_eq_true, reduceIte, not_true_eq_false, not_false_eq_true]); first | done | rfl))) | (rw [if_neg (by omega), if_neg (by omega)]; rfl))
          · refine s_move (v := .bool false) (vb (ev_t rfl rfl) (decide_eq_false h26)) (w0 rfl) ?_
            refine s_field (off := 3) (o' := 3) F_f38_2 (ev_t rfl rfl) rfl (wy rfl rfl rfl rfl) ?_
            refine s_load (v := .int .i8 x.r) F_o27 (ev_t rfl rfl) (cell_of_blk (i := 3) (NewB.blk n3) rfl) (wy rfl rfl rfl rfl) ?_
            refine s_cmp (r := decide (x.r < 1)) (ev_t rfl rfl) ev_c rfl (wy rfl rfl rfl rfl) ?_
            refine s_pick0 (v := .bool (decide (x.r < 1))) (ev_t rfl rfl) (ev_t rfl rfl) (w0 rfl) ?_
            by_cases h27 : x.r < 1
            · refine s_move (v := .bool true) (vb (ev_t rfl rfl) (decide_eq_true h27)) (w0 rfl) ?_
              refine s_skip (wn rfl rfl rfl rfl rfl) ?_
              refine s_skip (wn rfl rfl rfl rfl rfl) ?_
              refine s_skip (wn rfl rfl rfl rfl rfl) ?_
              refine s_pick1 (v := .bool true) (ev_t rfl rfl) ev_c (w0 rfl) ?_
              refine s_move (v := .bool true) (ev_t rfl rfl) (w0 rfl) ?_
              refine s_skip (wn rfl rfl rfl rfl rfl) ?_
              refine s_skip (wn rfl rfl rfl rfl rfl) ?_
              refine s_skip (wn rfl rfl rfl rfl rfl) ?_
              refine s_skip (wn rfl rfl rfl rfl rfl) ?_
              refine s_pick1 (v := .bool true) (ev_t rfl rfl) ev_c (w0 rfl) ?_
              refine c_done (n_then ?_)
              refine c_cond1 (ev_t rfl rfl) ?_
              refine c_seq (c_reg ?_)
              refine s_assign (v := .int .i64 40) ev_c (w0 rfl) ?_
              refine c_done (n_then (c_ret (r_then (r_block (r_then ?_)))))
              refine ret1 (v := .int .i64 40) rfl rfl rfl ?_
              refine ⟨_, rfl, ?_, (NewB.ext n3)⟩
              (refine congrArg (Value.int .i64) ?_; unfold ltB; first | (rw [if_pos (by omega)]; ((try simp only [*, decide_true, decide_false, if_true, if_false, Bool.and_true, Bool.true_and, Bool.false_and, Bool.and_false, Bool.not_true, Bool.not_false, Bool.false_eq_true, reduceIte, not_true_eq_false, not_false_eq_true]); first | done | rfl); done) | (rw [if_neg (by omega), if_pos (by omega)]; first | (((try simp only [*, decide_true, decide_false, if_true, if_false, Bool.and_true, Bool.true_and, Bool.false_and, Bool.and_false, Bool.not_true, Bool.not_false, Bool.false_eq_true, reduceIte, not_true_eq_false, not_false_eq_true]); first | done | rfl); done) | (rw [show decide (1 ≤ x.r) = false from decide_eq_false (by omega)]; simp only [Bool.and_false, Bool.false_and]; rfl) | (rw [show decide (x.r ≤ 6) = false from decide_eq_false (by omega)]; simp only [Bool.and_false, Bool.false_and]; rfl) | (rw [show decide ((x.a.args.length : Int) = 0) = false from decide_eq_false (by omega)]; simp only [Bool.and_false, Bool.false_and]; rfl) | (rw [show decide (1 ≤ x.r) = true from decide_eq_true (by omega), show decide (x.r ≤ 6) = true from decide_eq_true (by omega), show decide ((x.a.args.length : Int) = 0) = true from decide_eq_true (by omega)]; ((try simp only [*, decide_true, decide_false, if_true, if_false, Bool.and_true, Bool.true_and, Bool.false_and, Bool.and_false, Bool.not_true, Bool.not_false, Bool.false_eq_true, reduceIte, not_true_eq_false, not_false_eq_true]); first | done | rfl))) | (rw [if_neg (by omega), if_neg (by omega)]; rfl))
            · refine s_move (v := .bool false) (vb (ev_t rfl rfl) (decide_eq_false h27)) (w0 rfl) ?_
              refine s_field (off := 3) (o' := 3) F_f38_2 (ev_t rfl rfl) rfl (wy rfl rfl rfl rfl) ?_
              refine s_load (v := .int .i8 x.r) F_o27 (ev_t rfl rfl) (cell_of_blk (i := 3) (NewB.blk n3) rfl) (wy rfl rfl rfl rfl) ?_
              refine s_cmp (r := decide (6 < x.r)) (ev_t rfl rfl) ev_c rfl (wy rfl rfl rfl rfl) ?_
              refine s_pick0 (v := .bool (decide (6 < x.r))) (ev_t rfl rfl) (ev_t rfl rfl) (w0 rfl) ?_
              by_cases h28 : 6 < x.r
              · refine s_move (v := .bool true) (vb (ev_t rfl rfl) (decide_eq_true h28)) (w0 rfl) ?_
                refine s_skip (wn rfl rfl rfl rfl rfl) ?_
                refine s_skip (wn rfl rfl rfl rfl rfl) ?_
                refine s_skip (wn rfl rfl rfl rfl rfl) ?_
                refine s_skip (wn rfl rfl rfl rfl rfl) ?_
                refine s_pick1 (v := .bool true) (ev_t rfl rfl) ev_c (w0 rfl) ?_
                refine c_done (n_then ?_)
                refine c_cond1 (ev_t rfl rfl) ?_
                refine c_seq (c_reg ?_)
                refine s_assign (v := .int .i64 40) ev_c (w0 rfl) ?_
                refine c_done (n_then (c_ret (r_then (r_block (r_then ?_)))))
                refine ret1 (v := .int .i64 40) rfl rfl rfl ?_
                refine ⟨_, rfl, ?_, (NewB.ext n3)⟩
                (refine congrArg (Value.int .i64) ?_; unfold ltB; first | (rw [if_pos (by omega)]; ((try simp only [*, decide_true, decide_false, if_true, if_false, Bool.and_true, Bool.true_and, Bool.false_and, Bool.and_false, Bool.not_true, Bool.not_false, Bool.false_eq_true, reduceIte, not_true_eq_false, not_false_eq_true]); first | done | rfl); done) | (rw [if_neg (by omega), if_pos (by omega)]; first | (((try simp only [*, decide_true, decide_false, if_true, if_false, Bool.and_true, Bool.true_and, Bool.false_and, Bool.and_false, Bool.not_true, Bool.not_false, Bool.false_eq_true, reduceIte, not_true_eq_false, not_false_eq_true]); first | done | rfl); done) | (rw [show decide (1 ≤ x.r) = false from decide_eq_false (by omega)]; simp only [Bool.and_false, Bool.false_and]; rfl) | (rw [show decide (x.r ≤ 6) = false from decide_eq_false (by omega)]; simp only [Bool.and_false, Bool.false_and]; rfl) | (rw [show decide ((x.a.args.length : Int) = 0) = false from decide_eq_false (by omega)]; simp only [Bool.and_false, Bool.false_and]; rfl) | (rw [show decide (1 ≤ x.r) = true from decide_eq_true (by omega), show decide (x.r ≤ 6) = true from decide_eq_true (by omega), show decide ((x.a.args.length : Int) = 0) = true from decide_eq_true (by omega)]; ((try simp only [*, decide_true, decide_false, if_true, if_false, Bool.and_true, Bool.true_and, Bool.false_and, Bool.and_false, Bool.not_true, Bool.not_false, Bool.false_eq_true, reduceIte, not_true_eq_false, not_false_eq_true]); first | done | rfl))) | (rw [if_neg (by omega), if_neg (by omega)]; rfl))
              · refine s_move (v := .bool false) (vb (ev_t rfl rfl) (decide_eq_false h28)) (w0 rfl) ?_
                refine s_field (off := 4) (o' := 4) F_f38_3 (ev_t rfl rfl) rfl (wy rfl rfl rfl rfl) ?_
                refine s_loadL (cs := [.int .i8 x.e1.op, .string x.e1.t.v, .int .i8 x.e1.t.l.k, .int .i64 x.e1.t.l.n, .string x.e1.t.l.s, .slice A1 x.e1.kids.length c1]) (ca := #[.int .i8 x.e1.op, .string x.e1.t.v, .int .i8 x.e1.t.l.k, .int .i64 x.e1.t.l.n, .string x.e1.t.l.s, .slice A1 x.e1.kids.length c1]) F_m36 (ev_t rfl rfl) rfl rfl (blk_cells (NewB.blk n3) 4 (cs := [.int .i8 x.e1.op, .string x.e1.t.v, .int .i8 x.e1.t.l.k, .int .i64 x.e1.t.l.n, .string x.e1.t.l.s, .slice A1 x.e1.kids.length c1]) rfl) (wy rfl rfl rfl rfl) ?_
                refine s_call F_e76 (wy rfl rfl rfl rfl) ev_f (m1 (ev_t rfl rfl)) (args := #[.agg #[.int .i8 x.e1.op, .string x.e1.t.v, .int .i8 x.e1.t.l.k, .int .i64 x.e1.t.l.n, .string x.e1.t.l.s, .slice A1 x.e1.kids.length c1]]) rfl (t_CheckExpr x.e1 A1 c1 _ ho1_ (Row.extE hr1 (NewB.ext n3))) ?_
                rintro _ w30 ⟨rfl, x29⟩
                refine s_cmp (r := !(exB 8 x.e1)) (ev_t rfl rfl) ev_c (ci_tn (b := (exB 8 x.e1)) (by decide)) (wy rfl rfl rfl rfl) ?_
                refine s_pick0 (v := .bool (!(exB 8 x.e1))) (ev_t rfl rfl) (ev_t rfl rfl) (w0 rfl) ?_
                refine c_done (n_then ?_)
                rcases Bool.eq_false_or_eq_true (exB 8 x.e1) with h31 | h31
                · refine c_cond0 (vb (ev_t rfl rfl) (nbt h31)) ?_
                  refine c_skip (n_then (c_seq (c_reg ?_)))
                  refine s_field (off := 10) (o' := 10) F_f38_4 (ev_t rfl rfl) rfl (w0 rfl) ?_
                  refine s_loadL (cs := [.int .i8 x.e2.op, .string x.e2.t.v, .int .i8 x.e2.t.l.k, .int .i64 x.e2.t.l.n, .string x.e2.t.l.s, .slice A2 x.e2.kids.length c2]) (ca := #[.int .i8 x.e2.op, .string x.e2.t.v, .int .i8 x.e2.t.l.k, .int .i64 x.e2.t.l.n, .string x.e2.t.l.s, .slice A2 x.e2.kids.length c2]) F_m36 (ev_t rfl rfl) rfl rfl (blk_cells (Ext.blk x29 (NewB.blk n3)) 10 (cs := [.int .i8 x.e2.op, .string x.e2.t.v, .int .i8 x.e2.t.l.k, .int .i64 x.e2.t.l.n, .string x.e2.t.l.s, .slice A2 x.e2.kids.length c2]) rfl) (w0 rfl) ?_
                  refine s_call F_e76 (w0 rfl) ev_f (m1 (ev_t rfl rfl)) (args := #[.agg #[.int .i8 x.e2.op, .string x.e2.t.v, .int .i8 x.e2.t.l.k, .int .i64 x.e2.t.l.n, .string x.e2.t.l.s, .slice A2 x.e2.kids.length c2]]) rfl (t_CheckExpr x.e2 A2 c2 _ ho2_ (Row.extE (Row.extE hr2 (NewB.ext n3)) x29)) ?_
                  rintro _ w33 ⟨rfl, x32⟩
                  refine s_assign (v := .int .i64 (code (exB 8 x.e2))) (ev_t rfl rfl) (w0 rfl) ?_
                  refine c_done (n_then (c_ret (r_block (r_then ?_))))
                  refine ret1 (v := .int .i64 (code (exB 8 x.e2))) rfl rfl rfl ?_
                  refine ⟨_, rfl, ?_, (Ext.trans (Ext.trans (NewB.ext n3) x29) x32)⟩
                  (refine congrArg (Value.int .i64) ?_; unfold ltB; first | (rw [if_pos (by omega)]; ((try simp only [*, decide_true, decide_false, if_true, if_false, Bool.and_true, Bool.true_and, Bool.false_and, Bool.and_false, Bool.not_true, Bool.not_false, Bool.false_eq_true, reduceIte, not_true_eq_false, not_false_eq_true]); first | done | rfl); done) | (rw [if_neg (by omega), if_pos (by omega)]; first | (((try simp only [*, decide_true, decide_false, if_true, if_false, Bool.and_true, Bool.true_and, Bool.false_and, Bool.and_false, Bool.not_true, Bool.not_false, Bool.false_eq_true, reduceIte, not_true_eq_false, not_false_eq_true]); first | done | rfl); done) | (rw [show decide (1 ≤ x.r) = false from decide_eq_false (by omega)]; simp only [Bool.and_false, Bool.false_and]; rfl) | (rw [show decide (x.r ≤ 6) = false from decide_eq_false (by omega)]; simp only [Bool.and_false, Bool.false_and]; rfl) | (rw [show decide ((x.a.args.length : Int) = 0) = false from decide_eq_false (by omega)]; simp only [Bool.and_false, Bool.false_and]; rfl) | (rw [show decide (1 ≤ x.r) = true from decide_eq_true (by omega), show decide (x.r ≤ 6) = true from decide_eq_true (by omega), show decide ((x.a.args.length : Int) = 0) = true from decide_eq_true (by omega)]; ((try simp only [*, decide_true, decide_false, if_true, if_false, Bool.and_true, Bool.true_and, Bool.false_and, Bool.and_false, Bool.not_true, Bool.not_false, Bool.false_eq_true, reduceIte, not_true_eq_false, not_false_eq_true]); first | done | rfl))) | (rw [if_neg (by omega), if_neg (by omega)]; rfl))
                · refine c_cond1 (vb (ev_t rfl rfl) (nbf h31)) ?_
                  refine c_seq (c_reg ?_)
                  refine s_assign (v := .int .i64 40) ev_c (w0 rfl) ?_
                  refine c_done (n_then (c_ret (r_then (r_block (r_then ?_)))))
                  refine ret1 (v := .int .i64 40) rfl rfl rfl ?_
                  refine ⟨_, rfl, ?_, (Ext.trans (NewB.ext n3) x29)⟩
                  (refine congrArg (Value.int .i64) ?_; unfold ltB; first | (rw [if_pos (by omega)]; ((try simp only [*, decide_true, decide_false, if_true, if_false, Bool.and_true, Bool.true_and, Bool.false_and, Bool.and_false, Bool.not_true, Bool.not_false, Bool.false_eq_true, reduceIte, not_true_eq_false, not_false_eq_true]); first | done | rfl); done) | (rw [if_neg (by omega), if_pos (by omega)]; first | (((try simp only [*, decide_true, decide_false, if_true, if_false, Bool.and_true, Bool.true_and, Bool.false_and, Bool.and_false, Bool.not_true, Bool.not_false, Bool.false_eq_true, reduceIte, not_true_eq_false, not_false_eq_true]); first | done | rfl); done) | (rw [show decide (1 ≤ x.r) = false from decide_eq_false (by omega)]; simp only [Bool.and_false, Bool.false_and]; rfl) | (rw [show decide (x.r ≤ 6) = false from decide_eq_false (by omega)]; simp only [Bool.and_false, Bool.false_and]; rfl) | (rw [show decide ((x.a.args.length : Int) = 0) = false from decide_eq_false (by omega)]; simp only [Bool.and_false, Bool.false_and]; rfl) | (rw [show decide (1 ≤ x.r) = true from decide_eq_true (by omega), show decide (x.r ≤ 6) = true from decide_eq_true (by omega), show decide ((x.a.args.length : Int) = 0) = true from decide_eq_true (by omega)]; ((try simp only [*, decide_true, decide_false, if_true, if_false, Bool.and_true, Bool.true_and, Bool.false_and, Bool.and_false, Bool.not_true, Bool.not_false, Bool.false_eq_true, reduceIte, not_true_eq_false, not_false_eq_true]); first | done | rfl))) | (rw [if_neg (by omega), if_neg (by omega)]; rfl))
        · refine s_move (v := .bool true) (vb (ev_t rfl rfl) (nb1 h25)) (w0 rfl) ?_
          refine s_skip (wn rfl rfl rfl rfl rfl) ?_
          refine s_skip (wn rfl rfl rfl rfl rfl) ?_
          refine s_skip (wn rfl rfl rfl rfl rfl) ?_
          refine s_skip (wn rfl rfl rfl rfl rfl) ?_
          refine s_skip (wn rfl rfl rfl rfl rfl) ?_
          refine s_pick1 (v := .bool true) (ev_t rfl rfl) ev_c (w0 rfl) ?_
          refine s_move (v := .bool true) (ev_t rfl rfl) (w0 rfl) ?_
          refine s_skip (wn rfl rfl rfl rfl rfl) ?_
          refine s_skip (wn rfl rfl rfl rfl rfl) ?_
          refine s_skip (wn rfl rfl rfl rfl rfl) ?_
          refine s_pick1 (v := .bool true) (ev_t rfl rfl) ev_c (w0 rfl) ?_
          refine s_move (v := .bool true) (ev_t rfl rfl) (w0 rfl) ?_
          refine s_skip (wn rfl rfl rfl rfl rfl) ?_
          refine s_skip (wn rfl rfl rfl rfl rfl) ?_
          refine s_skip (wn rfl rfl rfl rfl rfl) ?_
          refine s_pick1 (v := .bool true) (ev_t rfl rfl) ev_c (w0 rfl) ?_
          refine s_move (v := .bool true) (ev_t rfl rfl) (w0 rfl) ?_
          refine s_skip (wn rfl rfl rfl rfl rfl) ?_
          refine s_skip (wn rfl rfl rfl rfl rfl) ?_
          refine s_skip (wn rfl rfl rfl rfl rfl) ?_
          refine s_skip (wn rfl rfl rfl rfl rfl) ?_
          refine s_pick1 (v := .bool true) (ev_t rfl rfl) ev_c (w0 rfl) ?_
          refine c_done (n_then ?_)
          refine c_cond1 (ev_t rfl rfl) ?_
          refine c_seq (c_reg ?_)
          refine s_assign (v := .int .i64 40) ev_c (w0 rfl) ?_
          refine c_done (n_then (c_ret (r_then (r_block (r_then ?_)))))
          refine ret1 (v := .int .i64 40) rfl rfl rfl ?_
          refine ⟨_, rfl, ?_, (NewB.ext n3)⟩
          (refine congrArg (Value.int .i64) ?_; unfold ltB; first | (rw [if_pos (by omega)]; ((try simp only [*, decide_true, decide_false, if_true, if_false, Bool.and_true, Bool.true_and, Bool.false_and, Bool.and_false, Bool.not_true, Bool.not_false, Bool.false_eq_true, reduceIte, not_true_eq_false, not_false_eq_true]); first | done | rfl); done) | (rw [if_neg (by omega), if_pos (by omega)]; first | (((try simp only [*, decide_true, decide_false, if_true, if_false, Bool.and_true, Bool.true_and, Bool.false_and, Bool.and_false, Bool.not_true, Bool.not_false, Bool.false_eq_true, reduceIte, not_true_eq_false, not_false_eq_true]); first | done | rfl); done) | (rw [show decide (1 ≤ x.r) = false from decide_eq_false (by omega)]; simp only [Bool.and_false, Bool.false_and]; rfl) | (rw [show decide (x.r ≤ 6) = false from decide_eq_false (by omega)]; simp only [Bool.and_false, Bool.false_and]; rfl) | (rw [show decide ((x.a.args.length : Int) = 0) = false from decide_eq_false (by omega)]; simp only [Bool.and_false, Bool.false_and]; rfl) | (rw [show decide (1 ≤ x.r) = true from decide_eq_true (by omega), show decide (x.r ≤ 6) = true from decide_eq_true (by omega), show decide ((x.a.args.length : Int) = 0) = true from decide_eq_true (by omega)]; ((try simp only [*, decide_true, decide_false, if_true, if_false, Bool.and_true, Bool.true_and, Bool.false_and, Bool.and_false, Bool.not_true, Bool.not_false, Bool.false_eq_true, reduceIte, not_true_eq_false, not_false_eq_true]); first | done | rfl))) | (rw [if_neg (by omega), if_neg (by omega)]; rfl))
      · refine c_cond0 (vb (ev_t rfl rfl) (decide_eq_false h24)) ?_
        refine c_skip (n_block (n_then (c_seq (c_reg ?_))))
        refine s_assign (v := .int .i64 40) ev_c (w0 rfl) ?_
        refine c_done (n_then (c_ret ?_))
        refine ret1 (v := .int .i64 40) rfl rfl rfl ?_
        refine ⟨_, rfl, ?_, (NewB.ext n3)⟩
        (refine congrArg (Value.int .i64) ?_; unfold ltB; first | (rw [if_pos (by omega)]; ((try simp only [*, decide_true, decide_false, if_true, if_false, Bool.and_true, Bool.true_and, Bool.false_and, Bool.and_false, Bool.not_true, Bool.not_false, Bool.false_eq_true, reduceIte, not_true_eq_false, not_false_eq_true]); first | done | rfl); done) | (rw [if_neg (by omega), if_pos (by omega)]; first | (((try simp only [*, decide_true, decide_false, if_true, if_false, Bool.and_true, Bool.true_and, Bool.false_and, Bool.and_false, Bool.not_true, Bool.not_false, Bool.false_eq_true, reduceIte, not_true_eq_false, not_false_eq_true]); first | done | rfl); done) | (rw [show decide (1 ≤ x.r) = false from decide_eq_false (by omega)]; simp only [Bool.and_false, Bool.false_and]; rfl) | (rw [show decide (x.r ≤ 6) = false from decide_eq_false (by omega)]; simp only [Bool.and_false, Bool.false_and]; rfl) | (rw [show decide ((x.a.args.length : Int) = 0) = false from decide_eq_false (by omega)]; simp only [Bool.and_false, Bool.false_and]; rfl) | (rw [show decide (1 ≤ x.r) = true from decide_eq_true (by omega), show decide (x.r ≤ 6) = true from decide_eq_true (by omega), show decide ((x.a.args.length : Int) = 0) = true from decide_eq_true (by omega)]; ((try simp only [*, decide_true, decide_false, if_true, if_false, Bool.and_true, Bool.true_and, Bool.false_and, Bool.and_false, Bool.not_true, Bool.not_false, Bool.false_eq_true, reduceIte, not_true_eq_false, not_false_eq_true]); first | done | rfl))) | (rw [if_neg (by omega), if_neg (by omega)]; rfl))
set_option maxHeartbeats 4000000 in
theorem r6_rel (r : Int) (w : World) :
    Rt Tryz.prog 74 #[.int .i8 r] w fun v w' => v = .string (relW r) ∧ Ext w w' := by
  refine enter Tryz.func74 rfl (l := [.int .i8 r]) rfl Tryz.ntmps74 (Nat.le_of_ble_eq_true rfl) ?_
  refine c_seq (c_reg ?_)
  refine s_assign (v := .string (⟨#[]⟩ : ByteArray)) ev_c (w0 rfl) ?_
  refine c_done (n_then (c_seq (c_seq (c_reg ?_))))
  refine s_move (v := .int .i8 r) (ev_t rfl rfl) (w0 rfl) ?_
  refine c_done (n_then (c_block (c_seq (c_reg ?_))))
  refine s_cmp (r := decide (r = 1)) (ev_t rfl rfl) ev_c rfl (w0 rfl) ?_
  refine s_assign (v := .bool (decide (r = 1))) (ev_t rfl rfl) (w0 rfl) ?_
  refine c_done (n_then ?_)
  by_cases h1 : r = 1
  · refine c_cond1 (vb (ev_t rfl rfl) (decide_eq_true h1)) ?_
    refine c_seq (c_reg ?_)
    refine s_assign (v := .string (⟨#[61]⟩ : ByteArray)) ev_c (w0 rfl) ?_
    refine c_done (n_then (c_ret (r_block (r_then ?_))))
    refine ret1 (v := .string (⟨#[61]⟩ : ByteArray)) rfl rfl rfl ?_
    refine ⟨_, rfl, ?_, (Ext.refl w)⟩
    (first | rfl | (simp [relW, *]; done) | (simp [relW, *]; omega) | (simp [relW, *] <;> omega))
  · refine c_cond0 (vb (ev_t rfl rfl) (decide_eq_false h1)) ?_
    refine c_seq (c_reg ?_)
    refine s_cmp (r := decide (r = 2)) (ev_t rfl rfl) ev_c rfl (w0 rfl) ?_
    refine s_assign (v := .bool (decide (r = 2))) (ev_t rfl rfl) (w0 rfl) ?_
    refine c_done (n_then ?_)
    by_cases h2 : r = 2
    · refine c_cond1 (vb (ev_t rfl rfl) (decide_eq_true h2)) ?_
      refine c_seq (c_reg ?_)
      refine s_assign (v := .string (⟨#[33, 61]⟩ : ByteArray)) ev_c (w0 rfl) ?_
      refine c_done (n_then (c_ret (r_block (r_then ?_))))
      refine ret1 (v := .string (⟨#[33, 61]⟩ : ByteArray)) rfl rfl rfl ?_
      refine ⟨_, rfl, ?_, (Ext.refl w)⟩
      (first | rfl | (simp [relW, *]; done) | (simp [relW, *]; omega) | (simp [relW, *] <;> omega))
    · refine c_cond0 (vb (ev_t rfl rfl) (decide_eq_false h2)) ?_
      refine c_seq (c_reg ?_)
      refine s_cmp (r := decide (r = 3)) (ev_t rfl rfl) ev_c rfl (w0 rfl) ?_
      refine s_assign (v := .bool (decide (r = 3))) (ev_t rfl rfl) (w0 rfl) ?_
      refine c_done (n_then ?_)
      by_cases h3 : r = 3
      · refine c_cond1 (vb (ev_t rfl rfl) (decide_eq_true h3)) ?_
        refine c_seq (c_reg ?_)
        refine s_assign (v := .string (⟨#[60]⟩ : ByteArray)) ev_c (w0 rfl) ?_
        refine c_done (n_then (c_ret (r_block (r_then ?_))))
        refine ret1 (v := .string (⟨#[60]⟩ : ByteArray)) rfl rfl rfl ?_
        refine ⟨_, rfl, ?_, (Ext.refl w)⟩
        (first | rfl | (simp [relW, *]; done) | (simp [relW, *]; omega) | (simp [relW, *] <;> omega))
      · refine c_cond0 (vb (ev_t rfl rfl) (decide_eq_false h3)) ?_
        refine c_seq (c_reg ?_)
        refine s_cmp (r := decide (r = 4)) (ev_t rfl rfl) ev_c rfl (w0 rfl) ?_
        refine s_assign (v := .bool (decide (r = 4))) (ev_t rfl rfl) (w0 rfl) ?_
        refine c_done (n_then ?_)
        by_cases h4 : r = 4
        · refine c_cond1 (vb (ev_t rfl rfl) (decide_eq_true h4)) ?_
          refine c_seq (c_reg ?_)
          refine s_assign (v := .string (⟨#[60, 61]⟩ : ByteArray)) ev_c (w0 rfl) ?_
          refine c_done (n_then (c_ret (r_block (r_then ?_))))
          refine ret1 (v := .string (⟨#[60, 61]⟩ : ByteArray)) rfl rfl rfl ?_
          refine ⟨_, rfl, ?_, (Ext.refl w)⟩
          (first | rfl | (simp [relW, *]; done) | (simp [relW, *]; omega) | (simp [relW, *] <;> omega))
        · refine c_cond0 (vb (ev_t rfl rfl) (decide_eq_false h4)) ?_
          refine c_seq (c_reg ?_)
          refine s_cmp (r := decide (r = 5)) (ev_t rfl rfl) ev_c rfl (w0 rfl) ?_
          refine s_assign (v := .bool (decide (r = 5))) (ev_t rfl rfl) (w0 rfl) ?_
          refine c_done (n_then ?_)
          by_cases h5 : r = 5
          · refine c_cond1 (vb (ev_t rfl rfl) (decide_eq_true h5)) ?_
            refine c_seq (c_reg ?_)
            refine s_assign (v := .string (⟨#[62]⟩ : ByteArray)) ev_c (w0 rfl) ?_
            refine c_done (n_then (c_ret (r_block (r_then ?_))))
            refine ret1 (v := .string (⟨#[62]⟩ : ByteArray)) rfl rfl rfl ?_
            refine ⟨_, rfl, ?_, (Ext.refl w)⟩
            (first | rfl | (simp [relW, *]; done) | (simp [relW, *]; omega) | (simp [relW, *] <;> omega))
          · refine c_cond0 (vb (ev_t rfl rfl) (decide_eq_false h5)) ?_
            refine c_skip (n_block (n_then (c_seq (c_reg ?_))))
            refine s_assign (v := .string (⟨#[62, 61]⟩ : ByteArray)) ev_c (w0 rfl) ?_
            refine c_done (n_then (c_ret ?_))
            refine ret1 (v := .string (⟨#[62, 61]⟩ : ByteArray)) rfl rfl rfl ?_
            refine ⟨_, rfl, ?_, (Ext.refl w)⟩
            (first | rfl | (simp [relW, *]; done) | (simp [relW, *]; omega) | (simp [relW, *] <;> omega))
end Go.Proofs.Zw

set_option linter.unusedVariables false
set_option linter.unusedSimpArgs false
set_option maxRecDepth 10000
namespace Go.Proofs.Zw
open Go Go.Wk Go.Proofs Go.Lib
attribute [local irreducible] Go.wpList Go.wpStill Go.wpQuiet Go.Code.wp Go.Calls
theorem F_e36 : enterable Tryz.prog 36 = true := by kernel_rfl
theorem F_e37 : enterable Tryz.prog 37 = true := by kernel_rfl
theorem F_e74 : enterable Tryz.prog 74 = true := by kernel_rfl
set_option maxHeartbeats 4000000 in
theorem r6_literal (x : Lt) (Aa A1 A2 : Option Addr) (ca c1 c2 : Nat) (w : World) (ho : x.okc ca c1 c2) (hra : Row RT 4 w Aa x.a.args) (hr1 : Row RE 6 w A1 x.e1.kids) (hr2 : Row RE 6 w A2 x.e2.kids) (hlt : ltB x = true) :
    Rt Tryz.prog 37 #[.agg #[.int .i8 x.k, .string x.a.p, .slice Aa x.a.args.length ca, .int .i8 x.r, .int .i8 x.e1.op, .string x.e1.t.v, .int .i8 x.e1.t.l.k, .int .i64 x.e1.t.l.n, .string x.e1.t.l.s, .slice A1 x.e1.kids.length c1, .int .i8 x.e2.op, .string x.e2.t.v, .int .i8 x.e2.t.l.k, .int .i64 x.e2.t.l.n, .string x.e2.t.l.s, .slice A2 x.e2.kids.length c2]] w fun v w' => v = .string (ltW x) ∧ Ext w w' := by
  refine enter Tryz.func37 rfl (l := [.agg #[.int .i8 x.k, .string x.a.p, .slice Aa x.a.args.length ca, .int .i8 x.r, .int .i8 x.e1.op, .string x.e1.t.v, .int .i8 x.e1.t.l.k, .int .i64 x.e1.t.l.n, .string x.e1.t.l.s, .slice A1 x.e1.kids.length c1, .int .i8 x.e2.op, .string x.e2.t.v, .int .i8 x.e2.t.l.k, .int .i64 x.e2.t.l.n, .string x.e2.t.l.s, .slice A2 x.e2.kids.length c2]]) rfl Tryz.ntmps37 (Nat.le_of_ble_eq_true rfl) ?_
  have hoa_ := Lt.okc.a ho
  have ho1_ := Lt.okc.e1 ho
  have ho2_ := Lt.okc.e2 ho
  have hl1_ := Ex.okc.l ho1_
  have hl2_ := Ex.okc.l ho2_
  have hc1_ := Ex.okc.c ho1_
  have hc2_ := Ex.okc.c ho2_
  have hla_ := At.okc.l hoa_
  have hca_ := At.okc.c hoa_
  have hpa_ := At.okc.p hoa_
  have hrz_ := relW_size x.r
  refine c_seq (c_reg ?_)
  refine s_box (v := .agg #[.int .i8 x.k, .string x.a.p, .slice Aa x.a.args.length ca, .int .i8 x.r, .int .i8 x.e1.op, .string x.e1.t.v, .int .i8 x.e1.t.l.k, .int .i64 x.e1.t.l.n, .string x.e1.t.l.s, .slice A1 x.e1.kids.length c1, .int .i8 x.e2.op, .string x.e2.t.v, .int .i8 x.e2.t.l.k, .int .i64 x.e2.t.l.n, .string x.e2.t.l.s, .slice A2 x.e2.kids.length c2]) (cs := #[.int .i8 x.k, .string x.a.p, .slice Aa x.a.args.length ca, .int .i8 x.r, .int .i8 x.e1.op, .string x.e1.t.v, .int .i8 x.e1.t.l.k, .int .i64 x.e1.t.l.n, .string x.e1.t.l.s, .slice A1 x.e1.kids.length c1, .int .i8 x.e2.op, .string x.e2.t.v, .int .i8 x.e2.t.l.k, .int .i64 x.e2.t.l.n, .string x.e2.t.l.s, .slice A2 x.e2.kids.length c2]) (w0 rfl) (ev_t rfl rfl) rfl ?_
  intro w2 g1 n3
  refine s_assign (v := .string (⟨#[]⟩ : ByteArray)) ev_c (w0 rfl) ?_
  refine c_done (n_then (c_seq (c_seq (c_reg ?_))))
  refine s_field (off := 0) (o' := 0) F_f38_0 (ev_t rfl rfl) rfl (w0 rfl) ?_
  refine s_load (v := .int .i8 x.k) F_o26 (ev_t rfl rfl) (cell_of_blk (i := 0) (NewB.blk n3) rfl) (w0 rfl) ?_
  refine c_done (n_then (c_block (c_seq (c_reg ?_))))
  refine s_cmp (r := decide (x.k = 1)) (ev_t rfl rfl) ev_c rfl (w0 rfl) ?_
  refine s_assign (v := .bool (decide (x.k = 1))) (ev_t rfl rfl) (w0 rfl) ?_
  refine c_done (n_then ?_)
  by_cases h4 : x.k = 1
  · refine c_cond1 (vb (ev_t rfl rfl) (decide_eq_true h4)) ?_
    refine c_seq (c_reg ?_)
    refine s_field (off := 1) (o' := 1) F_f38_1 (ev_t rfl rfl) rfl (w0 rfl) ?_
    refine s_loadL (cs := [.string x.a.p, .slice Aa x.a.args.length ca]) (ca := #[.string x.a.p, .slice Aa x.a.args.length ca]) F_m24 (ev_t rfl rfl) rfl rfl (blk_cells (NewB.blk n3) 1 (cs := [.string x.a.p, .slice Aa x.a.args.length ca]) rfl) (w0 rfl) ?_
    have hz5 := atW_size (lt_at hlt (by omega)) hra
    refine s_call F_e32 (w0 rfl) ev_f (m1 (ev_t rfl rfl)) (args := #[.agg #[.string x.a.p, .slice Aa x.a.args.length ca]]) rfl (r6_atom x.a Aa ca _ hoa_ (Row.extT hra (NewB.ext n3)) (lt_at hlt (by omega))) ?_
    rintro _ w7 ⟨rfl, x6⟩
    refine s_assign (v := .string (atW x.a)) (ev_t rfl rfl) (w0 rfl) ?_
    refine c_done (n_then (c_ret (r_block (r_then ?_))))
    refine ret1 (v := .string (atW x.a)) rfl rfl rfl ?_
    refine ⟨_, rfl, ?_, (Ext.trans (NewB.ext n3) x6)⟩
    (refine congrArg Value.string ?_; unfold ltW; first | (rw [if_pos (by omega)]; done) | (rw [if_neg (by omega), if_pos (by omega)]; done) | (rw [if_neg (by omega), if_neg (by omega)]; done))
  · refine c_cond0 (vb (ev_t rfl rfl) (decide_eq_false h4)) ?_
    refine c_seq (c_reg ?_)
    refine s_cmp (r := decide (x.k = 2)) (ev_t rfl rfl) ev_c rfl (w0 rfl) ?_
    refine s_assign (v := .bool (decide (x.k = 2))) (ev_t rfl rfl) (w0 rfl) ?_
    refine c_done (n_then ?_)
    by_cases h8 : x.k = 2
    · refine c_cond1 (vb (ev_t rfl rfl) (decide_eq_true h8)) ?_
      refine c_seq (c_reg ?_)
      refine s_field (off := 1) (o' := 1) F_f38_1 (ev_t rfl rfl) rfl (w0 rfl) ?_
      refine s_loadL (cs := [.string x.a.p, .slice Aa x.a.args.length ca]) (ca := #[.string x.a.p, .slice Aa x.a.args.length ca]) F_m24 (ev_t rfl rfl) rfl rfl (blk_cells (NewB.blk n3) 1 (cs := [.string x.a.p, .slice Aa x.a.args.length ca]) rfl) (w0 rfl) ?_
      have hz9 := atW_size (lt_at hlt (by omega)) hra
      refine s_call F_e32 (w0 rfl) ev_f (m1 (ev_t rfl rfl)) (args := #[.agg #[.string x.a.p, .slice Aa x.a.args.length ca]]) rfl (r6_atom x.a Aa ca _ hoa_ (Row.extT hra (NewB.ext n3)) (lt_at hlt (by omega))) ?_
      rintro _ w11 ⟨rfl, x10⟩
      refine s_cat ev_c (ev_t rfl rfl) (by (try simp only [ByteArray.size_append, z0, z1, z2, z3, z4, z5, z6]); omega) (w0 rfl) ?_
      refine s_assign (v := .string ((⟨#[110, 111, 116, 32]⟩ : ByteArray) ++ (atW x.a))) (ev_t rfl rfl) (w0 rfl) ?_
      refine c_done (n_then (c_ret (r_block (r_then ?_))))
      refine ret1 (v := .string ((⟨#[110, 111, 116, 32]⟩ : ByteArray) ++ (atW x.a))) rfl rfl rfl ?_
      refine ⟨_, rfl, ?_, (Ext.trans (NewB.ext n3) x10)⟩
      (refine congrArg Value.string ?_; unfold ltW; first | (rw [if_pos (by omega)]; done) | (rw [if_neg (by omega), if_pos (by omega)]; done) | (rw [if_neg (by omega), if_neg (by omega)]; done))
    · refine c_cond0 (vb (ev_t rfl rfl) (decide_eq_false h8)) ?_
      refine c_skip (n_block (n_then (c_seq ?_)))
      refine c_quiet mixed (by kernel_rfl) ?_
      refine q_val (v := .pointer (some ⟨g1, 4, none⟩)) (w0 rfl) (fun w_ c_ => r_field (off := 4) (o' := 4) F_f38_3 (ev_t rfl rfl) rfl) ?_
      refine q_val (v := .agg #[.int .i8 x.e1.op, .string x.e1.t.v, .int .i8 x.e1.t.l.k, .int .i64 x.e1.t.l.n, .string x.e1.t.l.s, .slice A1 x.e1.kids.length c1]) (w0 rfl) (fun w_ c_ => r_loadL (cs := [.int .i8 x.e1.op, .string x.e1.t.v, .int .i8 x.e1.t.l.k, .int .i64 x.e1.t.l.n, .string x.e1.t.l.s, .slice A1 x.e1.kids.length c1]) (ca := #[.int .i8 x.e1.op, .string x.e1.t.v, .int .i8 x.e1.t.l.k, .int .i64 x.e1.t.l.n, .string x.e1.t.l.s, .slice A1 x.e1.kids.length c1]) F_m36 (ev_t rfl rfl) rfl rfl (blk_cells (Ext.blk c_ (NewB.blk n3)) 4 (cs := [.int .i8 x.e1.op, .string x.e1.t.v, .int .i8 x.e1.t.l.k, .int .i64 x.e1.t.l.n, .string x.e1.t.l.s, .slice A1 x.e1.kids.length c1]) rfl)) ?_
      have hz12 := exW_le (d := 8) (by decide) (lt_e1 hlt (by omega) (by omega)) (Go.Wk.Row.ok hr1 (Ex.okc.t ho1_))
      refine q_call (v := .string (exW 8 x.e1)) F_e73 (w0 rfl) ev_f (m1 (ev_t rfl rfl)) (args := #[.agg #[.int .i8 x.e1.op, .string x.e1.t.v, .int .i8 x.e1.t.l.k, .int .i64 x.e1.t.l.n, .string x.e1.t.l.s, .slice A1 x.e1.kids.length c1]]) rfl (fun w_ c_ => Rt.mono (r6_expr 8 x.e1 A1 c1 _ (by decide) (lt_e1 hlt (by omega) (by omega)) ho1_ (Row.extE (Row.extE hr1 (NewB.ext n3)) c_)) (fun v_ w2_ h_ => ⟨h_.1, Ext.trans c_ h_.2⟩)) ?_
      refine q_val (v := .string (exW 8 x.e1 ++ (⟨#[32]⟩ : ByteArray))) (w0 rfl) (fun w_ c_ => r_cat (ev_t rfl rfl) ev_c (by (try simp only [ByteArray.size_append, z0, z1, z2, z3, z4, z5, z6]); omega)) ?_
      refine q_val (v := .pointer (some ⟨g1, 3, none⟩)) (w0 rfl) (fun w_ c_ => r_field (off := 3) (o' := 3) F_f38_2 (ev_t rfl rfl) rfl) ?_
      refine q_val (v := .int .i8 x.r) (w0 rfl) (fun w_ c_ => r_load (v := .int .i8 x.r) F_o27 (ev_t rfl rfl) (cell_of_blk (i := 3) (Ext.blk c_ (NewB.blk n3)) rfl)) ?_
      refine q_call (v := .string (relW x.r)) F_e74 (w0 rfl) ev_f (m1 (ev_t rfl rfl)) (args := #[.int .i8 x.r]) rfl (fun w_ c_ => Rt.mono (r6_rel x.r _) (fun v_ w2_ h_ => ⟨h_.1, Ext.trans c_ h_.2⟩)) ?_
      refine q_val (v := .string (exW 8 x.e1 ++ (⟨#[32]⟩ : ByteArray) ++ (relW x.r))) (w0 rfl) (fun w_ c_ => r_cat (ev_t rfl rfl) (ev_t rfl rfl) (by (try simp only [ByteArray.size_append, z0, z1, z2, z3, z4, z5, z6]); omega)) ?_
      refine q_val (v := .string (exW 8 x.e1 ++ (⟨#[32]⟩ : ByteArray) ++ (relW x.r) ++ (⟨#[32]⟩ : ByteArray))) (w0 rfl) (fun w_ c_ => r_cat (ev_t rfl rfl) ev_c (by (try simp only [ByteArray.size_append, z0, z1, z2, z3, z4, z5, z6]); omega)) ?_
      refine q_val (v := .pointer (some ⟨g1, 10, none⟩)) (w0 rfl) (fun w_ c_ => r_field (off := 10) (o' := 10) F_f38_4 (ev_t rfl rfl) rfl) ?_
      refine q_val (v := .agg #[.int .i8 x.e2.op, .string x.e2.t.v, .int .i8 x.e2.t.l.k, .int .i64 x.e2.t.l.n, .string x.e2.t.l.s, .slice A2 x.e2.kids.length c2]) (w0 rfl) (fun w_ c_ => r_loadL (cs := [.int .i8 x.e2.op, .string x.e2.t.v, .int .i8 x.e2.t.l.k, .int .i64 x.e2.t.l.n, .string x.e2.t.l.s, .slice A2 x.e2.kids.length c2]) (ca := #[.int .i8 x.e2.op, .string x.e2.t.v, .int .i8 x.e2.t.l.k, .int .i64 x.e2.t.l.n, .string x.e2.t.l.s, .slice A2 x.e2.kids.length c2]) F_m36 (ev_t rfl rfl) rfl rfl (blk_cells (Ext.blk c_ (NewB.blk n3)) 10 (cs := [.int .i8 x.e2.op, .string x.e2.t.v, .int .i8 x.e2.t.l.k, .int .i64 x.e2.t.l.n, .string x.e2.t.l.s, .slice A2 x.e2.kids.length c2]) rfl)) ?_
      have hz13 := exW_le (d := 8) (by decide) (lt_e2 hlt (by omega) (by omega)) (Go.Wk.Row.ok hr2 (Ex.okc.t ho2_))
      refine q_call (v := .string (exW 8 x.e2)) F_e73 (w0 rfl) ev_f (m1 (ev_t rfl rfl)) (args := #[.agg #[.int .i8 x.e2.op, .string x.e2.t.v, .int .i8 x.e2.t.l.k, .int .i64 x.e2.t.l.n, .string x.e2.t.l.s, .slice A2 x.e2.kids.length c2]]) rfl (fun w_ c_ => Rt.mono (r6_expr 8 x.e2 A2 c2 _ (by decide) (lt_e2 hlt (by omega) (by omega)) ho2_ (Row.extE (Row.extE hr2 (NewB.ext n3)) c_)) (fun v_ w2_ h_ => ⟨h_.1, Ext.trans c_ h_.2⟩)) ?_
      refine q_val (v := .string (exW 8 x.e1 ++ (⟨#[32]⟩ : ByteArray) ++ (relW x.r) ++ (⟨#[32]⟩ : ByteArray) ++ (exW 8 x.e2))) (w0 rfl) (fun w_ c_ => r_cat (ev_t rfl rfl) (ev_t rfl rfl) (by (try simp only [ByteArray.size_append, z0, z1, z2, z3, z4, z5, z6]); omega)) ?_
      refine q_val (v := .string (exW 8 x.e1 ++ (⟨#[32]⟩ : ByteArray) ++ (relW x.r) ++ (⟨#[32]⟩ : ByteArray) ++ (exW 8 x.e2))) (w0 rfl) (fun w_ c_ => r_assign (v := .string (exW 8 x.e1 ++ (⟨#[32]⟩ : ByteArray) ++ (relW x.r) ++ (⟨#[32]⟩ : ByteArray) ++ (exW 8 x.e2))) (ev_t rfl rfl)) ?_
      refine q_done ?_
      intro w14 x15
      refine n_then (c_ret ?_)
      refine ret1 (v := .string (exW 8 x.e1 ++ (⟨#[32]⟩ : ByteArray) ++ (relW x.r) ++ (⟨#[32]⟩ : ByteArray) ++ (exW 8 x.e2))) rfl rfl rfl ?_
      refine ⟨_, rfl, ?_, (Ext.trans (NewB.ext n3) x15)⟩
      (refine congrArg Value.string ?_; unfold ltW; first | (rw [if_pos (by omega)]; done) | (rw [if_neg (by omega), if_pos (by omega)]; done) | (rw [if_neg (by omega), if_neg (by omega)]; done))
set_option maxHeartbeats 4000000 in
theorem r6_Literal (x : Lt) (Aa A1 A2 : Option Addr) (ca c1 c2 : Nat) (w : World) (ho : x.okc ca c1 c2) (hra : Row RT 4 w Aa x.a.args) (hr1 : Row RE 6 w A1 x.e1.kids) (hr2 : Row RE 6 w A2 x.e2.kids) :
    Rt Tryz.prog 13 #[.agg #[.int .i8 x.k, .string x.a.p, .slice Aa x.a.args.length ca, .int .i8 x.r, .int .i8 x.e1.op, .string x.e1.t.v, .int .i8 x.e1.t.l.k, .int .i64 x.e1.t.l.n, .string x.e1.t.l.s, .slice A1 x.e1.kids.length c1, .int .i8 x.e2.op, .string x.e2.t.v, .int .i8 x.e2.t.l.k, .int .i64 x.e2.t.l.n, .string x.e2.t.l.s, .slice A2 x.e2.kids.length c2]] w fun v w' => v = .tuple #[.string (if ltB x then ltW x else ⟨#[]⟩), .int .i64 (code (ltB x))] ∧ Ext w w' := by
  refine enter Tryz.func13 rfl (l := [.agg #[.int .i8 x.k, .string x.a.p, .slice Aa x.a.args.length ca, .int .i8 x.r, .int .i8 x.e1.op, .string x.e1.t.v, .int .i8 x.e1.t.l.k, .int .i64 x.e1.t.l.n, .string x.e1.t.l.s, .slice A1 x.e1.kids.length c1, .int .i8 x.e2.op, .string x.e2.t.v, .int .i8 x.e2.t.l.k, .int .i64 x.e2.t.l.n, .string x.e2.t.l.s, .slice A2 x.e2.kids.length c2]]) rfl Tryz.ntmps13 (Nat.le_of_ble_eq_true rfl) ?_
  have hoa_ := Lt.okc.a ho
  have ho1_ := Lt.okc.e1 ho
  have ho2_ := Lt.okc.e2 ho
  have hl1_ := Ex.okc.l ho1_
  have hl2_ := Ex.okc.l ho2_
  have hc1_ := Ex.okc.c ho1_
  have hc2_ := Ex.okc.c ho2_
  have hla_ := At.okc.l hoa_
  have hca_ := At.okc.c hoa_
  have hpa_ := At.okc.p hoa_
  refine c_seq (c_reg ?_)
  refine s_box (v := .agg #[.int .i8 x.k, .string x.a.p, .slice Aa x.a.args.length ca, .int .i8 x.r, .int .i8 x.e1.op, .string x.e1.t.v, .int .i8 x.e1.t.l.k, .int .i64 x.e1.t.l.n, .string x.e1.t.l.s, .slice A1 x.e1.kids.length c1, .int .i8 x.e2.op, .string x.e2.t.v, .int .i8 x.e2.t.l.k, .int .i64 x.e2.t.l.n, .string x.e2.t.l.s, .slice A2 x.e2.kids.length c2]) (cs := #[.int .i8 x.k, .string x.a.p, .slice Aa x.a.args.length ca, .int .i8 x.r, .int .i8 x.e1.op, .string x.e1.t.v, .int .i8 x.e1.t.l.k, .int .i64 x.e1.t.l.n, .string x.e1.t.l.s, .slice A1 x.e1.kids.length c1, .int .i8 x.e2.op, .string x.e2.t.v, .int .i8 x.e2.t.l.k, .int .i64 x.e2.t.l.n, .string x.e2.t.l.s, .slice A2 x.e2.kids.length c2]) (w0 rfl) (ev_t rfl rfl) rfl ?_
  intro w2 g1 n3
  refine s_assign (v := .string (⟨#[]⟩ : ByteArray)) ev_c (w0 rfl) ?_
  refine s_assign (v := .int .i64 0) ev_c (w0 rfl) ?_
  refine c_done (n_then (c_seq (c_seq (c_reg ?_))))
  refine s_loadL (cs := [.int .i8 x.k, .string x.a.p, .slice Aa x.a.args.length ca, .int .i8 x.r, .int .i8 x.e1.op, .string x.e1.t.v, .int .i8 x.e1.t.l.k, .int .i64 x.e1.t.l.n, .string x.e1.t.l.s, .slice A1 x.e1.kids.length c1, .int .i8 x.e2.op, .string x.e2.t.v, .int .i8 x.e2.t.l.k, .int .i64 x.e2.t.l.n, .string x.e2.t.l.s, .slice A2 x.e2.kids.length c2]) (ca := #[.int .i8 x.k, .string x.a.p, .slice Aa x.a.args.length ca, .int .i8 x.r, .int .i8 x.e1.op, .string x.e1.t.v, .int .i8 x.e1.t.l.k, .int .i64 x.e1.t.l.n, .string x.e1.t.l.s, .slice A1 x.e1.kids.length c1, .int .i8 x.e2.op, .string x.e2.t.v, .int .i8 x.e2.t.l.k, .int .i64 x.e2.t.l.n, .string x.e2.t.l.s, .slice A2 x.e2.kids.length c2]) F_m38 (ev_t rfl rfl) rfl rfl (blk_cells (NewB.blk n3) 0 (cs := [.int .i8 x.k, .string x.a.p, .slice Aa x.a.args.length ca, .int .i8 x.r, .int .i8 x.e1.op, .string x.e1.t.v, .int .i8 x.e1.t.l.k, .int .i64 x.e1.t.l.n, .string x.e1.t.l.s, .slice A1 x.e1.kids.length c1, .int .i8 x.e2.op, .string x.e2.t.v, .int .i8 x.e2.t.l.k, .int .i64 x.e2.t.l.n, .string x.e2.t.l.s, .slice A2 x.e2.kids.length c2]) rfl) (w0 rfl) ?_
  refine s_call F_e36 (w0 rfl) ev_f (m1 (ev_t rfl rfl)) (args := #[.agg #[.int .i8 x.k, .string x.a.p, .slice Aa x.a.args.length ca, .int .i8 x.r, .int .i8 x.e1.op, .string x.e1.t.v, .int .i8 x.e1.t.l.k, .int .i64 x.e1.t.l.n, .string x.e1.t.l.s, .slice A1 x.e1.kids.length c1, .int .i8 x.e2.op, .string x.e2.t.v, .int .i8 x.e2.t.l.k, .int .i64 x.e2.t.l.n, .string x.e2.t.l.s, .slice A2 x.e2.kids.length c2]]) rfl (r4_CheckLiteral x Aa A1 A2 ca c1 c2 _ ho (Row.extT hra (NewB.ext n3)) (Row.extE hr1 (NewB.ext n3)) (Row.extE hr2 (NewB.ext n3))) ?_
  rintro _ w5 ⟨rfl, x4⟩
  refine s_cmp (r := !(ltB x)) (ev_t rfl rfl) ev_c (ci_tn (b := (ltB x)) (by decide)) (w0 rfl) ?_
  refine c_done (n_then ?_)
  rcases Bool.eq_false_or_eq_true (ltB x) with h6 | h6
  · refine c_cond0 (vb (ev_t rfl rfl) (nbt h6)) ?_
    refine c_skip (n_then (c_seq (c_reg ?_)))
    refine s_loadL (cs := [.int .i8 x.k, .string x.a.p, .slice Aa x.a.args.length ca, .int .i8 x.r, .int .i8 x.e1.op, .string x.e1.t.v, .int .i8 x.e1.t.l.k, .int .i64 x.e1.t.l.n, .string x.e1.t.l.s, .slice A1 x.e1.kids.length c1, .int .i8 x.e2.op, .string x.e2.t.v, .int .i8 x.e2.t.l.k, .int .i64 x.e2.t.l.n, .string x.e2.t.l.s, .slice A2 x.e2.kids.length c2]) (ca := #[.int .i8 x.k, .string x.a.p, .slice Aa x.a.args.length ca, .int .i8 x.r, .int .i8 x.e1.op, .string x.e1.t.v, .int .i8 x.e1.t.l.k, .int .i64 x.e1.t.l.n, .string x.e1.t.l.s, .slice A1 x.e1.kids.length c1, .int .i8 x.e2.op, .string x.e2.t.v, .int .i8 x.e2.t.l.k, .int .i64 x.e2.t.l.n, .string x.e2.t.l.s, .slice A2 x.e2.kids.length c2]) F_m38 (ev_t rfl rfl) rfl rfl (blk_cells (Ext.blk x4 (NewB.blk n3)) 0 (cs := [.int .i8 x.k, .string x.a.p, .slice Aa x.a.args.length ca, .int .i8 x.r, .int .i8 x.e1.op, .string x.e1.t.v, .int .i8 x.e1.t.l.k, .int .i64 x.e1.t.l.n, .string x.e1.t.l.s, .slice A1 x.e1.kids.length c1, .int .i8 x.e2.op, .string x.e2.t.v, .int .i8 x.e2.t.l.k, .int .i64 x.e2.t.l.n, .string x.e2.t.l.s, .slice A2 x.e2.kids.length c2]) rfl) (w0 rfl) ?_
    refine s_call F_e37 (w0 rfl) ev_f (m1 (ev_t rfl rfl)) (args := #[.agg #[.int .i8 x.k, .string x.a.p, .slice Aa x.a.args.length ca, .int .i8 x.r, .int .i8 x.e1.op, .string x.e1.t.v, .int .i8 x.e1.t.l.k, .int .i64 x.e1.t.l.n, .string x.e1.t.l.s, .slice A1 x.e1.kids.length c1, .int .i8 x.e2.op, .string x.e2.t.v, .int .i8 x.e2.t.l.k, .int .i64 x.e2.t.l.n, .string x.e2.t.l.s, .slice A2 x.e2.kids.length c2]]) rfl (r6_literal x Aa A1 A2 ca c1 c2 _ ho (Row.extT (Row.extT hra (NewB.ext n3)) x4) (Row.extE (Row.extE hr1 (NewB.ext n3)) x4) (Row.extE (Row.extE hr2 (NewB.ext n3)) x4) (by assumption)) ?_
    rintro _ w8 ⟨rfl, x7⟩
    refine s_assign (v := .string (ltW x)) (ev_t rfl rfl) (w0 rfl) ?_
    refine s_assign (v := .int .i64 0) ev_c (w0 rfl) ?_
    refine c_done (n_then (c_ret ?_))
    refine ret2 (v := .string (ltW x)) (v2 := .int .i64 0) rfl rfl rfl rfl rfl ?_
    refine ⟨_, rfl, ?_, (Ext.trans (Ext.trans (NewB.ext n3) x4) x7)⟩
    (simp [code, *])
  · refine c_cond1 (vb (ev_t rfl rfl) (nbf h6)) ?_
    refine c_seq (c_reg ?_)
    refine s_assign (v := .string (⟨#[]⟩ : ByteArray)) ev_c (w0 rfl) ?_
    refine s_assign (v := .int .i64 40) ev_c (w0 rfl) ?_
    refine c_done (n_then (c_ret (r_then ?_)))
    refine ret2 (v := .string (⟨#[]⟩ : ByteArray)) (v2 := .int .i64 40) rfl rfl rfl rfl rfl ?_
    refine ⟨_, rfl, ?_, (Ext.trans (NewB.ext n3) x4)⟩
    (simp [code, *])
end Go.Proofs.Zw

set_option linter.unusedVariables false
set_option linter.unusedSimpArgs false
namespace Go.Wk
open Go Go.RowKit Go.Lib
/-- The table of comparisons. -/
def RelT (P : Program) (w : World) : Prop := w.var? P "pedigree/print.rels" = some #[.string ⟨#[]⟩, .string ⟨#[61]⟩, .string ⟨#[33, 61]⟩, .string ⟨#[60]⟩, .string ⟨#[60, 61]⟩, .string ⟨#[62]⟩, .string ⟨#[62, 61]⟩]
theorem RelT.ext {P : Program} {w w' : World} (h : RelT P w) (k : Ext w w') : RelT P w' := var_ext h k
theorem RelT.at_ {P : Program} {w : World} {g : Nat} {op : Int} (h : RelT P w) (hg : P.globalNamed "pedigree/print.rels" = some g) (ho : 1 ≤ op ∧ op ≤ 6) : w.cell? ⟨g, 0 + op.toNat * 1, none⟩ = some (.string (relW op)) := by
  refine var_cell h hg ?_
  have : op = 1 ∨ op = 2 ∨ op = 3 ∨ op = 4 ∨ op = 5 ∨ op = 6 := by omega
  rcases this with rfl | rfl | rfl | rfl | rfl | rfl <;> rfl
theorem ltW_ne {x : Lt} (h : ltB x = true) : (ltW x).size ≠ 0 := by
  unfold ltW
  split
  · exact atW_ne (lt_at h (by omega))
  · split
    · simp only [ByteArray.size_append, z4]; omega
    · simp only [ByteArray.size_append, z1]; omega
end Go.Wk

set_option linter.unusedVariables false
set_option linter.unusedSimpArgs false
set_option maxRecDepth 10000
namespace Go.Proofs.Zw
open Go Go.Wk Go.Proofs Go.Lib
attribute [local irreducible] Go.wpList Go.wpStill Go.wpQuiet Go.Code.wp Go.Calls
theorem F_ar154 : arrayT Tryz.prog 154 7 1 = true := by kernel_rfl
theorem F_gn0 : Tryz.prog.globalNamed "pedigree/print.rels" = some 0 := by kernel_rfl
set_option maxHeartbeats 4000000 in
theorem p_pos (x : Lt) (Aa A1 A2 : Option Addr) (ca c1 c2 : Nat) (g : Nat) (s0 : ByteArray) (wz : World) (w : World) (x0 : Ext wz w) (tb : Tabs Tryz.prog wz) (hb : BW 5 97 wz.heap.size w g s0) (ho : x.okc ca c1 c2) (hra : Row RT 4 wz Aa x.a.args) (hr1 : Row RE 6 wz A1 x.e1.kids) (hr2 : Row RE 6 wz A2 x.e2.kids) (hlt : ltB x = true) (tr : RelT Tryz.prog wz) (hs : s0.size + 1000000 ≤ 1000000000000) (hk : x.k = 1) :
    Rt Tryz.prog 77 #[.pointer (some ⟨g, 0, none⟩), .agg #[.int .i8 x.k, .string x.a.p, .slice Aa x.a.args.length ca, .int .i8 x.r, .int .i8 x.e1.op, .string x.e1.t.v, .int .i8 x.e1.t.l.k, .int .i64 x.e1.t.l.n, .string x.e1.t.l.s, .slice A1 x.e1.kids.length c1, .int .i8 x.e2.op, .string x.e2.t.v, .int .i8 x.e2.t.l.k, .int .i64 x.e2.t.l.n, .string x.e2.t.l.s, .slice A2 x.e2.kids.length c2]] w fun v w' => v = .tuple #[] ∧ Wr 5 97 wz.heap.size g (s0 ++ ltW x) w w' := by
  refine enter Tryz.func77 rfl (l := [.pointer (some ⟨g, 0, none⟩), .agg #[.int .i8 x.k, .string x.a.p, .slice Aa x.a.args.length ca, .int .i8 x.r, .int .i8 x.e1.op, .string x.e1.t.v, .int .i8 x.e1.t.l.k, .int .i64 x.e1.t.l.n, .string x.e1.t.l.s, .slice A1 x.e1.kids.length c1, .int .i8 x.e2.op, .string x.e2.t.v, .int .i8 x.e2.t.l.k, .int .i64 x.e2.t.l.n, .string x.e2.t.l.s, .slice A2 x.e2.kids.length c2]]) rfl Tryz.ntmps77 (Nat.le_of_ble_eq_true rfl) ?_
  have hB_ := Keep.size x0
  have hoa_ := Lt.okc.a ho
  have ho1_ := Lt.okc.e1 ho
  have ho2_ := Lt.okc.e2 ho
  have hl1_ := Ex.okc.l ho1_
  have hl2_ := Ex.okc.l ho2_
  have hc1_ := Ex.okc.c ho1_
  have hc2_ := Ex.okc.c ho2_
  have hla_ := At.okc.l hoa_
  have hca_ := At.okc.c hoa_
  have hpa_ := At.okc.p hoa_
  have hrz_ := relW_size x.r
  refine c_seq (c_reg ?_)
  refine s_box (v := .agg #[.int .i8 x.k, .string x.a.p, .slice Aa x.a.args.length ca, .int .i8 x.r, .int .i8 x.e1.op, .string x.e1.t.v, .int .i8 x.e1.t.l.k, .int .i64 x.e1.t.l.n, .string x.e1.t.l.s, .slice A1 x.e1.kids.length c1, .int .i8 x.e2.op, .string x.e2.t.v, .int .i8 x.e2.t.l.k, .int .i64 x.e2.t.l.n, .string x.e2.t.l.s, .slice A2 x.e2.kids.length c2]) (cs := #[.int .i8 x.k, .string x.a.p, .slice Aa x.a.args.length ca, .int .i8 x.r, .int .i8 x.e1.op, .string x.e1.t.v, .int .i8 x.e1.t.l.k, .int .i64 x.e1.t.l.n, .string x.e1.t.l.s, .slice A1 x.e1.kids.length c1, .int .i8 x.e2.op, .string x.e2.t.v, .int .i8 x.e2.t.l.k, .int .i64 x.e2.t.l.n, .string x.e2.t.l.s, .slice A2 x.e2.kids.length c2]) (w0 rfl) (ev_t rfl rfl) rfl ?_
  intro w2 g1 n3
  have ne_g1 : g1 ≠ g := by have a_ := NewB.eq n3; have b_ := BW.lt hb; omega
  refine c_done (n_then (c_reg ?_))
  refine s_move (v := .pointer (some ⟨g, 0, none⟩)) (ev_t rfl rfl) (w0 rfl) ?_
  refine s_field (off := 1) (o' := 1) F_f38_1 (ev_t rfl rfl) rfl (w0 rfl) ?_
  refine s_loadL (cs := [.string x.a.p, .slice Aa x.a.args.length ca]) (ca := #[.string x.a.p, .slice Aa x.a.args.length ca]) F_m24 (ev_t rfl rfl) rfl rfl (blk_cells (NewB.blk n3) 1 (cs := [.string x.a.p, .slice Aa x.a.args.length ca]) rfl) (w0 rfl) ?_
  refine s_call F_e35 (w0 rfl) ev_f (m2 (ev_t rfl rfl) (ev_t rfl rfl)) (args := #[.pointer (some ⟨g, 0, none⟩), .agg #[.string x.a.p, .slice Aa x.a.args.length ca]]) rfl (p_atom x.a Aa ca g (s0) wz _ (Ext.trans x0 (NewB.ext n3)) tb (BW.ext hb (NewB.ext n3)) hoa_ hra (lt_at hlt (by omega)) (by (try simp only [catL, ByteArray.size_append, z0, z4]); omega)) ?_
  rintro _ w4 ⟨rfl, wr5⟩
  refine c_done ?_
  refine ret0 rfl ?_
  exact ⟨_, rfl, rfl, Wr.cast (Wr.then_ (Wr.of_ext hb (NewB.ext n3) hB_) wr5) (by unfold ltW; first | (rw [if_pos (by omega)]; done) | (rw [if_neg (by omega), if_pos (by omega)]; simp only [catL, app_nil, app_assoc]; done) | (rw [if_neg (by omega), if_neg (by omega)]; simp only [catL, app_nil, app_assoc]; done))⟩
set_option maxHeartbeats 4000000 in
theorem p_not (x : Lt) (Aa A1 A2 : Option Addr) (ca c1 c2 : Nat) (g : Nat) (s0 : ByteArray) (wz : World) (w : World) (x0 : Ext wz w) (tb : Tabs Tryz.prog wz) (hb : BW 5 97 wz.heap.size w g s0) (ho : x.okc ca c1 c2) (hra : Row RT 4 wz Aa x.a.args) (hr1 : Row RE 6 wz A1 x.e1.kids) (hr2 : Row RE 6 wz A2 x.e2.kids) (hlt : ltB x = true) (tr : RelT Tryz.prog wz) (hs : s0.size + 1000000 ≤ 1000000000000) (hk : x.k = 2) :
    Rt Tryz.prog 78 #[.pointer (some ⟨g, 0, none⟩), .agg #[.int .i8 x.k, .string x.a.p, .slice Aa x.a.args.length ca, .int .i8 x.r, .int .i8 x.e1.op, .string x.e1.t.v, .int .i8 x.e1.t.l.k, .int .i64 x.e1.t.l.n, .string x.e1.t.l.s, .slice A1 x.e1.kids.length c1, .int .i8 x.e2.op, .string x.e2.t.v, .int .i8 x.e2.t.l.k, .int .i64 x.e2.t.l.n, .string x.e2.t.l.s, .slice A2 x.e2.kids.length c2]] w fun v w' => v = .tuple #[] ∧ Wr 5 97 wz.heap.size g (s0 ++ ltW x) w w' := by
  refine enter Tryz.func78 rfl (l := [.pointer (some ⟨g, 0, none⟩), .agg #[.int .i8 x.k, .string x.a.p, .slice Aa x.a.args.length ca, .int .i8 x.r, .int .i8 x.e1.op, .string x.e1.t.v, .int .i8 x.e1.t.l.k, .int .i64 x.e1.t.l.n, .string x.e1.t.l.s, .slice A1 x.e1.kids.length c1, .int .i8 x.e2.op, .string x.e2.t.v, .int .i8 x.e2.t.l.k, .int .i64 x.e2.t.l.n, .string x.e2.t.l.s, .slice A2 x.e2.kids.length c2]]) rfl Tryz.ntmps78 (Nat.le_of_ble_eq_true rfl) ?_
  have hB_ := Keep.size x0
  have hoa_ := Lt.okc.a ho
  have ho1_ := Lt.okc.e1 ho
  have ho2_ := Lt.okc.e2 ho
  have hl1_ := Ex.okc.l ho1_
  have hl2_ := Ex.okc.l ho2_
  have hc1_ := Ex.okc.c ho1_
  have hc2_ := Ex.okc.c ho2_
  have hla_ := At.okc.l hoa_
  have hca_ := At.okc.c hoa_
  have hpa_ := At.okc.p hoa_
  have hrz_ := relW_size x.r
  refine c_seq (c_reg ?_)
  refine s_box (v := .agg #[.int .i8 x.k, .string x.a.p, .slice Aa x.a.args.length ca, .int .i8 x.r, .int .i8 x.e1.op, .string x.e1.t.v, .int .i8 x.e1.t.l.k, .int .i64 x.e1.t.l.n, .string x.e1.t.l.s, .slice A1 x.e1.kids.length c1, .int .i8 x.e2.op, .string x.e2.t.v, .int .i8 x.e2.t.l.k, .int .i64 x.e2.t.l.n, .string x.e2.t.l.s, .slice A2 x.e2.kids.length c2]) (cs := #[.int .i8 x.k, .string x.a.p, .slice Aa x.a.args.length ca, .int .i8 x.r, .int .i8 x.e1.op, .string x.e1.t.v, .int .i8 x.e1.t.l.k, .int .i64 x.e1.t.l.n, .string x.e1.t.l.s, .slice A1 x.e1.kids.length c1, .int .i8 x.e2.op, .string x.e2.t.v, .int .i8 x.e2.t.l.k, .int .i64 x.e2.t.l.n, .string x.e2.t.l.s, .slice A2 x.e2.kids.length c2]) (w0 rfl) (ev_t rfl rfl) rfl ?_
  intro w2 g1 n3
  have ne_g1 : g1 ≠ g := by have a_ := NewB.eq n3; have b_ := BW.lt hb; omega
  refine c_done (n_then (c_seq (c_reg ?_)))
  refine s_move (v := .pointer (some ⟨g, 0, none⟩)) (ev_t rfl rfl) (w0 rfl) ?_
  refine s_bslice (vs := [(0, .string (⟨#[110, 111, 116, 32]⟩ : ByteArray))]) (cs := #[.string (⟨#[110, 111, 116, 32]⟩ : ByteArray)]) (b1 ev_c) (bs106_1_0s (⟨#[110, 111, 116, 32]⟩ : ByteArray)) (w0 rfl) ?_
  intro w5 g4 n6
  have ne_g4 : g4 ≠ g := by have a_ := NewB.eq n6; have b_ := BW.lt (BW.ext hb (NewB.ext n3)); omega
  refine s_call F_e54 (w0 rfl) ev_f (m2 (ev_t rfl rfl) (ev_t rfl rfl)) (args := #[.pointer (some ⟨g, 0, none⟩), .slice (some ⟨g4, 0, none⟩) 1 1]) rfl (p_put 97 _ g g4 (s0) [(⟨#[110, 111, 116, 32]⟩ : ByteArray)] _ (BW.ext (BW.ext hb (NewB.ext n3)) (NewB.ext n6)) (Nat.le_trans (Nat.le_trans hB_ (Keep.size (NewB.ext n3))) (Keep.size (NewB.ext n6))) (by decide) F_lies97 (NewB.blk n6) (by simp only [catL, ByteArray.size_append, z0, z1, z2, z3, z4, z5, z6]; omega) (by simp)) ?_
  rintro _ w7 ⟨rfl, wr8⟩
  refine c_done (n_then (c_reg ?_))
  refine s_move (v := .pointer (some ⟨g, 0, none⟩)) (ev_t rfl rfl) (w0 rfl) ?_
  refine s_field (off := 1) (o' := 1) F_f38_1 (ev_t rfl rfl) rfl (w0 rfl) ?_
  refine s_loadL (cs := [.string x.a.p, .slice Aa x.a.args.length ca]) (ca := #[.string x.a.p, .slice Aa x.a.args.length ca]) F_m24 (ev_t rfl rfl) rfl rfl (blk_cells (Wr.blk wr8 (Ext.blk (NewB.ext n6) (NewB.blk n3)) (Or.inl (by decide)) ne_g1) 1 (cs := [.string x.a.p, .slice Aa x.a.args.length ca]) rfl) (w0 rfl) ?_
  refine s_call F_e35 (w0 rfl) ev_f (m2 (ev_t rfl rfl) (ev_t rfl rfl)) (args := #[.pointer (some ⟨g, 0, none⟩), .agg #[.string x.a.p, .slice Aa x.a.args.length ca]]) rfl (p_atom x.a Aa ca g (s0 ++ (catL [(⟨#[110, 111, 116, 32]⟩ : ByteArray)])) wz _ (Wr.after wr8 (Ext.trans (Ext.trans x0 (NewB.ext n3)) (NewB.ext n6)) rfl) tb (Wr.bw wr8) hoa_ hra (lt_at hlt (by omega)) (by (try simp only [catL, ByteArray.size_append, z0, z4]); omega)) ?_
  rintro _ w9 ⟨rfl, wr10⟩
  refine c_done ?_
  refine ret0 rfl ?_
  exact ⟨_, rfl, rfl, Wr.cast (Wr.then_ (Wr.then_ (Wr.of_ext hb (Ext.trans (NewB.ext n3) (NewB.ext n6)) hB_) wr8) wr10) (by unfold ltW; first | (rw [if_pos (by omega)]; done) | (rw [if_neg (by omega), if_pos (by omega)]; simp only [catL, app_nil, app_assoc]; done) | (rw [if_neg (by omega), if_neg (by omega)]; simp only [catL, app_nil, app_assoc]; done))⟩
set_option maxHeartbeats 4000000 in
theorem p_cmp (x : Lt) (Aa A1 A2 : Option Addr) (ca c1 c2 : Nat) (g : Nat) (s0 : ByteArray) (wz : World) (w : World) (x0 : Ext wz w) (tb : Tabs Tryz.prog wz) (hb : BW 5 97 wz.heap.size w g s0) (ho : x.okc ca c1 c2) (hra : Row RT 4 wz Aa x.a.args) (hr1 : Row RE 6 wz A1 x.e1.kids) (hr2 : Row RE 6 wz A2 x.e2.kids) (hlt : ltB x = true) (tr : RelT Tryz.prog wz) (hs : s0.size + 1000000 ≤ 1000000000000) (hk : x.k = 3) :
    Rt Tryz.prog 79 #[.pointer (some ⟨g, 0, none⟩), .agg #[.int .i8 x.k, .string x.a.p, .slice Aa x.a.args.length ca, .int .i8 x.r, .int .i8 x.e1.op, .string x.e1.t.v, .int .i8 x.e1.t.l.k, .int .i64 x.e1.t.l.n, .string x.e1.t.l.s, .slice A1 x.e1.kids.length c1, .int .i8 x.e2.op, .string x.e2.t.v, .int .i8 x.e2.t.l.k, .int .i64 x.e2.t.l.n, .string x.e2.t.l.s, .slice A2 x.e2.kids.length c2]] w fun v w' => v = .tuple #[] ∧ Wr 5 97 wz.heap.size g (s0 ++ ltW x) w w' := by
  refine enter Tryz.func79 rfl (l := [.pointer (some ⟨g, 0, none⟩), .agg #[.int .i8 x.k, .string x.a.p, .slice Aa x.a.args.length ca, .int .i8 x.r, .int .i8 x.e1.op, .string x.e1.t.v, .int .i8 x.e1.t.l.k, .int .i64 x.e1.t.l.n, .string x.e1.t.l.s, .slice A1 x.e1.kids.length c1, .int .i8 x.e2.op, .string x.e2.t.v, .int .i8 x.e2.t.l.k, .int .i64 x.e2.t.l.n, .string x.e2.t.l.s, .slice A2 x.e2.kids.length c2]]) rfl Tryz.ntmps79 (Nat.le_of_ble_eq_true rfl) ?_
  have hB_ := Keep.size x0
  have hoa_ := Lt.okc.a ho
  have ho1_ := Lt.okc.e1 ho
  have ho2_ := Lt.okc.e2 ho
  have hl1_ := Ex.okc.l ho1_
  have hl2_ := Ex.okc.l ho2_
  have hc1_ := Ex.okc.c ho1_
  have hc2_ := Ex.okc.c ho2_
  have hla_ := At.okc.l hoa_
  have hca_ := At.okc.c hoa_
  have hpa_ := At.okc.p hoa_
  have hrz_ := relW_size x.r
  have hcm_ := lt_cmp hlt (by omega) (by omega)
  obtain ⟨_, hr1_, hr6_, he1_, he2_⟩ := hcm_
  have hz1_ := exW_le (d := 8) (by decide) he1_ (Go.Wk.Row.ok hr1 (Ex.okc.t ho1_))
  have hz2_ := exW_le (d := 8) (by decide) he2_ (Go.Wk.Row.ok hr2 (Ex.okc.t ho2_))
  refine c_seq (c_reg ?_)
  refine s_box (v := .agg #[.int .i8 x.k, .string x.a.p, .slice Aa x.a.args.length ca, .int .i8 x.r, .int .i8 x.e1.op, .string x.e1.t.v, .int .i8 x.e1.t.l.k, .int .i64 x.e1.t.l.n, .string x.e1.t.l.s, .slice A1 x.e1.kids.length c1, .int .i8 x.e2.op, .string x.e2.t.v, .int .i8 x.e2.t.l.k, .int .i64 x.e2.t.l.n, .string x.e2.t.l.s, .slice A2 x.e2.kids.length c2]) (cs := #[.int .i8 x.k, .string x.a.p, .slice Aa x.a.args.length ca, .int .i8 x.r, .int .i8 x.e1.op, .string x.e1.t.v, .int .i8 x.e1.t.l.k, .int .i64 x.e1.t.l.n, .string x.e1.t.l.s, .slice A1 x.e1.kids.length c1, .int .i8 x.e2.op, .string x.e2.t.v, .int .i8 x.e2.t.l.k, .int .i64 x.e2.t.l.n, .string x.e2.t.l.s, .slice A2 x.e2.kids.length c2]) (w0 rfl) (ev_t rfl rfl) rfl ?_
  intro w2 g1 n3
  have ne_g1 : g1 ≠ g := by have a_ := NewB.eq n3; have b_ := BW.lt hb; omega
  refine c_done (n_then (c_seq (c_reg ?_)))
  refine s_move (v := .pointer (some ⟨g, 0, none⟩)) (ev_t rfl rfl) (w0 rfl) ?_
  refine s_field (off := 4) (o' := 4) F_f38_3 (ev_t rfl rfl) rfl (w0 rfl) ?_
  refine s_loadL (cs := [.int .i8 x.e1.op, .string x.e1.t.v, .int .i8 x.e1.t.l.k, .int .i64 x.e1.t.l.n, .string x.e1.t.l.s, .slice A1 x.e1.kids.length c1]) (ca := #[.int .i8 x.e1.op, .string x.e1.t.v, .int .i8 x.e1.t.l.k, .int .i64 x.e1.t.l.n, .string x.e1.t.l.s, .slice A1 x.e1.kids.length c1]) F_m36 (ev_t rfl rfl) rfl rfl (blk_cells (NewB.blk n3) 4 (cs := [.int .i8 x.e1.op, .string x.e1.t.v, .int .i8 x.e1.t.l.k, .int .i64 x.e1.t.l.n, .string x.e1.t.l.s, .slice A1 x.e1.kids.length c1]) rfl) (w0 rfl) ?_
  refine s_call F_e84 (w0 rfl) ev_f (m2 (ev_t rfl rfl) (ev_t rfl rfl)) (args := #[.pointer (some ⟨g, 0, none⟩), .agg #[.int .i8 x.e1.op, .string x.e1.t.v, .int .i8 x.e1.t.l.k, .int .i64 x.e1.t.l.n, .string x.e1.t.l.s, .slice A1 x.e1.kids.length c1]]) rfl (p_expr g wz tb 8 x.e1 A1 c1 _ (s0) (by decide) (by assumption) ho1_ hr1 (Ext.trans x0 (NewB.ext n3)) (BW.ext hb (NewB.ext n3)) (by (try simp only [catL, ByteArray.size_append, z0, z1]); omega)) ?_
  rintro _ w4 ⟨rfl, wr5⟩
  refine c_done (n_then (c_seq (c_reg ?_)))
  refine s_move (v := .pointer (some ⟨g, 0, none⟩)) (ev_t rfl rfl) (w0 rfl) ?_
  refine s_field (off := 3) (o' := 3) F_f38_2 (ev_t rfl rfl) rfl (w0 rfl) ?_
  refine s_load (v := .int .i8 x.r) F_o27 (ev_t rfl rfl) (cell_of_blk (i := 3) (Wr.blk wr5 (NewB.blk n3) (Or.inl (by decide)) ne_g1) rfl) (w0 rfl) ?_
  refine s_indexA (j := x.r.toNat) F_ar154 ev_g (ev_t rfl rfl) (by omega) (by omega) (w0 rfl) ?_
  refine s_load (v := .string (relW x.r)) F_o9 (ev_t rfl rfl) (RelT.at_ (RelT.ext tr (Wr.after wr5 (Ext.trans x0 (NewB.ext n3)) rfl)) F_gn0 (by omega)) (w0 rfl) ?_
  refine s_bslice (vs := [(0, .string (⟨#[32]⟩ : ByteArray)), (1, .string (relW x.r)), (2, .string (⟨#[32]⟩ : ByteArray))]) (cs := #[.string (⟨#[32]⟩ : ByteArray), .string (relW x.r), .string (⟨#[32]⟩ : ByteArray)]) (b3 ev_c (ev_t rfl rfl) ev_c) (bs106_3_0s_1s_2s (⟨#[32]⟩ : ByteArray) (relW x.r) (⟨#[32]⟩ : ByteArray)) (w0 rfl) ?_
  intro w7 g6 n8
  have ne_g6 : g6 ≠ g := by have a_ := NewB.eq n8; have b_ := BW.lt (Wr.bw wr5); omega
  refine s_call F_e54 (w0 rfl) ev_f (m2 (ev_t rfl rfl) (ev_t rfl rfl)) (args := #[.pointer (some ⟨g, 0, none⟩), .slice (some ⟨g6, 0, none⟩) 3 3]) rfl (p_put 97 _ g g6 (s0 ++ (exW 8 x.e1)) [(⟨#[32]⟩ : ByteArray), relW x.r, (⟨#[32]⟩ : ByteArray)] _ (BW.ext (Wr.bw wr5) (NewB.ext n8)) (Nat.le_trans (Nat.le_trans (Nat.le_trans hB_ (Keep.size (NewB.ext n3))) (Wr.size wr5)) (Keep.size (NewB.ext n8))) (by decide) F_lies97 (NewB.blk n8) (by simp only [catL, ByteArray.size_append, z0, z1, z2, z3, z4, z5, z6]; omega) (by simp)) ?_
  rintro _ w9 ⟨rfl, wr10⟩
  refine c_done (n_then (c_reg ?_))
  refine s_move (v := .pointer (some ⟨g, 0, none⟩)) (ev_t rfl rfl) (w0 rfl) ?_
  refine s_field (off := 10) (o' := 10) F_f38_4 (ev_t rfl rfl) rfl (w0 rfl) ?_
  refine s_loadL (cs := [.int .i8 x.e2.op, .string x.e2.t.v, .int .i8 x.e2.t.l.k, .int .i64 x.e2.t.l.n, .string x.e2.t.l.s, .slice A2 x.e2.kids.length c2]) (ca := #[.int .i8 x.e2.op, .string x.e2.t.v, .int .i8 x.e2.t.l.k, .int .i64 x.e2.t.l.n, .string x.e2.t.l.s, .slice A2 x.e2.kids.length c2]) F_m36 (ev_t rfl rfl) rfl rfl (blk_cells (Wr.blk wr10 (Ext.blk (NewB.ext n8) (Wr.blk wr5 (NewB.blk n3) (Or.inl (by decide)) ne_g1)) (Or.inl (by decide)) ne_g1) 10 (cs := [.int .i8 x.e2.op, .string x.e2.t.v, .int .i8 x.e2.t.l.k, .int .i64 x.e2.t.l.n, .string x.e2.t.l.s, .slice A2 x.e2.kids.length c2]) rfl) (w0 rfl) ?_
  refine s_call F_e84 (w0 rfl) ev_f (m2 (ev_t rfl rfl) (ev_t rfl rfl)) (args := #[.pointer (some ⟨g, 0, none⟩), .agg #[.int .i8 x.e2.op, .string x.e2.t.v, .int .i8 x.e2.t.l.k, .int .i64 x.e2.t.l.n, .string x.e2.t.l.s, .slice A2 x.e2.kids.length c2]]) rfl (p_expr g wz tb 8 x.e2 A2 c2 _ (s0 ++ (exW 8 x.e1) ++ (catL [(⟨#[32]⟩ : ByteArray), relW x.r, (⟨#[32]⟩ : ByteArray)])) (by decide) (by assumption) ho2_ hr2 (Wr.after wr10 (Ext.trans (Wr.after wr5 (Ext.trans x0 (NewB.ext n3)) rfl) (NewB.ext n8)) rfl) (Wr.bw wr10) (by (try simp only [catL, ByteArray.size_append, z0, z1]); omega)) ?_
  rintro _ w11 ⟨rfl, wr12⟩
  refine c_done ?_
  refine ret0 rfl ?_
  exact ⟨_, rfl, rfl, Wr.cast (Wr.then_ (Wr.then_ (Wr.ext (Wr.then_ (Wr.of_ext hb (NewB.ext n3) hB_) wr5) (NewB.ext n8) hB_) wr10) wr12) (by unfold ltW; first | (rw [if_pos (by omega)]; done) | (rw [if_neg (by omega), if_pos (by omega)]; simp only [catL, app_nil, app_assoc]; done) | (rw [if_neg (by omega), if_neg (by omega)]; simp only [catL, app_nil, app_assoc]; done))⟩
end Go.Proofs.Zw
