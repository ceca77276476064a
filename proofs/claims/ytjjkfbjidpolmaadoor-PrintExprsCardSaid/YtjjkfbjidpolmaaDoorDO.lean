/- YtjjkfbjidpolmaaDoorDO: part of the proof of this seat, by an AI agent: walks of the functions that the law reaches. No condition of its own but those that its theorems state. -/
import Derived.Test.YtjjkfbjidpolmaaDoorDN
set_option linter.unusedVariables false
set_option linter.unusedSimpArgs false
set_option maxRecDepth 10000
namespace Go.Proofs.Dw
open Go Go.Wk Go.Proofs Go.Lib
attribute [local irreducible] Go.wpList Go.wpStill Go.wpQuiet Go.Code.wp Go.Calls
theorem F_e19 : enterable Tryd.prog 19 = true := by kernel_rfl
theorem F_e42 : enterable Tryd.prog 42 = true := by kernel_rfl
theorem F_e7 : enterable Tryd.prog 7 = true := by kernel_rfl
theorem F_iE29 : (Tryd.prog.info? (Tryd.prog.elem 29)).isSome = true := by kernel_rfl
theorem F_if31 : (Tryd.prog.info? 31).map (fun i => (i.zero, i.size, i.bytes)) = some (some (.agg #[.int .i8 0, .string (⟨#[]⟩ : ByteArray), .int .i8 0, .int .i64 0, .string (⟨#[]⟩ : ByteArray), .slice none 0 0]), 6, 80) := by kernel_rfl
theorem F_sz29 : (Tryd.prog.info? 29).map (·.size) = some 1 := by kernel_rfl
theorem F_uE29 : Tryd.prog.underlying 29 = some (.slice (Tryd.prog.elem 29)) := by kernel_rfl
theorem F_ul29 : Tryd.prog.underlying 29 = some (.slice 31) := by kernel_rfl
set_option maxHeartbeats 4000000 in
theorem l_TwinExpr_of (x : Ex) (A : Option Addr) (c : Nat) (w : World) (ho : x.okc c) (hr : Row RE 6 w A x.kids) (tb : Tabs Tryd.prog w) (htw : ∀ (A : Option Addr) (c : Nat) (w : World), x.okc c → Row RE 6 w A x.kids → Tabs Tryd.prog w → Rt Tryd.prog 19 #[.slice A x.kids.length c] w fun v w' => ∃ b, v = .slice (some ⟨b, 0, none⟩) x.kids.length (x.kids.length + 1) ∧ TwE w.heap.size w' b x.kids ∧ Ext w w') :
    Rt Tryd.prog 7 #[.agg #[.int .i8 x.op, .string x.t.v, .int .i8 x.t.l.k, .int .i64 x.t.l.n, .string x.t.l.s, .slice A x.kids.length c]] w fun v w' => ∃ b, v = .agg #[.int .i8 x.op, .string x.t.v, .int .i8 x.t.l.k, .int .i64 x.t.l.n, .string x.t.l.s, .slice (some ⟨b, 0, none⟩) x.kids.length (x.kids.length + 1)] ∧ TwE w.heap.size w' b x.kids ∧ Ext w w' := by
  refine enter Tryd.func7 rfl (l := [.agg #[.int .i8 x.op, .string x.t.v, .int .i8 x.t.l.k, .int .i64 x.t.l.n, .string x.t.l.s, .slice A x.kids.length c]]) rfl Tryd.ntmps7 (Nat.le_of_ble_eq_true rfl) ?_
  have hl_ := Ex.okc.l ho
  have hc_ := Ex.okc.c ho
  refine c_seq ?_
  refine c_reg ?_
  refine s_box (v := .agg #[.int .i8 x.op, .string x.t.v, .int .i8 x.t.l.k, .int .i64 x.t.l.n, .string x.t.l.s, .slice A x.kids.length c]) (cs := #[.int .i8 x.op, .string x.t.v, .int .i8 x.t.l.k, .int .i64 x.t.l.n, .string x.t.l.s, .slice A x.kids.length c]) (w0 rfl) (ev_t rfl rfl) rfl ?_
  intro w2 g1 n3
  refine s_alloc (cs := #[.int .i8 0, .string (⟨#[]⟩ : ByteArray), .int .i8 0, .int .i64 0, .string (⟨#[]⟩ : ByteArray), .slice none 0 0]) (w0 rfl) F_z31 rfl ?_
  intro w5 g4 n6
  refine c_done ?_
  refine n_then ?_
  refine c_seq ?_
  refine c_reg ?_
  refine s_field (off := 5) (o' := 5) F_f31_2 (ev_t rfl rfl) rfl (w0 rfl) ?_
  refine s_load (v := .slice A x.kids.length c) F_o29 (ev_t rfl rfl) (cell_of_blk (i := 5) (Ext.blk (NewB.ext n6) (NewB.blk n3)) rfl) (w0 rfl) ?_
  refine s_call F_e19 (w0 rfl) ev_f (m1 (ev_t rfl rfl)) (args := #[.slice A x.kids.length c]) rfl (htw A c _ ho (Row.extE (Row.extE hr (NewB.ext n3)) (NewB.ext n6)) (Tabs.ext tb (Ext.trans (NewB.ext n3) (NewB.ext n6)))) ?_
  rintro _ w8 ⟨b7, rfl, tw9, x10⟩
  refine s_field (off := 5) (o' := 5) F_f31_2 (ev_t rfl rfl) rfl (w0 rfl) ?_
  refine s_store (cs' := #[.int .i8 x.op, .string x.t.v, .int .i8 x.t.l.k, .int .i64 x.t.l.n, .string x.t.l.s, .slice (some ⟨b7, 0, none⟩) x.kids.length (x.kids.length + 1)]) F_sz29 (ev_t rfl rfl) (ev_t rfl rfl) (l := [.slice (some ⟨b7, 0, none⟩) x.kids.length (x.kids.length + 1)]) rfl rfl rfl (Ext.blk x10 (Ext.blk (NewB.ext n6) (NewB.blk n3))) (Nat.le_of_ble_eq_true rfl) rfl (w0 rfl) ?_
  intro w11 k12
  refine c_done ?_
  refine n_then ?_
  refine c_seq ?_
  refine c_reg ?_
  refine s_loadL (cs := [.int .i8 x.op, .string x.t.v, .int .i8 x.t.l.k, .int .i64 x.t.l.n, .string x.t.l.s, .slice (some ⟨b7, 0, none⟩) x.kids.length (x.kids.length + 1)]) (ca := #[.int .i8 x.op, .string x.t.v, .int .i8 x.t.l.k, .int .i64 x.t.l.n, .string x.t.l.s, .slice (some ⟨b7, 0, none⟩) x.kids.length (x.kids.length + 1)]) F_m31 (ev_t rfl rfl) rfl rfl (blk_cells (Wrote.blk k12) 0 (cs := [.int .i8 x.op, .string x.t.v, .int .i8 x.t.l.k, .int .i64 x.t.l.n, .string x.t.l.s, .slice (some ⟨b7, 0, none⟩) x.kids.length (x.kids.length + 1)]) rfl) (w0 rfl) ?_
  refine s_store (cs' := #[.int .i8 x.op, .string x.t.v, .int .i8 x.t.l.k, .int .i64 x.t.l.n, .string x.t.l.s, .slice (some ⟨b7, 0, none⟩) x.kids.length (x.kids.length + 1)]) F_sz31 (ev_t rfl rfl) (ev_t rfl rfl) (l := [.int .i8 x.op, .string x.t.v, .int .i8 x.t.l.k, .int .i64 x.t.l.n, .string x.t.l.s, .slice (some ⟨b7, 0, none⟩) x.kids.length (x.kids.length + 1)]) rfl rfl rfl (Keep.blk (Wrote.keep k12) (Ext.blk x10 (NewB.blk n6)) (by have a_ := NewB.eq n6; have b_ := lt_of_blk (NewB.blk n3); omega)) (Nat.le_of_ble_eq_true rfl) rfl (w0 rfl) ?_
  intro w13 k14
  refine c_done ?_
  refine n_then ?_
  refine c_ret ?_
  refine retC (cs := [.int .i8 x.op, .string x.t.v, .int .i8 x.t.l.k, .int .i64 x.t.l.n, .string x.t.l.s, .slice (some ⟨b7, 0, none⟩) x.kids.length (x.kids.length + 1)]) (ca := #[.int .i8 x.op, .string x.t.v, .int .i8 x.t.l.k, .int .i64 x.t.l.n, .string x.t.l.s, .slice (some ⟨b7, 0, none⟩) x.kids.length (x.kids.length + 1)]) rfl rfl rfl F_m31 rfl rfl (blk_cells (Wrote.blk k14) 0 (cs := [.int .i8 x.op, .string x.t.v, .int .i8 x.t.l.k, .int .i64 x.t.l.n, .string x.t.l.s, .slice (some ⟨b7, 0, none⟩) x.kids.length (x.kids.length + 1)]) rfl) ?_
  exact ⟨_, rfl, b7, rfl, TwE.mono (TwE.keep (TwE.keep tw9 (Wrote.keep k12) (fun i_ h_ => by have a_ := NewB.eq n3; have b_ := NewB.size n3; have c_ := Keep.size (NewB.ext n6); omega)) (Wrote.keep k14) (fun i_ h_ => by have a_ := NewB.eq n6; have b_ := NewB.size n6; have c_ := Keep.size (Ext.refl w5); omega)) (Keep.size (Ext.trans (NewB.ext n3) (NewB.ext n6))), (Keep.then_ (Keep.then_ (Ext.trans (Ext.trans (NewB.ext n3) (NewB.ext n6)) x10) (Wrote.keep k12) (fun i_ hi_ h_ => by have a_ := NewB.eq n3; have b_ := Keep.size (Ext.refl w); omega)) (Wrote.keep k14) (fun i_ hi_ h_ => by have a_ := NewB.eq n6; have b_ := Keep.size (NewB.ext n3); omega))⟩
set_option maxHeartbeats 4000000 in
theorem l_TwinExprs_of (x : Ex) (A : Option Addr) (c : Nat) (w : World) (ho : x.okc c) (hr : Row RE 6 w A x.kids) (tb : Tabs Tryd.prog w) (ih : ∀ (j : Nat) (y : Ex), x.kids[j]? = some y → ∀ (A : Option Addr) (c : Nat) (w : World), y.okc c → Row RE 6 w A y.kids → Tabs Tryd.prog w → Rt Tryd.prog 7 #[.agg #[.int .i8 y.op, .string y.t.v, .int .i8 y.t.l.k, .int .i64 y.t.l.n, .string y.t.l.s, .slice A y.kids.length c]] w fun v w' => ∃ b, v = .agg #[.int .i8 y.op, .string y.t.v, .int .i8 y.t.l.k, .int .i64 y.t.l.n, .string y.t.l.s, .slice (some ⟨b, 0, none⟩) y.kids.length (y.kids.length + 1)] ∧ TwE w.heap.size w' b y.kids ∧ Ext w w') :
    Rt Tryd.prog 19 #[.slice A x.kids.length c] w fun v w' => ∃ b, v = .slice (some ⟨b, 0, none⟩) x.kids.length (x.kids.length + 1) ∧ TwE w.heap.size w' b x.kids ∧ Ext w w' := by
  refine enter Tryd.func19 rfl (l := [.slice A x.kids.length c]) rfl Tryd.ntmps19 (Nat.le_of_ble_eq_true rfl) ?_
  have hl_ := Ex.okc.l ho
  have hc_ := Ex.okc.c ho
  refine c_seq ?_
  refine c_reg ?_
  refine s_assign (v := .slice none 0 0) ev_c (w0 rfl) ?_
  refine c_done ?_
  refine n_then ?_
  refine c_seq ?_
  refine c_reg ?_
  refine s_move (v := .slice A x.kids.length c) (ev_t rfl rfl) (w0 rfl) ?_
  refine s_lenL F_l29 (ev_t rfl rfl) (w0 rfl) ?_
  refine s_add (r := ((x.kids.length + 1 : Nat) : Int)) (ev_t rfl rfl) ev_c (by omega) (by omega) (w0 rfl) ?_
  refine s_make (k := x.kids.length + 1) F_ul29 F_if31 (ev_t rfl rfl) (ev_t rfl rfl) (by omega) (by omega) (w0 rfl) ?_
  intro w1 g2 cs3 hs4 n5
  have ge_g2 : w.heap.size ≤ g2 := by have a_ := NewB.eq n5; have b_ := Keep.size (Ext.refl w); omega
  have fl_g2 : Fill (EE (g2 + 1) x.kids) 6 31 w1 g2 (x.kids.length + 1) 0 := Fill.start n5 hs4
  refine s_assign (v := .slice (some ⟨g2, 0, none⟩) (x.kids.length + 1) (x.kids.length + 1)) (ev_t rfl rfl) (w0 rfl) ?_
  refine c_done ?_
  refine n_then ?_
  refine c_seq ?_
  refine c_seq ?_
  refine c_reg ?_
  refine s_assign (v := .int .i64 0) ev_c (w0 rfl) ?_
  refine c_done ?_
  refine n_then ?_
  refine c_block ?_
  refine c_loop (α := Nat) (fun (i : Nat) env_ w_ => Ext w w_ ∧ i ≤ x.kids.length ∧ Fill (EE (g2 + 1) x.kids) 6 31 w_ g2 (x.kids.length + 1) i ∧ env_ 0 = .slice A x.kids.length c ∧ env_ 2 = .slice none 0 0 ∧ env_ 3 = .slice (some ⟨g2, 0, none⟩) (x.kids.length + 1) (x.kids.length + 1) ∧ env_ 4 = .int .i64 ((i : Nat) : Int)) (fun i => x.kids.length - i) (0) ⟨(NewB.ext n5), Nat.zero_le _, fl_g2, rfl, rfl, rfl, rfl⟩ ?_
  rintro i env8 w6 ⟨x7, i9, i10, e11, e12, e13, e14⟩
  refine c_seq ?_
  refine c_seq ?_
  refine c_reg ?_
  refine s_move (v := .int .i64 ((i : Nat) : Int)) (ev_t rfl e14) (w0 rfl) ?_
  refine s_move (v := .slice A x.kids.length c) (ev_t rfl e11) (w0 rfl) ?_
  refine s_lenL F_l29 (ev_t rfl rfl) (w0 rfl) ?_
  refine s_cmp (r := decide (((i : Nat) : Int) < (x.kids.length : Int))) (ev_t rfl rfl) (ev_t rfl rfl) rfl (w0 rfl) ?_
  refine c_done ?_
  refine n_then ?_
  by_cases h15 : ((i : Nat) : Int) < (x.kids.length : Int)
  · refine c_cond1 (vb (ev_t rfl rfl) (decide_eq_true h15)) ?_
    refine c_skip ?_
    refine n_then ?_
    refine c_seq ?_
    refine c_block ?_
    refine c_reg ?_
    refine s_move (v := .slice (some ⟨g2, 0, none⟩) (x.kids.length + 1) (x.kids.length + 1)) (ev_t rfl e13) (w0 rfl) ?_
    refine s_move (v := .int .i64 ((i : Nat) : Int)) (ev_t rfl e14) (w0 rfl) ?_
    refine s_move (v := .slice A x.kids.length c) (ev_t rfl e11) (w0 rfl) ?_
    refine s_move (v := .int .i64 ((i : Nat) : Int)) (ev_t rfl e14) (w0 rfl) ?_
    obtain ⟨b16, o17, x18, csx18, hA19, hx20, hR21, hc22⟩ := Row.at_ hr i (by omega)
    obtain rfl := Ex.kid_of hx20
    obtain ⟨A23, c24, rfl, ho25, hr26⟩ := RE.open_ hR21
    refine s_indexR (j := i) F_l29 (ev_t rfl rfl) hA19 (ev_t rfl rfl) rfl (by omega) (w0 rfl) ?_
    refine s_loadL (cs := [.int .i8 ((x.kid i).op), .string ((x.kid i).t.v), .int .i8 ((x.kid i).t.l.k), .int .i64 ((x.kid i).t.l.n), .string ((x.kid i).t.l.s), .slice A23 ((x.kid i).kids.length) c24]) (ca := #[.int .i8 ((x.kid i).op), .string ((x.kid i).t.v), .int .i8 ((x.kid i).t.l.k), .int .i64 ((x.kid i).t.l.n), .string ((x.kid i).t.l.s), .slice A23 ((x.kid i).kids.length) c24]) F_m31 (ev_t rfl rfl) rfl rfl (sub_cells (cells_ext x7 hc22) 0 (cs2 := [.int .i8 ((x.kid i).op), .string ((x.kid i).t.v), .int .i8 ((x.kid i).t.l.k), .int .i64 ((x.kid i).t.l.n), .string ((x.kid i).t.l.s), .slice A23 ((x.kid i).kids.length) c24]) rfl) (w0 rfl) ?_
    refine s_call F_e7 (w0 rfl) ev_f (m1 (ev_t rfl rfl)) (args := #[.agg #[.int .i8 ((x.kid i).op), .string ((x.kid i).t.v), .int .i8 ((x.kid i).t.l.k), .int .i64 ((x.kid i).t.l.n), .string ((x.kid i).t.l.s), .slice A23 ((x.kid i).kids.length) c24]]) rfl (ih i (x.kid i) (kid_there (x := x) (j := i) (by omega)) A23 c24 _ ho25 (Row.extE hr26 x7) (Tabs.ext tb x7)) ?_
    rintro _ w28 ⟨b27, rfl, tw29, x30⟩
    refine s_indexR (j := i) F_l29 (ev_t rfl rfl) rfl (ev_t rfl rfl) rfl (by omega) (w0 rfl) ?_
    refine s_storeF (i := i) (l := [.int .i8 ((x.kid i).op), .string ((x.kid i).t.v), .int .i8 ((x.kid i).t.l.k), .int .i64 ((x.kid i).t.l.n), .string ((x.kid i).t.l.s), .slice (some ⟨b27, 0, none⟩) ((x.kid i).kids.length) ((x.kid i).kids.length + 1)]) (Fill.cast (Fill.ext i10 x30 (fun j_ l_ h_ => EE.keep h_ x30 (fun _ h_ => h_.elim))) (by omega)) (by omega) F_sz31 (ev_t rfl rfl) (ev_t rfl rfl) rfl rfl rfl (fun w_ k_ => ⟨fun j_ l_ _ h_ => EE.keep h_ k_ (fun i_ q_ => by omega), EE.keep (EE.of_tw (kid_there (x := x) (j := i) (by omega)) ho25 tw29 (by have a_ := Fill.lt i10; omega)) k_ (fun i_ q_ => by omega)⟩) (w0 rfl) ?_
    intro w31 fl32 k33
    refine c_done ?_
    refine n_block ?_
    refine n_then ?_
    refine c_reg ?_
    refine s_move (v := .int .i64 ((i : Nat) : Int)) (ev_t rfl e14) (w0 rfl) ?_
    refine s_add (r := ((i + 1 : Nat) : Int)) (ev_t rfl rfl) ev_c (by omega) (by omega) (w0 rfl) ?_
    refine s_assign (v := .int .i64 ((i + 1 : Nat) : Int)) (ev_t rfl rfl) (w0 rfl) ?_
    refine c_done ?_
    exact ⟨(i + 1), _, rfl, ⟨(Keep.then_ (Ext.trans x7 x30) k33 (fun i_ hi_ h_ => by have a_ := ge_g2; omega)), by omega, fl32, e11, e12, e13, rfl⟩, (show x.kids.length - (i + 1) < x.kids.length - i by omega)⟩
  · refine c_cond0 (vb (ev_t rfl rfl) (decide_eq_false h15)) ?_
    refine c_exit ?_
    refine e_then ?_
    refine e_then ?_
    refine e_hit ?_
    refine n_then ?_
    refine c_seq ?_
    refine c_reg ?_
    refine s_move (v := .slice (some ⟨g2, 0, none⟩) (x.kids.length + 1) (x.kids.length + 1)) (ev_t rfl e13) (w0 rfl) ?_
    refine s_move (v := .slice A x.kids.length c) (ev_t rfl e11) (w0 rfl) ?_
    refine s_lenL F_l29 (ev_t rfl rfl) (w0 rfl) ?_
    refine s_call F_e42 (w0 rfl) ev_f (m1 ev_c) (args := #[.int .i64 777777]) rfl (l_markExpr 777777 _ (Tabs.ext tb x7) (by omega)) ?_
    rintro _ w35 ⟨rfl, x34⟩
    refine s_indexR (j := x.kids.length) F_l29 (ev_t rfl rfl) rfl (ev_t rfl rfl) rfl (by omega) (w0 rfl) ?_
    refine s_storeF (i := x.kids.length) (l := [.int .i8 99, .string ((⟨#[35]⟩ : ByteArray) ++ itoaB 777777), .int .i8 0, .int .i64 0, .string (⟨#[]⟩ : ByteArray), .slice none 0 0]) (Fill.cast (Fill.ext i10 x34 (fun j_ l_ h_ => EE.keep h_ x34 (fun _ h_ => h_.elim))) (by omega)) (by omega) F_sz31 (ev_t rfl rfl) (ev_t rfl rfl) rfl rfl rfl (fun w_ k_ => ⟨fun j_ l_ _ h_ => EE.keep h_ k_ (fun i_ q_ => by omega), EE.keep EE.mark k_ (fun i_ q_ => by omega)⟩) (w0 rfl) ?_
    intro w36 fl37 k38
    refine c_done ?_
    refine n_then ?_
    refine c_seq ?_
    refine c_reg ?_
    refine s_move (v := .slice (some ⟨g2, 0, none⟩) (x.kids.length + 1) (x.kids.length + 1)) (ev_t rfl e13) (w0 rfl) ?_
    refine s_move (v := .slice A x.kids.length c) (ev_t rfl e11) (w0 rfl) ?_
    refine s_lenL F_l29 (ev_t rfl rfl) (w0 rfl) ?_
    refine s_sliceH (h := x.kids.length) F_uE29 F_iE29 (ev_t rfl rfl) (ev_t rfl rfl) (by omega) (w0 rfl) ?_
    refine s_assign (v := .slice (some ⟨g2, 0, none⟩) x.kids.length (x.kids.length + 1)) (ev_t rfl rfl) (w0 rfl) ?_
    refine c_done ?_
    refine n_then ?_
    refine c_ret ?_
    refine ret1 (v := .slice (some ⟨g2, 0, none⟩) x.kids.length (x.kids.length + 1)) rfl rfl rfl ?_
    exact ⟨_, rfl, g2, rfl, TwE.of_fill (Fill.cast fl37 (by omega)) (by omega) (by omega), (Keep.then_ (Ext.trans x7 x34) k38 (fun i_ hi_ h_ => by have a_ := ge_g2; omega))⟩
theorem l_TwinExpr : ∀ (k : Nat) (x : Ex), SizeOf.sizeOf x < k → ∀ (A : Option Addr) (c : Nat) (w : World), x.okc c → Row RE 6 w A x.kids → Tabs Tryd.prog w → Rt Tryd.prog 7 #[.agg #[.int .i8 x.op, .string x.t.v, .int .i8 x.t.l.k, .int .i64 x.t.l.n, .string x.t.l.s, .slice A x.kids.length c]] w fun v w' => ∃ b, v = .agg #[.int .i8 x.op, .string x.t.v, .int .i8 x.t.l.k, .int .i64 x.t.l.n, .string x.t.l.s, .slice (some ⟨b, 0, none⟩) x.kids.length (x.kids.length + 1)] ∧ TwE w.heap.size w' b x.kids ∧ Ext w w' := by
  intro k
  induction k with
  | zero => intro x h; omega
  | succ k ih =>
    intro x hk A c w ho hr tb
    exact l_TwinExpr_of x A c w ho hr tb (fun A c w ho hr tb => l_TwinExprs_of x A c w ho hr tb (fun j y hy A c w ho hr tb => ih y (by have := Ex.kid_lt hy; omega) A c w ho hr tb))
end Go.Proofs.Dw
