/- YtjjkfbjidpolmaaGreatDoorPB: part of the proof of this seat, by an AI agent: the tables; no text is empty; walks of the functions that the law reaches; walks of the functions that the law reaches. No condition of its own but those that its theorems state. -/
import Derived.Test.YtjjkfbjidpolmaaGreatDoorPA
import Derived.Lib.ConvBytes
import Derived.Lib.Builder
import Derived.Laws.Externs
import Derived.Laws.Pointers
import Derived.Test.YtjjkfbjidpolmaaGreatDoorShelf
set_option maxHeartbeats 4000000
set_option linter.unusedVariables false
set_option linter.unusedSimpArgs false
set_option maxRecDepth 10000
namespace Go.Proofs.Zw
open Go Go.Wk Go.Proofs Go.Lib
attribute [local irreducible] Go.wpList Go.wpStill Go.wpQuiet Go.Code.wp Go.Calls
theorem F_e109 : enterable Tryz.prog 109 = true := by kernel_rfl
theorem F_e110 : enterable Tryz.prog 110 = true := by kernel_rfl
theorem F_e111 : enterable Tryz.prog 111 = true := by kernel_rfl
theorem F_e112 : enterable Tryz.prog 112 = true := by kernel_rfl
theorem F_e62 : enterable Tryz.prog 62 = true := by kernel_rfl
theorem F_e73 : enterable Tryz.prog 73 = true := by kernel_rfl
theorem F_sz36 : (Tryz.prog.info? 36).map (·.size) = some 6 := by kernel_rfl
theorem F_z36 : (Tryz.prog.info? 36).bind (·.zero) = some (.agg #[.int .i8 0,.string (⟨#[]⟩ : ByteArray),.int .i8 0,.int .i64 0,.string (⟨#[]⟩ : ByteArray),.slice none 0 0]) := by kernel_rfl
theorem r6_within (d : Nat) (x : Ex) (A : Option Addr) (c : Nat) (b : Bool) (w : World) (ho : x.okc c) (hr : Row RE 6 w A x.kids) (he : ∀ (A : Option Addr) (c : Nat) (w : World),x.okc c → Row RE 6 w A x.kids → Rt Tryz.prog 73 #[.agg #[.int .i8 x.op,.string x.t.v,.int .i8 x.t.l.k,.int .i64 x.t.l.n,.string x.t.l.s,.slice A x.kids.length c]] w fun v w' => v = .string (exW d x) ∧ Ext w w') (hz : (exW d x).size ≤ 230400) :
    Rt Tryz.prog 110 #[.agg #[.int .i8 x.op,.string x.t.v,.int .i8 x.t.l.k,.int .i64 x.t.l.n,.string x.t.l.s,.slice A x.kids.length c],.bool b] w fun v w' => v = .string (inB b (exW d x)) ∧ Ext w w' := by
  refine enter Tryz.func110 rfl (l := [.agg #[.int .i8 x.op,.string x.t.v,.int .i8 x.t.l.k,.int .i64 x.t.l.n,.string x.t.l.s,.slice A x.kids.length c],.bool b]) rfl Tryz.ntmps110 (Nat.le_of_ble_eq_true rfl) ?_
  have hl_ := Ex.okc.l ho
  have hc_ := Ex.okc.c ho
  refine c_seq (c_reg (s_box (v := .agg #[.int .i8 x.op,.string x.t.v,.int .i8 x.t.l.k,.int .i64 x.t.l.n,.string x.t.l.s,.slice A x.kids.length c]) (cs := #[.int .i8 x.op,.string x.t.v,.int .i8 x.t.l.k,.int .i64 x.t.l.n,.string x.t.l.s,.slice A x.kids.length c]) (w0 rfl) (ej rfl rfl) rfl ?_))
  intro w2 g1 n3
  refine s_assign (v := .string (⟨#[]⟩ : ByteArray)) ev_c (w0 rfl) (c_done (n_then (c_seq (c_seq (c_reg (s_move (v := .bool b) (ej rfl rfl) (w0 rfl) (c_done (n_then ?_))))))))
  rcases Bool.eq_false_or_eq_true b with h4 | h4
  · refine c_cond1 (vb (ej rfl rfl) h4) (c_seq (c_reg (s_loadL (cs := [.int .i8 x.op,.string x.t.v,.int .i8 x.t.l.k,.int .i64 x.t.l.n,.string x.t.l.s,.slice A x.kids.length c]) F_m36 (ej rfl rfl) rfl rfl (blk_cells (NewB.blk n3) 0 rfl) (w0 rfl) (s_call F_e73 (w0 rfl) ev_f (m1 (ej rfl rfl)) (args := #[.agg #[.int .i8 x.op,.string x.t.v,.int .i8 x.t.l.k,.int .i64 x.t.l.n,.string x.t.l.s,.slice A x.kids.length c]]) rfl (he A c _ ho (Row.extE hr (NewB.ext n3))) ?_))))
    rintro _ w6 ⟨rfl,x5⟩
    refine s_cat ev_c (ej rfl rfl) (by simp only [ByteArray.size_append,z0,z1,z2,z3,z4,z5,z6]; omega) (w0 rfl) (s_cat (ej rfl rfl) ev_c (by simp only [ByteArray.size_append,z0,z1,z2,z3,z4,z5,z6]; omega) (w0 rfl) (s_assign (v := .string ((⟨#[40]⟩ : ByteArray) ++ (exW d x) ++ (⟨#[41]⟩ : ByteArray))) (ej rfl rfl) (w0 rfl) (c_done (n_then (c_ret (r_then (ret1 (v := .string ((⟨#[40]⟩ : ByteArray) ++ (exW d x) ++ (⟨#[41]⟩ : ByteArray))) rfl rfl rfl ?_)))))))
    refine ⟨_,rfl,?_,(Ext.trans (NewB.ext n3) x5)⟩
    (simp only [inB, *,if_true,if_false,Bool.false_eq_true]; try rfl)
  refine c_cond0 (vb (ej rfl rfl) h4) (c_skip (n_then (c_seq (c_reg (s_loadL (cs := [.int .i8 x.op,.string x.t.v,.int .i8 x.t.l.k,.int .i64 x.t.l.n,.string x.t.l.s,.slice A x.kids.length c]) F_m36 (ej rfl rfl) rfl rfl (blk_cells (NewB.blk n3) 0 rfl) (w0 rfl) (s_call F_e73 (w0 rfl) ev_f (m1 (ej rfl rfl)) (args := #[.agg #[.int .i8 x.op,.string x.t.v,.int .i8 x.t.l.k,.int .i64 x.t.l.n,.string x.t.l.s,.slice A x.kids.length c]]) rfl (he A c _ ho (Row.extE hr (NewB.ext n3))) ?_))))))
  rintro _ w8 ⟨rfl,x7⟩
  refine s_assign (v := .string (exW d x)) (ej rfl rfl) (w0 rfl) (c_done (n_then (c_ret (ret1 (v := .string (exW d x)) rfl rfl rfl ?_))))
  refine ⟨_,rfl,?_,(Ext.trans (NewB.ext n3) x7)⟩
  (simp only [inB, *,if_true,if_false,Bool.false_eq_true]; try rfl)
/-- A kid's index, and that it may be. -/
theorem exOp {d : Nat} {x : Ex} (h : exB d x = true) : (0 ≤ x.op ∧ x.op ≤ 10) ∧ (x.op = 1 ∨ 8 ≤ x.op ∧ x.op ≤ 10 → 0 < x.kids.length) ∧ (¬ x.op = 0 ∧ ¬ x.op = 1 ∧ ¬ (8 ≤ x.op ∧ x.op ≤ 10) → 1 < x.kids.length) := ⟨ex_ops h,fun h1 => (ex_one h h1).1,fun h1 => (ex_two h h1.1 h1.2.1 h1.2.2).1⟩
theorem exKid0 {d : Nat} {x : Ex} (h : exB d x = true) (h0 : ¬ x.op = 0) : exB (d - 1) (x.kid 0) = true := by
  by_cases h1 : x.op = 1 ∨ 8 ≤ x.op ∧ x.op ≤ 10
  · exact (ex_one h h1).2
  exact (ex_two h h0 (by omega) (by omega)).2.1
theorem r6_expr_step (d : Nat) (x : Ex) (A : Option Addr) (c : Nat) (w : World) (ho : x.okc c) (hr : Row RE 6 w A x.kids) (hd : d ≤ 8) (hb : exB d x = true) (ih : d ≠ 0 → ∀ (j : Nat) (y : Ex),x.kids[j]? = some y → exB (d - 1) y = true → ∀ (A : Option Addr) (c : Nat) (w : World),y.okc c → Row RE 6 w A y.kids → Rt Tryz.prog 73 #[.agg #[.int .i8 y.op,.string y.t.v,.int .i8 y.t.l.k,.int .i64 y.t.l.n,.string y.t.l.s,.slice A y.kids.length c]] w fun v w' => v = .string (exW (d - 1) y) ∧ Ext w w') :
    Rt Tryz.prog 73 #[.agg #[.int .i8 x.op,.string x.t.v,.int .i8 x.t.l.k,.int .i64 x.t.l.n,.string x.t.l.s,.slice A x.kids.length c]] w fun v w' => v = .string (exW d x) ∧ Ext w w' := by
  refine enter Tryz.func73 rfl (l := [.agg #[.int .i8 x.op,.string x.t.v,.int .i8 x.t.l.k,.int .i64 x.t.l.n,.string x.t.l.s,.slice A x.kids.length c]]) rfl Tryz.ntmps73 (Nat.le_of_ble_eq_true rfl) ?_
  have hl_ := Ex.okc.l ho
  have hc_ := Ex.okc.c ho
  have hk_ := Go.Wk.Row.ok hr ho.t
  have ⟨hd0_,_,_⟩ := exB_parts hb
  obtain ⟨ho1_,ho2_,ho3_⟩ := exOp hb
  have hw1_ := wordW_size x.op
  have hw2_ := signW_size x.op
  refine c_seq (c_reg (s_box (v := .agg #[.int .i8 x.op,.string x.t.v,.int .i8 x.t.l.k,.int .i64 x.t.l.n,.string x.t.l.s,.slice A x.kids.length c]) (cs := #[.int .i8 x.op,.string x.t.v,.int .i8 x.t.l.k,.int .i64 x.t.l.n,.string x.t.l.s,.slice A x.kids.length c]) (w0 rfl) (ej rfl rfl) rfl ?_))
  intro w2 g1 n3
  refine s_assign (v := .string (⟨#[]⟩ : ByteArray)) ev_c (w0 rfl) (c_done (n_then (c_seq (c_seq (c_reg (s_field (off := 0) (o' := 0) F_f36_0 (ej rfl rfl) rfl (w0 rfl) (s_load (v := .int .i8 x.op) F_o28 (ej rfl rfl) (cell_of_blk (i := 0) (NewB.blk n3) rfl) (w0 rfl) (c_done (n_then (c_block (c_seq ?_)))))))))))
  refine c_reg (s_cmp (r := decide (x.op = 0)) (ej rfl rfl) ev_c rfl (w0 rfl) (s_assign (v := .bool (decide (x.op = 0))) (ej rfl rfl) (w0 rfl) (c_done (n_then ?_))))
  by_cases h4 : x.op = 0
  · refine c_cond1 (vb (ej rfl rfl) (decide_eq_true h4)) (c_seq (c_reg (s_field (off := 1) (o' := 1) F_f36_1 (ej rfl rfl) rfl (w0 rfl) (s_loadL (cs := [.string x.t.v,.int .i8 x.t.l.k,.int .i64 x.t.l.n,.string x.t.l.s]) F_m33 (ej rfl rfl) rfl rfl (blk_cells (NewB.blk n3) 1 rfl) (w0 rfl) (s_call F_e62 (w0 rfl) ev_f (m1 (ej rfl rfl)) (args := #[.agg #[.string x.t.v,.int .i8 x.t.l.k,.int .i64 x.t.l.n,.string x.t.l.s]]) rfl (r6_term x.t _ (Ex.okc.t ho)) ?_)))))
    rintro _ w6 ⟨rfl,x5⟩
    refine s_assign (v := .string (termW x.t)) (ej rfl rfl) (w0 rfl) (c_done (n_then (c_ret (r_block (r_then (ret1 (v := .string (termW x.t)) rfl rfl rfl ?_))))))
    refine ⟨_,rfl,?_,(Ext.trans (NewB.ext n3) x5)⟩
    (refine congrArg Value.string ?_; rw [exW_pos hd0_]; first | (rw [if_pos (by omega)]; done) | (rw [if_neg (by omega),if_pos (by omega)]; done) | (rw [if_neg (by omega),if_neg (by omega),if_pos (by omega)]; refine congrArg _ (congrArg (fun b => inB b _) ?_); simp [numB, *]; done) | (rw [if_neg (by omega),if_neg (by omega),if_neg (by omega)]; done))
  refine c_cond0 (vb (ej rfl rfl) (decide_eq_false h4)) (c_seq (c_seq (c_reg (s_cmp (r := decide (x.op = 8)) (ej rfl rfl) ev_c rfl (w0 rfl) (s_assign (v := .bool (decide (x.op = 8))) (ej rfl rfl) (w0 rfl) (c_done (n_then ?_)))))))
  by_cases h7 : x.op = 8
  · refine c_cond1 (vb (ej rfl rfl) (decide_eq_true h7)) (c_skip (n_then (c_cond1 (vb (ej rfl rfl) (decide_eq_true h7)) (c_seq (c_quiet mixed (by kernel_rfl) (q_val (v := .pointer (some ⟨g1,0,none⟩)) (w0 rfl) (fun w_ c_ => r_field (off := 0) (o' := 0) F_f36_0 (ej rfl rfl) rfl) (q_val (v := .int .i8 x.op) (w0 rfl) (fun w_ c_ => r_load (v := .int .i8 x.op) F_o28 (ej rfl rfl) (cell_of_blk (i := 0) (Ext.blk c_ (NewB.blk n3)) rfl)) (q_call (v := .string (wordW x.op)) F_e109 (w0 rfl) ev_f (m1 (ej rfl rfl)) (args := #[.int .i8 x.op]) rfl (fun w_ c_ => Rt.mono (r6_word x.op _) (fun v_ w2_ h_ => ⟨h_.1,Ext.trans c_ h_.2⟩)) (q_val (v := .string (wordW x.op ++ (⟨#[40]⟩ : ByteArray))) (w0 rfl) (fun w_ c_ => r_cat (ej rfl rfl) ev_c (by simp only [ByteArray.size_append,z0,z1,z2,z3,z4,z5,z6]; omega)) (q_val (v := .pointer (some ⟨g1,5,none⟩)) (w0 rfl) (fun w_ c_ => r_field (off := 5) (o' := 5) F_f36_2 (ej rfl rfl) rfl) (q_val (v := .slice A x.kids.length c) (w0 rfl) (fun w_ c_ => r_load (v := .slice A x.kids.length c) F_o34 (ej rfl rfl) (cell_of_blk (i := 5) (Ext.blk c_ (NewB.blk n3)) rfl)) ?_)))))))))))
    obtain ⟨b8,o9,x10,csx10,hA11,hx12,hR13,hc14⟩ := Row.at_ hr 0 (by omega)
    obtain rfl := Ex.kid_of hx12
    obtain ⟨A15,c16,rfl,ho17,hr18⟩ := RE.open_ hR13
    refine q_val (v := .pointer (some ⟨b8,o9 + 0 * 6,none⟩)) (w0 rfl) (fun w_ c_ => r_indexR (j := 0) F_l34 (ej rfl rfl) hA11 ev_c rfl (by omega)) (q_val (v := .agg #[.int .i8 ((x.kid 0).op),.string ((x.kid 0).t.v),.int .i8 ((x.kid 0).t.l.k),.int .i64 ((x.kid 0).t.l.n),.string ((x.kid 0).t.l.s),.slice A15 ((x.kid 0).kids.length) c16]) (w0 rfl) (fun w_ c_ => r_loadL (cs := [.int .i8 ((x.kid 0).op),.string ((x.kid 0).t.v),.int .i8 ((x.kid 0).t.l.k),.int .i64 ((x.kid 0).t.l.n),.string ((x.kid 0).t.l.s),.slice A15 ((x.kid 0).kids.length) c16]) F_m36 (ej rfl rfl) rfl rfl (sub_cells (cells_ext c_ (cells_ext (NewB.ext n3) hc14)) 0 rfl)) ?_)
    have hz19 := exW_le (d := d - 1) (by omega) (exKid0 hb (by omega)) (Ex.Ok.kid hk_ (kid_there (x := x) (j := 0) (by omega)))
    refine q_call (v := .string (exW (d - 1) (x.kid 0))) F_e73 (w0 rfl) ev_f (m1 (ej rfl rfl)) (args := #[.agg #[.int .i8 ((x.kid 0).op),.string ((x.kid 0).t.v),.int .i8 ((x.kid 0).t.l.k),.int .i64 ((x.kid 0).t.l.n),.string ((x.kid 0).t.l.s),.slice A15 ((x.kid 0).kids.length) c16]]) rfl (fun w_ c_ => Rt.mono (ih (by omega) 0 _ (kid_there (x := x) (j := 0) (by omega)) (exKid0 hb (by omega)) A15 c16 _ ho17 (Row.extE (Row.extE hr18 (NewB.ext n3)) c_)) (fun v_ w2_ h_ => ⟨h_.1,Ext.trans c_ h_.2⟩)) (q_val (v := .string (wordW x.op ++ (⟨#[40]⟩ : ByteArray) ++ (exW (d - 1) (x.kid 0)))) (w0 rfl) (fun w_ c_ => r_cat (ej rfl rfl) (ej rfl rfl) (by simp only [ByteArray.size_append,z0,z1,z2,z3,z4,z5,z6]; omega)) (q_val (v := .string (wordW x.op ++ (⟨#[40]⟩ : ByteArray) ++ (exW (d - 1) (x.kid 0)) ++ (⟨#[41]⟩ : ByteArray))) (w0 rfl) (fun w_ c_ => r_cat (ej rfl rfl) ev_c (by simp only [ByteArray.size_append,z0,z1,z2,z3,z4,z5,z6]; omega)) (q_val (v := .string (wordW x.op ++ (⟨#[40]⟩ : ByteArray) ++ (exW (d - 1) (x.kid 0)) ++ (⟨#[41]⟩ : ByteArray))) (w0 rfl) (fun w_ c_ => r_assign (v := .string (wordW x.op ++ (⟨#[40]⟩ : ByteArray) ++ (exW (d - 1) (x.kid 0)) ++ (⟨#[41]⟩ : ByteArray))) (ej rfl rfl)) (q_done ?_))))
    intro w20 x21
    refine n_then (c_ret (r_block (r_then (ret1 (v := .string (wordW x.op ++ (⟨#[40]⟩ : ByteArray) ++ (exW (d - 1) (x.kid 0)) ++ (⟨#[41]⟩ : ByteArray))) rfl rfl rfl ?_))))
    refine ⟨_,rfl,?_,(Ext.trans (NewB.ext n3) x21)⟩
    (refine congrArg Value.string ?_; rw [exW_pos hd0_]; first | (rw [if_pos (by omega)]; done) | (rw [if_neg (by omega),if_pos (by omega)]; done) | (rw [if_neg (by omega),if_neg (by omega),if_pos (by omega)]; refine congrArg _ (congrArg (fun b => inB b _) ?_); simp [numB, *]; done) | (rw [if_neg (by omega),if_neg (by omega),if_neg (by omega)]; done))
  refine c_cond0 (vb (ej rfl rfl) (decide_eq_false h7)) (c_seq (c_reg (s_cmp (r := decide (x.op = 9)) (ej rfl rfl) ev_c rfl (w0 rfl) (s_assign (v := .bool (decide (x.op = 9))) (ej rfl rfl) (w0 rfl) (c_done (n_then ?_))))))
  by_cases h22 : x.op = 9
  · refine c_cond1 (vb (ej rfl rfl) (decide_eq_true h22)) (c_skip (n_then (c_cond1 (vb (ej rfl rfl) (decide_eq_true h22)) (c_seq (c_quiet mixed (by kernel_rfl) (q_val (v := .pointer (some ⟨g1,0,none⟩)) (w0 rfl) (fun w_ c_ => r_field (off := 0) (o' := 0) F_f36_0 (ej rfl rfl) rfl) (q_val (v := .int .i8 x.op) (w0 rfl) (fun w_ c_ => r_load (v := .int .i8 x.op) F_o28 (ej rfl rfl) (cell_of_blk (i := 0) (Ext.blk c_ (NewB.blk n3)) rfl)) (q_call (v := .string (wordW x.op)) F_e109 (w0 rfl) ev_f (m1 (ej rfl rfl)) (args := #[.int .i8 x.op]) rfl (fun w_ c_ => Rt.mono (r6_word x.op _) (fun v_ w2_ h_ => ⟨h_.1,Ext.trans c_ h_.2⟩)) (q_val (v := .string (wordW x.op ++ (⟨#[40]⟩ : ByteArray))) (w0 rfl) (fun w_ c_ => r_cat (ej rfl rfl) ev_c (by simp only [ByteArray.size_append,z0,z1,z2,z3,z4,z5,z6]; omega)) (q_val (v := .pointer (some ⟨g1,5,none⟩)) (w0 rfl) (fun w_ c_ => r_field (off := 5) (o' := 5) F_f36_2 (ej rfl rfl) rfl) (q_val (v := .slice A x.kids.length c) (w0 rfl) (fun w_ c_ => r_load (v := .slice A x.kids.length c) F_o34 (ej rfl rfl) (cell_of_blk (i := 5) (Ext.blk c_ (NewB.blk n3)) rfl)) ?_)))))))))))
    obtain ⟨b23,o24,x25,csx25,hA26,hx27,hR28,hc29⟩ := Row.at_ hr 0 (by omega)
    obtain rfl := Ex.kid_of hx27
    obtain ⟨A30,c31,rfl,ho32,hr33⟩ := RE.open_ hR28
    refine q_val (v := .pointer (some ⟨b23,o24 + 0 * 6,none⟩)) (w0 rfl) (fun w_ c_ => r_indexR (j := 0) F_l34 (ej rfl rfl) hA26 ev_c rfl (by omega)) (q_val (v := .agg #[.int .i8 ((x.kid 0).op),.string ((x.kid 0).t.v),.int .i8 ((x.kid 0).t.l.k),.int .i64 ((x.kid 0).t.l.n),.string ((x.kid 0).t.l.s),.slice A30 ((x.kid 0).kids.length) c31]) (w0 rfl) (fun w_ c_ => r_loadL (cs := [.int .i8 ((x.kid 0).op),.string ((x.kid 0).t.v),.int .i8 ((x.kid 0).t.l.k),.int .i64 ((x.kid 0).t.l.n),.string ((x.kid 0).t.l.s),.slice A30 ((x.kid 0).kids.length) c31]) F_m36 (ej rfl rfl) rfl rfl (sub_cells (cells_ext c_ (cells_ext (NewB.ext n3) hc29)) 0 rfl)) ?_)
    have hz34 := exW_le (d := d - 1) (by omega) (exKid0 hb (by omega)) (Ex.Ok.kid hk_ (kid_there (x := x) (j := 0) (by omega)))
    refine q_call (v := .string (exW (d - 1) (x.kid 0))) F_e73 (w0 rfl) ev_f (m1 (ej rfl rfl)) (args := #[.agg #[.int .i8 ((x.kid 0).op),.string ((x.kid 0).t.v),.int .i8 ((x.kid 0).t.l.k),.int .i64 ((x.kid 0).t.l.n),.string ((x.kid 0).t.l.s),.slice A30 ((x.kid 0).kids.length) c31]]) rfl (fun w_ c_ => Rt.mono (ih (by omega) 0 _ (kid_there (x := x) (j := 0) (by omega)) (exKid0 hb (by omega)) A30 c31 _ ho32 (Row.extE (Row.extE hr33 (NewB.ext n3)) c_)) (fun v_ w2_ h_ => ⟨h_.1,Ext.trans c_ h_.2⟩)) (q_val (v := .string (wordW x.op ++ (⟨#[40]⟩ : ByteArray) ++ (exW (d - 1) (x.kid 0)))) (w0 rfl) (fun w_ c_ => r_cat (ej rfl rfl) (ej rfl rfl) (by simp only [ByteArray.size_append,z0,z1,z2,z3,z4,z5,z6]; omega)) (q_val (v := .string (wordW x.op ++ (⟨#[40]⟩ : ByteArray) ++ (exW (d - 1) (x.kid 0)) ++ (⟨#[41]⟩ : ByteArray))) (w0 rfl) (fun w_ c_ => r_cat (ej rfl rfl) ev_c (by simp only [ByteArray.size_append,z0,z1,z2,z3,z4,z5,z6]; omega)) (q_val (v := .string (wordW x.op ++ (⟨#[40]⟩ : ByteArray) ++ (exW (d - 1) (x.kid 0)) ++ (⟨#[41]⟩ : ByteArray))) (w0 rfl) (fun w_ c_ => r_assign (v := .string (wordW x.op ++ (⟨#[40]⟩ : ByteArray) ++ (exW (d - 1) (x.kid 0)) ++ (⟨#[41]⟩ : ByteArray))) (ej rfl rfl)) (q_done ?_))))
    intro w35 x36
    refine n_then (c_ret (r_block (r_then (ret1 (v := .string (wordW x.op ++ (⟨#[40]⟩ : ByteArray) ++ (exW (d - 1) (x.kid 0)) ++ (⟨#[41]⟩ : ByteArray))) rfl rfl rfl ?_))))
    refine ⟨_,rfl,?_,(Ext.trans (NewB.ext n3) x36)⟩
    (refine congrArg Value.string ?_; rw [exW_pos hd0_]; first | (rw [if_pos (by omega)]; done) | (rw [if_neg (by omega),if_pos (by omega)]; done) | (rw [if_neg (by omega),if_neg (by omega),if_pos (by omega)]; refine congrArg _ (congrArg (fun b => inB b _) ?_); simp [numB, *]; done) | (rw [if_neg (by omega),if_neg (by omega),if_neg (by omega)]; done))
  refine c_cond0 (vb (ej rfl rfl) (decide_eq_false h22)) (c_reg (s_cmp (r := decide (x.op = 10)) (ej rfl rfl) ev_c rfl (w0 rfl) (s_assign (v := .bool (decide (x.op = 10))) (ej rfl rfl) (w0 rfl) (c_done (n_then ?_)))))
  by_cases h37 : x.op = 10
  · refine c_cond1 (vb (ej rfl rfl) (decide_eq_true h37)) (c_seq (c_quiet mixed (by kernel_rfl) (q_val (v := .pointer (some ⟨g1,0,none⟩)) (w0 rfl) (fun w_ c_ => r_field (off := 0) (o' := 0) F_f36_0 (ej rfl rfl) rfl) (q_val (v := .int .i8 x.op) (w0 rfl) (fun w_ c_ => r_load (v := .int .i8 x.op) F_o28 (ej rfl rfl) (cell_of_blk (i := 0) (Ext.blk c_ (NewB.blk n3)) rfl)) (q_call (v := .string (wordW x.op)) F_e109 (w0 rfl) ev_f (m1 (ej rfl rfl)) (args := #[.int .i8 x.op]) rfl (fun w_ c_ => Rt.mono (r6_word x.op _) (fun v_ w2_ h_ => ⟨h_.1,Ext.trans c_ h_.2⟩)) (q_val (v := .string (wordW x.op ++ (⟨#[40]⟩ : ByteArray))) (w0 rfl) (fun w_ c_ => r_cat (ej rfl rfl) ev_c (by simp only [ByteArray.size_append,z0,z1,z2,z3,z4,z5,z6]; omega)) (q_val (v := .pointer (some ⟨g1,5,none⟩)) (w0 rfl) (fun w_ c_ => r_field (off := 5) (o' := 5) F_f36_2 (ej rfl rfl) rfl) (q_val (v := .slice A x.kids.length c) (w0 rfl) (fun w_ c_ => r_load (v := .slice A x.kids.length c) F_o34 (ej rfl rfl) (cell_of_blk (i := 5) (Ext.blk c_ (NewB.blk n3)) rfl)) ?_))))))))
    obtain ⟨b38,o39,x40,csx40,hA41,hx42,hR43,hc44⟩ := Row.at_ hr 0 (by omega)
    obtain rfl := Ex.kid_of hx42
    obtain ⟨A45,c46,rfl,ho47,hr48⟩ := RE.open_ hR43
    refine q_val (v := .pointer (some ⟨b38,o39 + 0 * 6,none⟩)) (w0 rfl) (fun w_ c_ => r_indexR (j := 0) F_l34 (ej rfl rfl) hA41 ev_c rfl (by omega)) (q_val (v := .agg #[.int .i8 ((x.kid 0).op),.string ((x.kid 0).t.v),.int .i8 ((x.kid 0).t.l.k),.int .i64 ((x.kid 0).t.l.n),.string ((x.kid 0).t.l.s),.slice A45 ((x.kid 0).kids.length) c46]) (w0 rfl) (fun w_ c_ => r_loadL (cs := [.int .i8 ((x.kid 0).op),.string ((x.kid 0).t.v),.int .i8 ((x.kid 0).t.l.k),.int .i64 ((x.kid 0).t.l.n),.string ((x.kid 0).t.l.s),.slice A45 ((x.kid 0).kids.length) c46]) F_m36 (ej rfl rfl) rfl rfl (sub_cells (cells_ext c_ (cells_ext (NewB.ext n3) hc44)) 0 rfl)) ?_)
    have hz49 := exW_le (d := d - 1) (by omega) (exKid0 hb (by omega)) (Ex.Ok.kid hk_ (kid_there (x := x) (j := 0) (by omega)))
    refine q_call (v := .string (exW (d - 1) (x.kid 0))) F_e73 (w0 rfl) ev_f (m1 (ej rfl rfl)) (args := #[.agg #[.int .i8 ((x.kid 0).op),.string ((x.kid 0).t.v),.int .i8 ((x.kid 0).t.l.k),.int .i64 ((x.kid 0).t.l.n),.string ((x.kid 0).t.l.s),.slice A45 ((x.kid 0).kids.length) c46]]) rfl (fun w_ c_ => Rt.mono (ih (by omega) 0 _ (kid_there (x := x) (j := 0) (by omega)) (exKid0 hb (by omega)) A45 c46 _ ho47 (Row.extE (Row.extE hr48 (NewB.ext n3)) c_)) (fun v_ w2_ h_ => ⟨h_.1,Ext.trans c_ h_.2⟩)) (q_val (v := .string (wordW x.op ++ (⟨#[40]⟩ : ByteArray) ++ (exW (d - 1) (x.kid 0)))) (w0 rfl) (fun w_ c_ => r_cat (ej rfl rfl) (ej rfl rfl) (by simp only [ByteArray.size_append,z0,z1,z2,z3,z4,z5,z6]; omega)) (q_val (v := .string (wordW x.op ++ (⟨#[40]⟩ : ByteArray) ++ (exW (d - 1) (x.kid 0)) ++ (⟨#[41]⟩ : ByteArray))) (w0 rfl) (fun w_ c_ => r_cat (ej rfl rfl) ev_c (by simp only [ByteArray.size_append,z0,z1,z2,z3,z4,z5,z6]; omega)) (q_val (v := .string (wordW x.op ++ (⟨#[40]⟩ : ByteArray) ++ (exW (d - 1) (x.kid 0)) ++ (⟨#[41]⟩ : ByteArray))) (w0 rfl) (fun w_ c_ => r_assign (v := .string (wordW x.op ++ (⟨#[40]⟩ : ByteArray) ++ (exW (d - 1) (x.kid 0)) ++ (⟨#[41]⟩ : ByteArray))) (ej rfl rfl)) (q_done ?_))))
    intro w50 x51
    refine n_then (c_ret (r_block (r_then (ret1 (v := .string (wordW x.op ++ (⟨#[40]⟩ : ByteArray) ++ (exW (d - 1) (x.kid 0)) ++ (⟨#[41]⟩ : ByteArray))) rfl rfl rfl ?_))))
    refine ⟨_,rfl,?_,(Ext.trans (NewB.ext n3) x51)⟩
    (refine congrArg Value.string ?_; rw [exW_pos hd0_]; first | (rw [if_pos (by omega)]; done) | (rw [if_neg (by omega),if_pos (by omega)]; done) | (rw [if_neg (by omega),if_neg (by omega),if_pos (by omega)]; refine congrArg _ (congrArg (fun b => inB b _) ?_); simp [numB, *]; done) | (rw [if_neg (by omega),if_neg (by omega),if_neg (by omega)]; done))
  refine c_cond0 (vb (ej rfl rfl) (decide_eq_false h37)) (c_seq (c_reg (s_cmp (r := decide (x.op = 1)) (ej rfl rfl) ev_c rfl (w0 rfl) (s_assign (v := .bool (decide (x.op = 1))) (ej rfl rfl) (w0 rfl) (c_done (n_then ?_))))))
  by_cases h52 : x.op = 1
  · refine c_cond1 (vb (ej rfl rfl) (decide_eq_true h52)) (c_seq (c_reg (s_field (off := 5) (o' := 5) F_f36_2 (ej rfl rfl) rfl (w0 rfl) (s_load (v := .slice A x.kids.length c) F_o34 (ej rfl rfl) (cell_of_blk (i := 5) (NewB.blk n3) rfl) (w0 rfl) ?_))))
    obtain ⟨b53,o54,x55,csx55,hA56,hx57,hR58,hc59⟩ := Row.at_ hr 0 (by omega)
    obtain rfl := Ex.kid_of hx57
    obtain ⟨A60,c61,rfl,ho62,hr63⟩ := RE.open_ hR58
    refine s_indexR (j := 0) F_l34 (ej rfl rfl) hA56 ev_c rfl (by omega) (w0 rfl) (s_loadL (cs := [.int .i8 ((x.kid 0).op),.string ((x.kid 0).t.v),.int .i8 ((x.kid 0).t.l.k),.int .i64 ((x.kid 0).t.l.n),.string ((x.kid 0).t.l.s),.slice A60 ((x.kid 0).kids.length) c61]) F_m36 (ej rfl rfl) rfl rfl (sub_cells (cells_ext (NewB.ext n3) hc59) 0 rfl) (w0 rfl) (s_alloc (cs := #[.int .i8 0,.string (⟨#[]⟩ : ByteArray),.int .i8 0,.int .i64 0,.string (⟨#[]⟩ : ByteArray),.slice none 0 0]) (w0 rfl) F_z36 rfl ?_))
    intro w65 g64 n66
    refine s_store (cs' := #[.int .i8 ((x.kid 0).op),.string ((x.kid 0).t.v),.int .i8 ((x.kid 0).t.l.k),.int .i64 ((x.kid 0).t.l.n),.string ((x.kid 0).t.l.s),.slice A60 ((x.kid 0).kids.length) c61]) F_sz36 (ej rfl rfl) (ej rfl rfl) (l := [.int .i8 ((x.kid 0).op),.string ((x.kid 0).t.v),.int .i8 ((x.kid 0).t.l.k),.int .i64 ((x.kid 0).t.l.n),.string ((x.kid 0).t.l.s),.slice A60 ((x.kid 0).kids.length) c61]) rfl rfl rfl (NewB.blk n66) (Nat.le_of_ble_eq_true rfl) rfl (w0 rfl) ?_
    intro w67 k68
    refine c_done (n_then (c_seq (c_reg (s_field (off := 0) (o' := 0) F_f36_0 (ej rfl rfl) rfl (w0 rfl) (s_load (v := .int .i8 ((x.kid 0).op)) F_o28 (ej rfl rfl) (cell_of_blk (i := 0) (Wrote.blk k68) rfl) (w0 rfl) (s_cmp (r := decide ((x.kid 0).op = 0)) (ej rfl rfl) ev_c rfl (w0 rfl) ?_))))))
    by_cases h69 : (x.kid 0).op = 0
    · refine s_move (v := .bool true) (vb (ej rfl rfl) (decide_eq_true h69)) (w0 rfl) (s_field (off := 1) (o' := 1) F_f36_1 (ej rfl rfl) rfl (wy rfl rfl rfl rfl) (s_field (off := 0) (o' := 1) F_f33_0 (ej rfl rfl) rfl (wy rfl rfl rfl rfl) (s_load (v := .string ((x.kid 0).t.v)) F_o9 (ej rfl rfl) (cell_of_blk (i := 1) (Wrote.blk k68) rfl) (wy rfl rfl rfl rfl) (s_cmpS (r := decide ((x.kid 0).t.v = (⟨#[]⟩ : ByteArray))) (ej rfl rfl) ev_c rfl (wy rfl rfl rfl rfl) (s_pick1 (v := .bool (decide ((x.kid 0).t.v = (⟨#[]⟩ : ByteArray)))) (ej rfl rfl) (ej rfl rfl) (w0 rfl) ?_)))))
      by_cases h70 : (x.kid 0).t.v = (⟨#[]⟩ : ByteArray)
      · refine s_move (v := .bool true) (vb (ej rfl rfl) (decide_eq_true h70)) (w0 rfl) (s_field (off := 1) (o' := 1) F_f36_1 (ej rfl rfl) rfl (wy rfl rfl rfl rfl) (s_field (off := 1) (o' := 2) F_f33_1 (ej rfl rfl) rfl (wy rfl rfl rfl rfl) (s_field (off := 0) (o' := 2) F_f31_0 (ej rfl rfl) rfl (wy rfl rfl rfl rfl) (s_load (v := .int .i8 ((x.kid 0).t.l.k)) F_o29 (ej rfl rfl) (cell_of_blk (i := 2) (Wrote.blk k68) rfl) (wy rfl rfl rfl rfl) (s_cmp (r := decide ((x.kid 0).t.l.k = 1)) (ej rfl rfl) ev_c rfl (wy rfl rfl rfl rfl) (s_pick1 (v := .bool (decide ((x.kid 0).t.l.k = 1))) (ej rfl rfl) (ej rfl rfl) (w0 rfl) ?_))))))
        by_cases h71 : (x.kid 0).t.l.k = 1
        · refine s_move (v := .bool true) (vb (ej rfl rfl) (decide_eq_true h71)) (w0 rfl) (s_field (off := 1) (o' := 1) F_f36_1 (ej rfl rfl) rfl (wy rfl rfl rfl rfl) (s_field (off := 1) (o' := 2) F_f33_1 (ej rfl rfl) rfl (wy rfl rfl rfl rfl) (s_field (off := 1) (o' := 3) F_f31_1 (ej rfl rfl) rfl (wy rfl rfl rfl rfl) (s_load (v := .int .i64 ((x.kid 0).t.l.n)) F_o2 (ej rfl rfl) (cell_of_blk (i := 3) (Wrote.blk k68) rfl) (wy rfl rfl rfl rfl) (s_cmp (r := decide (0 ≤ (x.kid 0).t.l.n)) (ej rfl rfl) ev_c rfl (wy rfl rfl rfl rfl) (s_pick1 (v := .bool (decide (0 ≤ (x.kid 0).t.l.n))) (ej rfl rfl) (ej rfl rfl) (w0 rfl) (s_assign (v := .bool (decide (0 ≤ (x.kid 0).t.l.n))) (ej rfl rfl) (w0 rfl) (c_done (n_then (c_seq (c_quiet mixed (by kernel_rfl) ?_)))))))))))
          refine q_val (v := .agg #[.int .i8 ((x.kid 0).op),.string ((x.kid 0).t.v),.int .i8 ((x.kid 0).t.l.k),.int .i64 ((x.kid 0).t.l.n),.string ((x.kid 0).t.l.s),.slice A60 ((x.kid 0).kids.length) c61]) (w0 rfl) (fun w_ c_ => r_loadL (cs := [.int .i8 ((x.kid 0).op),.string ((x.kid 0).t.v),.int .i8 ((x.kid 0).t.l.k),.int .i64 ((x.kid 0).t.l.n),.string ((x.kid 0).t.l.s),.slice A60 ((x.kid 0).kids.length) c61]) F_m36 (ej rfl rfl) rfl rfl (blk_cells (Ext.blk c_ (Wrote.blk k68)) 0 rfl)) (q_val (v := .agg #[.int .i8 ((x.kid 0).op),.string ((x.kid 0).t.v),.int .i8 ((x.kid 0).t.l.k),.int .i64 ((x.kid 0).t.l.n),.string ((x.kid 0).t.l.s),.slice A60 ((x.kid 0).kids.length) c61]) (w0 rfl) (fun w_ c_ => r_loadL (cs := [.int .i8 ((x.kid 0).op),.string ((x.kid 0).t.v),.int .i8 ((x.kid 0).t.l.k),.int .i64 ((x.kid 0).t.l.n),.string ((x.kid 0).t.l.s),.slice A60 ((x.kid 0).kids.length) c61]) F_m36 (ej rfl rfl) rfl rfl (blk_cells (Ext.blk c_ (Wrote.blk k68)) 0 rfl)) (q_call (v := .int .i64 (fast (x.kid 0))) F_e111 (w0 rfl) ev_f (m1 (ej rfl rfl)) (args := #[.agg #[.int .i8 ((x.kid 0).op),.string ((x.kid 0).t.v),.int .i8 ((x.kid 0).t.l.k),.int .i64 ((x.kid 0).t.l.n),.string ((x.kid 0).t.l.s),.slice A60 ((x.kid 0).kids.length) c61]]) rfl (fun w_ c_ => Rt.mono (r6_Fast (x.kid 0) A60 c61 _ ho62 (Row.extE hr63 (Ext.trans (Keep.then_ (Ext.trans (NewB.ext n3) (NewB.ext n66)) (Wrote.keep k68) (fun i_ hi_ h_ => by have a_ := NewB.eq n66; have b_ := Keep.size (NewB.ext n3); omega)) c_))) (fun v_ w2_ h_ => ⟨h_.1,Ext.trans c_ h_.2⟩)) (q_val (v := .bool (decide (fast (x.kid 0) < 3))) (w0 rfl) (fun w_ c_ => r_cmp (r := decide (fast (x.kid 0) < 3)) (ej rfl rfl) ev_c rfl) ?_)))
          by_cases h72 : fast (x.kid 0) < 3
          · refine q_val (v := .bool true) (w0 rfl) (fun w_ c_ => r_move (v := .bool true) (vb (ej rfl rfl) (decide_eq_true h72))) (q_skip (wn rfl rfl rfl rfl rfl) (q_val (v := .bool true) (w0 rfl) (fun w_ c_ => r_pick1 (v := .bool true) (ej rfl rfl) ev_c) ?_))
            have hz73 := exW_le (d := d - 1) (by omega) (exKid0 hb (by omega)) (Ex.Ok.kid hk_ (kid_there (x := x) (j := 0) (by omega)))
            have hz73_ := inB_size true (exW (d - 1) (x.kid 0))
            refine q_call (v := .string (inB true (exW (d - 1) (x.kid 0)))) F_e110 (w0 rfl) ev_f (m2 (ej rfl rfl) (ej rfl rfl)) (args := #[.agg #[.int .i8 ((x.kid 0).op),.string ((x.kid 0).t.v),.int .i8 ((x.kid 0).t.l.k),.int .i64 ((x.kid 0).t.l.n),.string ((x.kid 0).t.l.s),.slice A60 ((x.kid 0).kids.length) c61],.bool true]) rfl (fun w_ c_ => Rt.mono (r6_within (d - 1) (x.kid 0) A60 c61 true _ ho62 (Row.extE hr63 (Ext.trans (Keep.then_ (Ext.trans (NewB.ext n3) (NewB.ext n66)) (Wrote.keep k68) (fun i_ hi_ h_ => by have a_ := NewB.eq n66; have b_ := Keep.size (NewB.ext n3); omega)) c_)) (ih (by omega) 0 _ (kid_there (x := x) (j := 0) (by omega)) (exKid0 hb (by omega))) hz73) (fun v_ w2_ h_ => ⟨h_.1,Ext.trans c_ h_.2⟩)) (q_val (v := .string ((⟨#[45]⟩ : ByteArray) ++ (inB true (exW (d - 1) (x.kid 0))))) (w0 rfl) (fun w_ c_ => r_cat ev_c (ej rfl rfl) (by simp only [ByteArray.size_append,z0,z1,z2,z3,z4,z5,z6]; omega)) (q_val (v := .string ((⟨#[45]⟩ : ByteArray) ++ (inB true (exW (d - 1) (x.kid 0))))) (w0 rfl) (fun w_ c_ => r_assign (v := .string ((⟨#[45]⟩ : ByteArray) ++ (inB true (exW (d - 1) (x.kid 0))))) (ej rfl rfl)) (q_done ?_)))
            intro w74 x75
            refine n_then (c_ret (r_block (r_then (ret1 (v := .string ((⟨#[45]⟩ : ByteArray) ++ (inB true (exW (d - 1) (x.kid 0))))) rfl rfl rfl ?_))))
            refine ⟨_,rfl,?_,(Ext.trans (Keep.then_ (Ext.trans (NewB.ext n3) (NewB.ext n66)) (Wrote.keep k68) (fun i_ hi_ h_ => by have a_ := NewB.eq n66; have b_ := Keep.size (NewB.ext n3); omega)) x75)⟩
            (refine congrArg Value.string ?_; rw [exW_pos hd0_]; first | (rw [if_pos (by omega)]; done) | (rw [if_neg (by omega),if_pos (by omega)]; done) | (rw [if_neg (by omega),if_neg (by omega),if_pos (by omega)]; refine congrArg _ (congrArg (fun b => inB b _) ?_); simp [numB, *]; done) | (rw [if_neg (by omega),if_neg (by omega),if_neg (by omega)]; done))
          refine q_val (v := .bool false) (w0 rfl) (fun w_ c_ => r_move (v := .bool false) (vb (ej rfl rfl) (decide_eq_false h72))) (q_val (v := .bool (decide (0 ≤ (x.kid 0).t.l.n))) (wy rfl rfl rfl rfl) (fun w_ c_ => r_move (v := .bool (decide (0 ≤ (x.kid 0).t.l.n))) (ej rfl rfl)) (q_val (v := .bool (decide (0 ≤ (x.kid 0).t.l.n))) (w0 rfl) (fun w_ c_ => r_pick0 (v := .bool (decide (0 ≤ (x.kid 0).t.l.n))) (ej rfl rfl) (ej rfl rfl)) ?_))
          have hz76 := exW_le (d := d - 1) (by omega) (exKid0 hb (by omega)) (Ex.Ok.kid hk_ (kid_there (x := x) (j := 0) (by omega)))
          have hz76_ := inB_size (decide (0 ≤ (x.kid 0).t.l.n)) (exW (d - 1) (x.kid 0))
          refine q_call (v := .string (inB (decide (0 ≤ (x.kid 0).t.l.n)) (exW (d - 1) (x.kid 0)))) F_e110 (w0 rfl) ev_f (m2 (ej rfl rfl) (ej rfl rfl)) (args := #[.agg #[.int .i8 ((x.kid 0).op),.string ((x.kid 0).t.v),.int .i8 ((x.kid 0).t.l.k),.int .i64 ((x.kid 0).t.l.n),.string ((x.kid 0).t.l.s),.slice A60 ((x.kid 0).kids.length) c61],.bool (decide (0 ≤ (x.kid 0).t.l.n))]) rfl (fun w_ c_ => Rt.mono (r6_within (d - 1) (x.kid 0) A60 c61 (decide (0 ≤ (x.kid 0).t.l.n)) _ ho62 (Row.extE hr63 (Ext.trans (Keep.then_ (Ext.trans (NewB.ext n3) (NewB.ext n66)) (Wrote.keep k68) (fun i_ hi_ h_ => by have a_ := NewB.eq n66; have b_ := Keep.size (NewB.ext n3); omega)) c_)) (ih (by omega) 0 _ (kid_there (x := x) (j := 0) (by omega)) (exKid0 hb (by omega))) hz76) (fun v_ w2_ h_ => ⟨h_.1,Ext.trans c_ h_.2⟩)) (q_val (v := .string ((⟨#[45]⟩ : ByteArray) ++ (inB (decide (0 ≤ (x.kid 0).t.l.n)) (exW (d - 1) (x.kid 0))))) (w0 rfl) (fun w_ c_ => r_cat ev_c (ej rfl rfl) (by simp only [ByteArray.size_append,z0,z1,z2,z3,z4,z5,z6]; omega)) (q_val (v := .string ((⟨#[45]⟩ : ByteArray) ++ (inB (decide (0 ≤ (x.kid 0).t.l.n)) (exW (d - 1) (x.kid 0))))) (w0 rfl) (fun w_ c_ => r_assign (v := .string ((⟨#[45]⟩ : ByteArray) ++ (inB (decide (0 ≤ (x.kid 0).t.l.n)) (exW (d - 1) (x.kid 0))))) (ej rfl rfl)) (q_done ?_)))
          intro w77 x78
          refine n_then (c_ret (r_block (r_then (ret1 (v := .string ((⟨#[45]⟩ : ByteArray) ++ (inB (decide (0 ≤ (x.kid 0).t.l.n)) (exW (d - 1) (x.kid 0))))) rfl rfl rfl ?_))))
          refine ⟨_,rfl,?_,(Ext.trans (Keep.then_ (Ext.trans (NewB.ext n3) (NewB.ext n66)) (Wrote.keep k68) (fun i_ hi_ h_ => by have a_ := NewB.eq n66; have b_ := Keep.size (NewB.ext n3); omega)) x78)⟩
          (refine congrArg Value.string ?_; rw [exW_pos hd0_]; first | (rw [if_pos (by omega)]; done) | (rw [if_neg (by omega),if_pos (by omega)]; done) | (rw [if_neg (by omega),if_neg (by omega),if_pos (by omega)]; refine congrArg _ (congrArg (fun b => inB b _) ?_); simp [numB, *]; done) | (rw [if_neg (by omega),if_neg (by omega),if_neg (by omega)]; done))
        refine s_move (v := .bool false) (vb (ej rfl rfl) (decide_eq_false h71)) (w0 rfl) (s_skip (wn rfl rfl rfl rfl rfl) (s_skip (wn rfl rfl rfl rfl rfl) (s_skip (wn rfl rfl rfl rfl rfl) (s_skip (wn rfl rfl rfl rfl rfl) (s_skip (wn rfl rfl rfl rfl rfl) (s_pick0 (v := .bool false) (ej rfl rfl) ev_c (w0 rfl) (s_assign (v := .bool false) (ej rfl rfl) (w0 rfl) (c_done (n_then (c_seq (c_quiet mixed (by kernel_rfl) ?_)))))))))))
        refine q_val (v := .agg #[.int .i8 ((x.kid 0).op),.string ((x.kid 0).t.v),.int .i8 ((x.kid 0).t.l.k),.int .i64 ((x.kid 0).t.l.n),.string ((x.kid 0).t.l.s),.slice A60 ((x.kid 0).kids.length) c61]) (w0 rfl) (fun w_ c_ => r_loadL (cs := [.int .i8 ((x.kid 0).op),.string ((x.kid 0).t.v),.int .i8 ((x.kid 0).t.l.k),.int .i64 ((x.kid 0).t.l.n),.string ((x.kid 0).t.l.s),.slice A60 ((x.kid 0).kids.length) c61]) F_m36 (ej rfl rfl) rfl rfl (blk_cells (Ext.blk c_ (Wrote.blk k68)) 0 rfl)) (q_val (v := .agg #[.int .i8 ((x.kid 0).op),.string ((x.kid 0).t.v),.int .i8 ((x.kid 0).t.l.k),.int .i64 ((x.kid 0).t.l.n),.string ((x.kid 0).t.l.s),.slice A60 ((x.kid 0).kids.length) c61]) (w0 rfl) (fun w_ c_ => r_loadL (cs := [.int .i8 ((x.kid 0).op),.string ((x.kid 0).t.v),.int .i8 ((x.kid 0).t.l.k),.int .i64 ((x.kid 0).t.l.n),.string ((x.kid 0).t.l.s),.slice A60 ((x.kid 0).kids.length) c61]) F_m36 (ej rfl rfl) rfl rfl (blk_cells (Ext.blk c_ (Wrote.blk k68)) 0 rfl)) (q_call (v := .int .i64 (fast (x.kid 0))) F_e111 (w0 rfl) ev_f (m1 (ej rfl rfl)) (args := #[.agg #[.int .i8 ((x.kid 0).op),.string ((x.kid 0).t.v),.int .i8 ((x.kid 0).t.l.k),.int .i64 ((x.kid 0).t.l.n),.string ((x.kid 0).t.l.s),.slice A60 ((x.kid 0).kids.length) c61]]) rfl (fun w_ c_ => Rt.mono (r6_Fast (x.kid 0) A60 c61 _ ho62 (Row.extE hr63 (Ext.trans (Keep.then_ (Ext.trans (NewB.ext n3) (NewB.ext n66)) (Wrote.keep k68) (fun i_ hi_ h_ => by have a_ := NewB.eq n66; have b_ := Keep.size (NewB.ext n3); omega)) c_))) (fun v_ w2_ h_ => ⟨h_.1,Ext.trans c_ h_.2⟩)) (q_val (v := .bool (decide (fast (x.kid 0) < 3))) (w0 rfl) (fun w_ c_ => r_cmp (r := decide (fast (x.kid 0) < 3)) (ej rfl rfl) ev_c rfl) ?_)))
        by_cases h79 : fast (x.kid 0) < 3
        · refine q_val (v := .bool true) (w0 rfl) (fun w_ c_ => r_move (v := .bool true) (vb (ej rfl rfl) (decide_eq_true h79))) (q_skip (wn rfl rfl rfl rfl rfl) (q_val (v := .bool true) (w0 rfl) (fun w_ c_ => r_pick1 (v := .bool true) (ej rfl rfl) ev_c) ?_))
          have hz80 := exW_le (d := d - 1) (by omega) (exKid0 hb (by omega)) (Ex.Ok.kid hk_ (kid_there (x := x) (j := 0) (by omega)))
          have hz80_ := inB_size true (exW (d - 1) (x.kid 0))
          refine q_call (v := .string (inB true (exW (d - 1) (x.kid 0)))) F_e110 (w0 rfl) ev_f (m2 (ej rfl rfl) (ej rfl rfl)) (args := #[.agg #[.int .i8 ((x.kid 0).op),.string ((x.kid 0).t.v),.int .i8 ((x.kid 0).t.l.k),.int .i64 ((x.kid 0).t.l.n),.string ((x.kid 0).t.l.s),.slice A60 ((x.kid 0).kids.length) c61],.bool true]) rfl (fun w_ c_ => Rt.mono (r6_within (d - 1) (x.kid 0) A60 c61 true _ ho62 (Row.extE hr63 (Ext.trans (Keep.then_ (Ext.trans (NewB.ext n3) (NewB.ext n66)) (Wrote.keep k68) (fun i_ hi_ h_ => by have a_ := NewB.eq n66; have b_ := Keep.size (NewB.ext n3); omega)) c_)) (ih (by omega) 0 _ (kid_there (x := x) (j := 0) (by omega)) (exKid0 hb (by omega))) hz80) (fun v_ w2_ h_ => ⟨h_.1,Ext.trans c_ h_.2⟩)) (q_val (v := .string ((⟨#[45]⟩ : ByteArray) ++ (inB true (exW (d - 1) (x.kid 0))))) (w0 rfl) (fun w_ c_ => r_cat ev_c (ej rfl rfl) (by simp only [ByteArray.size_append,z0,z1,z2,z3,z4,z5,z6]; omega)) (q_val (v := .string ((⟨#[45]⟩ : ByteArray) ++ (inB true (exW (d - 1) (x.kid 0))))) (w0 rfl) (fun w_ c_ => r_assign (v := .string ((⟨#[45]⟩ : ByteArray) ++ (inB true (exW (d - 1) (x.kid 0))))) (ej rfl rfl)) (q_done ?_)))
          intro w81 x82
          refine n_then (c_ret (r_block (r_then (ret1 (v := .string ((⟨#[45]⟩ : ByteArray) ++ (inB true (exW (d - 1) (x.kid 0))))) rfl rfl rfl ?_))))
          refine ⟨_,rfl,?_,(Ext.trans (Keep.then_ (Ext.trans (NewB.ext n3) (NewB.ext n66)) (Wrote.keep k68) (fun i_ hi_ h_ => by have a_ := NewB.eq n66; have b_ := Keep.size (NewB.ext n3); omega)) x82)⟩
          (refine congrArg Value.string ?_; rw [exW_pos hd0_]; first | (rw [if_pos (by omega)]; done) | (rw [if_neg (by omega),if_pos (by omega)]; done) | (rw [if_neg (by omega),if_neg (by omega),if_pos (by omega)]; refine congrArg _ (congrArg (fun b => inB b _) ?_); simp [numB, *]; done) | (rw [if_neg (by omega),if_neg (by omega),if_neg (by omega)]; done))
        refine q_val (v := .bool false) (w0 rfl) (fun w_ c_ => r_move (v := .bool false) (vb (ej rfl rfl) (decide_eq_false h79))) (q_val (v := .bool false) (wy rfl rfl rfl rfl) (fun w_ c_ => r_move (v := .bool false) (ej rfl rfl)) (q_val (v := .bool false) (w0 rfl) (fun w_ c_ => r_pick0 (v := .bool false) (ej rfl rfl) (ej rfl rfl)) ?_))
        have hz83 := exW_le (d := d - 1) (by omega) (exKid0 hb (by omega)) (Ex.Ok.kid hk_ (kid_there (x := x) (j := 0) (by omega)))
        have hz83_ := inB_size false (exW (d - 1) (x.kid 0))
        refine q_call (v := .string (inB false (exW (d - 1) (x.kid 0)))) F_e110 (w0 rfl) ev_f (m2 (ej rfl rfl) (ej rfl rfl)) (args := #[.agg #[.int .i8 ((x.kid 0).op),.string ((x.kid 0).t.v),.int .i8 ((x.kid 0).t.l.k),.int .i64 ((x.kid 0).t.l.n),.string ((x.kid 0).t.l.s),.slice A60 ((x.kid 0).kids.length) c61],.bool false]) rfl (fun w_ c_ => Rt.mono (r6_within (d - 1) (x.kid 0) A60 c61 false _ ho62 (Row.extE hr63 (Ext.trans (Keep.then_ (Ext.trans (NewB.ext n3) (NewB.ext n66)) (Wrote.keep k68) (fun i_ hi_ h_ => by have a_ := NewB.eq n66; have b_ := Keep.size (NewB.ext n3); omega)) c_)) (ih (by omega) 0 _ (kid_there (x := x) (j := 0) (by omega)) (exKid0 hb (by omega))) hz83) (fun v_ w2_ h_ => ⟨h_.1,Ext.trans c_ h_.2⟩)) (q_val (v := .string ((⟨#[45]⟩ : ByteArray) ++ (inB false (exW (d - 1) (x.kid 0))))) (w0 rfl) (fun w_ c_ => r_cat ev_c (ej rfl rfl) (by simp only [ByteArray.size_append,z0,z1,z2,z3,z4,z5,z6]; omega)) (q_val (v := .string ((⟨#[45]⟩ : ByteArray) ++ (inB false (exW (d - 1) (x.kid 0))))) (w0 rfl) (fun w_ c_ => r_assign (v := .string ((⟨#[45]⟩ : ByteArray) ++ (inB false (exW (d - 1) (x.kid 0))))) (ej rfl rfl)) (q_done ?_)))
        intro w84 x85
        refine n_then (c_ret (r_block (r_then (ret1 (v := .string ((⟨#[45]⟩ : ByteArray) ++ (inB false (exW (d - 1) (x.kid 0))))) rfl rfl rfl ?_))))
        refine ⟨_,rfl,?_,(Ext.trans (Keep.then_ (Ext.trans (NewB.ext n3) (NewB.ext n66)) (Wrote.keep k68) (fun i_ hi_ h_ => by have a_ := NewB.eq n66; have b_ := Keep.size (NewB.ext n3); omega)) x85)⟩
        (refine congrArg Value.string ?_; rw [exW_pos hd0_]; first | (rw [if_pos (by omega)]; done) | (rw [if_neg (by omega),if_pos (by omega)]; done) | (rw [if_neg (by omega),if_neg (by omega),if_pos (by omega)]; refine congrArg _ (congrArg (fun b => inB b _) ?_); simp [numB, *]; done) | (rw [if_neg (by omega),if_neg (by omega),if_neg (by omega)]; done))
      refine s_move (v := .bool false) (vb (ej rfl rfl) (decide_eq_false h70)) (w0 rfl) (s_skip (wn rfl rfl rfl rfl rfl) (s_skip (wn rfl rfl rfl rfl rfl) (s_skip (wn rfl rfl rfl rfl rfl) (s_skip (wn rfl rfl rfl rfl rfl) (s_skip (wn rfl rfl rfl rfl rfl) (s_pick0 (v := .bool false) (ej rfl rfl) ev_c (w0 rfl) (s_move (v := .bool false) (ej rfl rfl) (w0 rfl) (s_skip (wn rfl rfl rfl rfl rfl) (s_skip (wn rfl rfl rfl rfl rfl) (s_skip (wn rfl rfl rfl rfl rfl) (s_skip (wn rfl rfl rfl rfl rfl) ?_)))))))))))
      refine s_skip (wn rfl rfl rfl rfl rfl) (s_pick0 (v := .bool false) (ej rfl rfl) ev_c (w0 rfl) (s_assign (v := .bool false) (ej rfl rfl) (w0 rfl) (c_done (n_then (c_seq (c_quiet mixed (by kernel_rfl) (q_val (v := .agg #[.int .i8 ((x.kid 0).op),.string ((x.kid 0).t.v),.int .i8 ((x.kid 0).t.l.k),.int .i64 ((x.kid 0).t.l.n),.string ((x.kid 0).t.l.s),.slice A60 ((x.kid 0).kids.length) c61]) (w0 rfl) (fun w_ c_ => r_loadL (cs := [.int .i8 ((x.kid 0).op),.string ((x.kid 0).t.v),.int .i8 ((x.kid 0).t.l.k),.int .i64 ((x.kid 0).t.l.n),.string ((x.kid 0).t.l.s),.slice A60 ((x.kid 0).kids.length) c61]) F_m36 (ej rfl rfl) rfl rfl (blk_cells (Ext.blk c_ (Wrote.blk k68)) 0 rfl)) (q_val (v := .agg #[.int .i8 ((x.kid 0).op),.string ((x.kid 0).t.v),.int .i8 ((x.kid 0).t.l.k),.int .i64 ((x.kid 0).t.l.n),.string ((x.kid 0).t.l.s),.slice A60 ((x.kid 0).kids.length) c61]) (w0 rfl) (fun w_ c_ => r_loadL (cs := [.int .i8 ((x.kid 0).op),.string ((x.kid 0).t.v),.int .i8 ((x.kid 0).t.l.k),.int .i64 ((x.kid 0).t.l.n),.string ((x.kid 0).t.l.s),.slice A60 ((x.kid 0).kids.length) c61]) F_m36 (ej rfl rfl) rfl rfl (blk_cells (Ext.blk c_ (Wrote.blk k68)) 0 rfl)) (q_call (v := .int .i64 (fast (x.kid 0))) F_e111 (w0 rfl) ev_f (m1 (ej rfl rfl)) (args := #[.agg #[.int .i8 ((x.kid 0).op),.string ((x.kid 0).t.v),.int .i8 ((x.kid 0).t.l.k),.int .i64 ((x.kid 0).t.l.n),.string ((x.kid 0).t.l.s),.slice A60 ((x.kid 0).kids.length) c61]]) rfl (fun w_ c_ => Rt.mono (r6_Fast (x.kid 0) A60 c61 _ ho62 (Row.extE hr63 (Ext.trans (Keep.then_ (Ext.trans (NewB.ext n3) (NewB.ext n66)) (Wrote.keep k68) (fun i_ hi_ h_ => by have a_ := NewB.eq n66; have b_ := Keep.size (NewB.ext n3); omega)) c_))) (fun v_ w2_ h_ => ⟨h_.1,Ext.trans c_ h_.2⟩)) (q_val (v := .bool (decide (fast (x.kid 0) < 3))) (w0 rfl) (fun w_ c_ => r_cmp (r := decide (fast (x.kid 0) < 3)) (ej rfl rfl) ev_c rfl) ?_))))))))))
      by_cases h86 : fast (x.kid 0) < 3
      · refine q_val (v := .bool true) (w0 rfl) (fun w_ c_ => r_move (v := .bool true) (vb (ej rfl rfl) (decide_eq_true h86))) (q_skip (wn rfl rfl rfl rfl rfl) (q_val (v := .bool true) (w0 rfl) (fun w_ c_ => r_pick1 (v := .bool true) (ej rfl rfl) ev_c) ?_))
        have hz87 := exW_le (d := d - 1) (by omega) (exKid0 hb (by omega)) (Ex.Ok.kid hk_ (kid_there (x := x) (j := 0) (by omega)))
        have hz87_ := inB_size true (exW (d - 1) (x.kid 0))
        refine q_call (v := .string (inB true (exW (d - 1) (x.kid 0)))) F_e110 (w0 rfl) ev_f (m2 (ej rfl rfl) (ej rfl rfl)) (args := #[.agg #[.int .i8 ((x.kid 0).op),.string ((x.kid 0).t.v),.int .i8 ((x.kid 0).t.l.k),.int .i64 ((x.kid 0).t.l.n),.string ((x.kid 0).t.l.s),.slice A60 ((x.kid 0).kids.length) c61],.bool true]) rfl (fun w_ c_ => Rt.mono (r6_within (d - 1) (x.kid 0) A60 c61 true _ ho62 (Row.extE hr63 (Ext.trans (Keep.then_ (Ext.trans (NewB.ext n3) (NewB.ext n66)) (Wrote.keep k68) (fun i_ hi_ h_ => by have a_ := NewB.eq n66; have b_ := Keep.size (NewB.ext n3); omega)) c_)) (ih (by omega) 0 _ (kid_there (x := x) (j := 0) (by omega)) (exKid0 hb (by omega))) hz87) (fun v_ w2_ h_ => ⟨h_.1,Ext.trans c_ h_.2⟩)) (q_val (v := .string ((⟨#[45]⟩ : ByteArray) ++ (inB true (exW (d - 1) (x.kid 0))))) (w0 rfl) (fun w_ c_ => r_cat ev_c (ej rfl rfl) (by simp only [ByteArray.size_append,z0,z1,z2,z3,z4,z5,z6]; omega)) (q_val (v := .string ((⟨#[45]⟩ : ByteArray) ++ (inB true (exW (d - 1) (x.kid 0))))) (w0 rfl) (fun w_ c_ => r_assign (v := .string ((⟨#[45]⟩ : ByteArray) ++ (inB true (exW (d - 1) (x.kid 0))))) (ej rfl rfl)) (q_done ?_)))
        intro w88 x89
        refine n_then (c_ret (r_block (r_then (ret1 (v := .string ((⟨#[45]⟩ : ByteArray) ++ (inB true (exW (d - 1) (x.kid 0))))) rfl rfl rfl ?_))))
        refine ⟨_,rfl,?_,(Ext.trans (Keep.then_ (Ext.trans (NewB.ext n3) (NewB.ext n66)) (Wrote.keep k68) (fun i_ hi_ h_ => by have a_ := NewB.eq n66; have b_ := Keep.size (NewB.ext n3); omega)) x89)⟩
        (refine congrArg Value.string ?_; rw [exW_pos hd0_]; first | (rw [if_pos (by omega)]; done) | (rw [if_neg (by omega),if_pos (by omega)]; done) | (rw [if_neg (by omega),if_neg (by omega),if_pos (by omega)]; refine congrArg _ (congrArg (fun b => inB b _) ?_); simp [numB, *]; done) | (rw [if_neg (by omega),if_neg (by omega),if_neg (by omega)]; done))
      refine q_val (v := .bool false) (w0 rfl) (fun w_ c_ => r_move (v := .bool false) (vb (ej rfl rfl) (decide_eq_false h86))) (q_val (v := .bool false) (wy rfl rfl rfl rfl) (fun w_ c_ => r_move (v := .bool false) (ej rfl rfl)) (q_val (v := .bool false) (w0 rfl) (fun w_ c_ => r_pick0 (v := .bool false) (ej rfl rfl) (ej rfl rfl)) ?_))
      have hz90 := exW_le (d := d - 1) (by omega) (exKid0 hb (by omega)) (Ex.Ok.kid hk_ (kid_there (x := x) (j := 0) (by omega)))
      have hz90_ := inB_size false (exW (d - 1) (x.kid 0))
      refine q_call (v := .string (inB false (exW (d - 1) (x.kid 0)))) F_e110 (w0 rfl) ev_f (m2 (ej rfl rfl) (ej rfl rfl)) (args := #[.agg #[.int .i8 ((x.kid 0).op),.string ((x.kid 0).t.v),.int .i8 ((x.kid 0).t.l.k),.int .i64 ((x.kid 0).t.l.n),.string ((x.kid 0).t.l.s),.slice A60 ((x.kid 0).kids.length) c61],.bool false]) rfl (fun w_ c_ => Rt.mono (r6_within (d - 1) (x.kid 0) A60 c61 false _ ho62 (Row.extE hr63 (Ext.trans (Keep.then_ (Ext.trans (NewB.ext n3) (NewB.ext n66)) (Wrote.keep k68) (fun i_ hi_ h_ => by have a_ := NewB.eq n66; have b_ := Keep.size (NewB.ext n3); omega)) c_)) (ih (by omega) 0 _ (kid_there (x := x) (j := 0) (by omega)) (exKid0 hb (by omega))) hz90) (fun v_ w2_ h_ => ⟨h_.1,Ext.trans c_ h_.2⟩)) (q_val (v := .string ((⟨#[45]⟩ : ByteArray) ++ (inB false (exW (d - 1) (x.kid 0))))) (w0 rfl) (fun w_ c_ => r_cat ev_c (ej rfl rfl) (by simp only [ByteArray.size_append,z0,z1,z2,z3,z4,z5,z6]; omega)) (q_val (v := .string ((⟨#[45]⟩ : ByteArray) ++ (inB false (exW (d - 1) (x.kid 0))))) (w0 rfl) (fun w_ c_ => r_assign (v := .string ((⟨#[45]⟩ : ByteArray) ++ (inB false (exW (d - 1) (x.kid 0))))) (ej rfl rfl)) (q_done ?_)))
      intro w91 x92
      refine n_then (c_ret (r_block (r_then (ret1 (v := .string ((⟨#[45]⟩ : ByteArray) ++ (inB false (exW (d - 1) (x.kid 0))))) rfl rfl rfl ?_))))
      refine ⟨_,rfl,?_,(Ext.trans (Keep.then_ (Ext.trans (NewB.ext n3) (NewB.ext n66)) (Wrote.keep k68) (fun i_ hi_ h_ => by have a_ := NewB.eq n66; have b_ := Keep.size (NewB.ext n3); omega)) x92)⟩
      (refine congrArg Value.string ?_; rw [exW_pos hd0_]; first | (rw [if_pos (by omega)]; done) | (rw [if_neg (by omega),if_pos (by omega)]; done) | (rw [if_neg (by omega),if_neg (by omega),if_pos (by omega)]; refine congrArg _ (congrArg (fun b => inB b _) ?_); simp [numB, *]; done) | (rw [if_neg (by omega),if_neg (by omega),if_neg (by omega)]; done))
    refine s_move (v := .bool false) (vb (ej rfl rfl) (decide_eq_false h69)) (w0 rfl) (s_skip (wn rfl rfl rfl rfl rfl) (s_skip (wn rfl rfl rfl rfl rfl) (s_skip (wn rfl rfl rfl rfl rfl) (s_skip (wn rfl rfl rfl rfl rfl) (s_pick0 (v := .bool false) (ej rfl rfl) ev_c (w0 rfl) (s_move (v := .bool false) (ej rfl rfl) (w0 rfl) (s_skip (wn rfl rfl rfl rfl rfl) (s_skip (wn rfl rfl rfl rfl rfl) (s_skip (wn rfl rfl rfl rfl rfl) (s_skip (wn rfl rfl rfl rfl rfl) (s_skip (wn rfl rfl rfl rfl rfl) ?_)))))))))))
    refine s_pick0 (v := .bool false) (ej rfl rfl) ev_c (w0 rfl) (s_move (v := .bool false) (ej rfl rfl) (w0 rfl) (s_skip (wn rfl rfl rfl rfl rfl) (s_skip (wn rfl rfl rfl rfl rfl) (s_skip (wn rfl rfl rfl rfl rfl) (s_skip (wn rfl rfl rfl rfl rfl) (s_skip (wn rfl rfl rfl rfl rfl) (s_pick0 (v := .bool false) (ej rfl rfl) ev_c (w0 rfl) (s_assign (v := .bool false) (ej rfl rfl) (w0 rfl) (c_done (n_then (c_seq ?_)))))))))))
    refine c_quiet mixed (by kernel_rfl) (q_val (v := .agg #[.int .i8 ((x.kid 0).op),.string ((x.kid 0).t.v),.int .i8 ((x.kid 0).t.l.k),.int .i64 ((x.kid 0).t.l.n),.string ((x.kid 0).t.l.s),.slice A60 ((x.kid 0).kids.length) c61]) (w0 rfl) (fun w_ c_ => r_loadL (cs := [.int .i8 ((x.kid 0).op),.string ((x.kid 0).t.v),.int .i8 ((x.kid 0).t.l.k),.int .i64 ((x.kid 0).t.l.n),.string ((x.kid 0).t.l.s),.slice A60 ((x.kid 0).kids.length) c61]) F_m36 (ej rfl rfl) rfl rfl (blk_cells (Ext.blk c_ (Wrote.blk k68)) 0 rfl)) (q_val (v := .agg #[.int .i8 ((x.kid 0).op),.string ((x.kid 0).t.v),.int .i8 ((x.kid 0).t.l.k),.int .i64 ((x.kid 0).t.l.n),.string ((x.kid 0).t.l.s),.slice A60 ((x.kid 0).kids.length) c61]) (w0 rfl) (fun w_ c_ => r_loadL (cs := [.int .i8 ((x.kid 0).op),.string ((x.kid 0).t.v),.int .i8 ((x.kid 0).t.l.k),.int .i64 ((x.kid 0).t.l.n),.string ((x.kid 0).t.l.s),.slice A60 ((x.kid 0).kids.length) c61]) F_m36 (ej rfl rfl) rfl rfl (blk_cells (Ext.blk c_ (Wrote.blk k68)) 0 rfl)) (q_call (v := .int .i64 (fast (x.kid 0))) F_e111 (w0 rfl) ev_f (m1 (ej rfl rfl)) (args := #[.agg #[.int .i8 ((x.kid 0).op),.string ((x.kid 0).t.v),.int .i8 ((x.kid 0).t.l.k),.int .i64 ((x.kid 0).t.l.n),.string ((x.kid 0).t.l.s),.slice A60 ((x.kid 0).kids.length) c61]]) rfl (fun w_ c_ => Rt.mono (r6_Fast (x.kid 0) A60 c61 _ ho62 (Row.extE hr63 (Ext.trans (Keep.then_ (Ext.trans (NewB.ext n3) (NewB.ext n66)) (Wrote.keep k68) (fun i_ hi_ h_ => by have a_ := NewB.eq n66; have b_ := Keep.size (NewB.ext n3); omega)) c_))) (fun v_ w2_ h_ => ⟨h_.1,Ext.trans c_ h_.2⟩)) (q_val (v := .bool (decide (fast (x.kid 0) < 3))) (w0 rfl) (fun w_ c_ => r_cmp (r := decide (fast (x.kid 0) < 3)) (ej rfl rfl) ev_c rfl) ?_))))
    by_cases h93 : fast (x.kid 0) < 3
    · refine q_val (v := .bool true) (w0 rfl) (fun w_ c_ => r_move (v := .bool true) (vb (ej rfl rfl) (decide_eq_true h93))) (q_skip (wn rfl rfl rfl rfl rfl) (q_val (v := .bool true) (w0 rfl) (fun w_ c_ => r_pick1 (v := .bool true) (ej rfl rfl) ev_c) ?_))
      have hz94 := exW_le (d := d - 1) (by omega) (exKid0 hb (by omega)) (Ex.Ok.kid hk_ (kid_there (x := x) (j := 0) (by omega)))
      have hz94_ := inB_size true (exW (d - 1) (x.kid 0))
      refine q_call (v := .string (inB true (exW (d - 1) (x.kid 0)))) F_e110 (w0 rfl) ev_f (m2 (ej rfl rfl) (ej rfl rfl)) (args := #[.agg #[.int .i8 ((x.kid 0).op),.string ((x.kid 0).t.v),.int .i8 ((x.kid 0).t.l.k),.int .i64 ((x.kid 0).t.l.n),.string ((x.kid 0).t.l.s),.slice A60 ((x.kid 0).kids.length) c61],.bool true]) rfl (fun w_ c_ => Rt.mono (r6_within (d - 1) (x.kid 0) A60 c61 true _ ho62 (Row.extE hr63 (Ext.trans (Keep.then_ (Ext.trans (NewB.ext n3) (NewB.ext n66)) (Wrote.keep k68) (fun i_ hi_ h_ => by have a_ := NewB.eq n66; have b_ := Keep.size (NewB.ext n3); omega)) c_)) (ih (by omega) 0 _ (kid_there (x := x) (j := 0) (by omega)) (exKid0 hb (by omega))) hz94) (fun v_ w2_ h_ => ⟨h_.1,Ext.trans c_ h_.2⟩)) (q_val (v := .string ((⟨#[45]⟩ : ByteArray) ++ (inB true (exW (d - 1) (x.kid 0))))) (w0 rfl) (fun w_ c_ => r_cat ev_c (ej rfl rfl) (by simp only [ByteArray.size_append,z0,z1,z2,z3,z4,z5,z6]; omega)) (q_val (v := .string ((⟨#[45]⟩ : ByteArray) ++ (inB true (exW (d - 1) (x.kid 0))))) (w0 rfl) (fun w_ c_ => r_assign (v := .string ((⟨#[45]⟩ : ByteArray) ++ (inB true (exW (d - 1) (x.kid 0))))) (ej rfl rfl)) (q_done ?_)))
      intro w95 x96
      refine n_then (c_ret (r_block (r_then (ret1 (v := .string ((⟨#[45]⟩ : ByteArray) ++ (inB true (exW (d - 1) (x.kid 0))))) rfl rfl rfl ?_))))
      refine ⟨_,rfl,?_,(Ext.trans (Keep.then_ (Ext.trans (NewB.ext n3) (NewB.ext n66)) (Wrote.keep k68) (fun i_ hi_ h_ => by have a_ := NewB.eq n66; have b_ := Keep.size (NewB.ext n3); omega)) x96)⟩
      (refine congrArg Value.string ?_; rw [exW_pos hd0_]; first | (rw [if_pos (by omega)]; done) | (rw [if_neg (by omega),if_pos (by omega)]; done) | (rw [if_neg (by omega),if_neg (by omega),if_pos (by omega)]; refine congrArg _ (congrArg (fun b => inB b _) ?_); simp [numB, *]; done) | (rw [if_neg (by omega),if_neg (by omega),if_neg (by omega)]; done))
    refine q_val (v := .bool false) (w0 rfl) (fun w_ c_ => r_move (v := .bool false) (vb (ej rfl rfl) (decide_eq_false h93))) (q_val (v := .bool false) (wy rfl rfl rfl rfl) (fun w_ c_ => r_move (v := .bool false) (ej rfl rfl)) (q_val (v := .bool false) (w0 rfl) (fun w_ c_ => r_pick0 (v := .bool false) (ej rfl rfl) (ej rfl rfl)) ?_))
    have hz97 := exW_le (d := d - 1) (by omega) (exKid0 hb (by omega)) (Ex.Ok.kid hk_ (kid_there (x := x) (j := 0) (by omega)))
    have hz97_ := inB_size false (exW (d - 1) (x.kid 0))
    refine q_call (v := .string (inB false (exW (d - 1) (x.kid 0)))) F_e110 (w0 rfl) ev_f (m2 (ej rfl rfl) (ej rfl rfl)) (args := #[.agg #[.int .i8 ((x.kid 0).op),.string ((x.kid 0).t.v),.int .i8 ((x.kid 0).t.l.k),.int .i64 ((x.kid 0).t.l.n),.string ((x.kid 0).t.l.s),.slice A60 ((x.kid 0).kids.length) c61],.bool false]) rfl (fun w_ c_ => Rt.mono (r6_within (d - 1) (x.kid 0) A60 c61 false _ ho62 (Row.extE hr63 (Ext.trans (Keep.then_ (Ext.trans (NewB.ext n3) (NewB.ext n66)) (Wrote.keep k68) (fun i_ hi_ h_ => by have a_ := NewB.eq n66; have b_ := Keep.size (NewB.ext n3); omega)) c_)) (ih (by omega) 0 _ (kid_there (x := x) (j := 0) (by omega)) (exKid0 hb (by omega))) hz97) (fun v_ w2_ h_ => ⟨h_.1,Ext.trans c_ h_.2⟩)) (q_val (v := .string ((⟨#[45]⟩ : ByteArray) ++ (inB false (exW (d - 1) (x.kid 0))))) (w0 rfl) (fun w_ c_ => r_cat ev_c (ej rfl rfl) (by simp only [ByteArray.size_append,z0,z1,z2,z3,z4,z5,z6]; omega)) (q_val (v := .string ((⟨#[45]⟩ : ByteArray) ++ (inB false (exW (d - 1) (x.kid 0))))) (w0 rfl) (fun w_ c_ => r_assign (v := .string ((⟨#[45]⟩ : ByteArray) ++ (inB false (exW (d - 1) (x.kid 0))))) (ej rfl rfl)) (q_done ?_)))
    intro w98 x99
    refine n_then (c_ret (r_block (r_then (ret1 (v := .string ((⟨#[45]⟩ : ByteArray) ++ (inB false (exW (d - 1) (x.kid 0))))) rfl rfl rfl ?_))))
    refine ⟨_,rfl,?_,(Ext.trans (Keep.then_ (Ext.trans (NewB.ext n3) (NewB.ext n66)) (Wrote.keep k68) (fun i_ hi_ h_ => by have a_ := NewB.eq n66; have b_ := Keep.size (NewB.ext n3); omega)) x99)⟩
    (refine congrArg Value.string ?_; rw [exW_pos hd0_]; first | (rw [if_pos (by omega)]; done) | (rw [if_neg (by omega),if_pos (by omega)]; done) | (rw [if_neg (by omega),if_neg (by omega),if_pos (by omega)]; refine congrArg _ (congrArg (fun b => inB b _) ?_); simp [numB, *]; done) | (rw [if_neg (by omega),if_neg (by omega),if_neg (by omega)]; done))
  refine c_cond0 (vb (ej rfl rfl) (decide_eq_false h52)) (c_skip (n_block (n_then (c_seq (c_head2 (fun w_ => Ext w2 w_) 8 mixed (by kernel_rfl) rfl (fun _ x_ => x_) ?_)))))
  intro w100 x101
  refine h_val (v := .pointer (some ⟨g1,5,none⟩)) (w0 rfl) (fun w_ c_ => r_field (off := 5) (o' := 5) F_f36_2 (ej rfl rfl) rfl) (h_val (v := .slice A x.kids.length c) (w0 rfl) (fun w_ c_ => r_load (v := .slice A x.kids.length c) F_o34 (ej rfl rfl) (cell_of_blk (i := 5) (Ext.blk c_ (NewB.blk n3)) rfl)) ?_)
  obtain ⟨b102,o103,x104,csx104,hA105,hx106,hR107,hc108⟩ := Row.at_ hr 0 (by omega)
  obtain rfl := Ex.kid_of hx106
  obtain ⟨A109,c110,rfl,ho111,hr112⟩ := RE.open_ hR107
  refine h_val (v := .pointer (some ⟨b102,o103 + 0 * 6,none⟩)) (w0 rfl) (fun w_ c_ => r_indexR (j := 0) F_l34 (ej rfl rfl) hA105 ev_c rfl (by omega)) (h_val (v := .agg #[.int .i8 ((x.kid 0).op),.string ((x.kid 0).t.v),.int .i8 ((x.kid 0).t.l.k),.int .i64 ((x.kid 0).t.l.n),.string ((x.kid 0).t.l.s),.slice A109 ((x.kid 0).kids.length) c110]) (w0 rfl) (fun w_ c_ => r_loadL (cs := [.int .i8 ((x.kid 0).op),.string ((x.kid 0).t.v),.int .i8 ((x.kid 0).t.l.k),.int .i64 ((x.kid 0).t.l.n),.string ((x.kid 0).t.l.s),.slice A109 ((x.kid 0).kids.length) c110]) F_m36 (ej rfl rfl) rfl rfl (sub_cells (cells_ext c_ (cells_ext (NewB.ext n3) hc108)) 0 rfl)) (h_val (v := .pointer (some ⟨g1,5,none⟩)) (w0 rfl) (fun w_ c_ => r_field (off := 5) (o' := 5) F_f36_2 (ej rfl rfl) rfl) (h_val (v := .slice A x.kids.length c) (w0 rfl) (fun w_ c_ => r_load (v := .slice A x.kids.length c) F_o34 (ej rfl rfl) (cell_of_blk (i := 5) (Ext.blk c_ (NewB.blk n3)) rfl)) ?_)))
  obtain ⟨b113,o114,x115,csx115,hA116,hx117,hR118,hc119⟩ := Row.at_ hr 1 (by omega)
  obtain rfl := Ex.kid_of hx117
  obtain ⟨A120,c121,rfl,ho122,hr123⟩ := RE.open_ hR118
  refine h_val (v := .pointer (some ⟨b113,o114 + 1 * 6,none⟩)) (w0 rfl) (fun w_ c_ => r_indexR (j := 1) F_l34 (ej rfl rfl) hA116 ev_c rfl (by omega)) (h_val (v := .agg #[.int .i8 ((x.kid 1).op),.string ((x.kid 1).t.v),.int .i8 ((x.kid 1).t.l.k),.int .i64 ((x.kid 1).t.l.n),.string ((x.kid 1).t.l.s),.slice A120 ((x.kid 1).kids.length) c121]) (w0 rfl) (fun w_ c_ => r_loadL (cs := [.int .i8 ((x.kid 1).op),.string ((x.kid 1).t.v),.int .i8 ((x.kid 1).t.l.k),.int .i64 ((x.kid 1).t.l.n),.string ((x.kid 1).t.l.s),.slice A120 ((x.kid 1).kids.length) c121]) F_m36 (ej rfl rfl) rfl rfl (sub_cells (cells_ext c_ (cells_ext (NewB.ext n3) hc119)) 0 rfl)) (h_done ?_))
  refine ⟨?_,?_⟩
  · refine tl_cons ?_
    refine s_alloc (cs := #[.int .i8 0,.string (⟨#[]⟩ : ByteArray),.int .i8 0,.int .i64 0,.string (⟨#[]⟩ : ByteArray),.slice none 0 0]) (w0 rfl) F_z36 rfl ?_
    intro w125 g124 n126
    refine tl_done ⟨(Ext.trans x101 (NewB.ext n126)),?_⟩
    refine tl_cons ?_
    refine s_alloc (cs := #[.int .i8 0,.string (⟨#[]⟩ : ByteArray),.int .i8 0,.int .i64 0,.string (⟨#[]⟩ : ByteArray),.slice none 0 0]) (w0 rfl) F_z36 rfl ?_
    intro w128 g127 n129
    refine tl_done ⟨(Ext.trans (Ext.trans x101 (NewB.ext n126)) (NewB.ext n129)),?_⟩
    refine tl_cons ?_
    refine s_store (cs' := #[.int .i8 ((x.kid 0).op),.string ((x.kid 0).t.v),.int .i8 ((x.kid 0).t.l.k),.int .i64 ((x.kid 0).t.l.n),.string ((x.kid 0).t.l.s),.slice A109 ((x.kid 0).kids.length) c110]) F_sz36 (ej rfl rfl) (ej rfl rfl) (l := [.int .i8 ((x.kid 0).op),.string ((x.kid 0).t.v),.int .i8 ((x.kid 0).t.l.k),.int .i64 ((x.kid 0).t.l.n),.string ((x.kid 0).t.l.s),.slice A109 ((x.kid 0).kids.length) c110]) rfl rfl rfl (Ext.blk (NewB.ext n129) (NewB.blk n126)) (Nat.le_of_ble_eq_true rfl) rfl (w0 rfl) ?_
    intro w130 k131
    refine tl_done ⟨(Keep.then_ (Ext.trans (Ext.trans x101 (NewB.ext n126)) (NewB.ext n129)) (Wrote.keep k131) (fun i_ hi_ h_ => by have a_ := NewB.eq n126; have b_ := Keep.size x101; omega)),?_⟩
    refine tl_cons ?_
    refine s_store (cs' := #[.int .i8 ((x.kid 1).op),.string ((x.kid 1).t.v),.int .i8 ((x.kid 1).t.l.k),.int .i64 ((x.kid 1).t.l.n),.string ((x.kid 1).t.l.s),.slice A120 ((x.kid 1).kids.length) c121]) F_sz36 (ej rfl rfl) (ej rfl rfl) (l := [.int .i8 ((x.kid 1).op),.string ((x.kid 1).t.v),.int .i8 ((x.kid 1).t.l.k),.int .i64 ((x.kid 1).t.l.n),.string ((x.kid 1).t.l.s),.slice A120 ((x.kid 1).kids.length) c121]) rfl rfl rfl (Keep.blk (Wrote.keep k131) (NewB.blk n129) (by have a_ := NewB.eq n129; have b_ := lt_of_blk (NewB.blk n126); omega)) (Nat.le_of_ble_eq_true rfl) rfl (w0 rfl) ?_
    intro w132 k133
    refine tl_done ⟨(Keep.then_ (Keep.then_ (Ext.trans (Ext.trans x101 (NewB.ext n126)) (NewB.ext n129)) (Wrote.keep k131) (fun i_ hi_ h_ => by have a_ := NewB.eq n126; have b_ := Keep.size x101; omega)) (Wrote.keep k133) (fun i_ hi_ h_ => by have a_ := NewB.eq n129; have b_ := Keep.size (Ext.trans x101 (NewB.ext n126)); omega)),?_⟩
    refine tl_nil ?_
    refine n_then (c_seq (c_quiet mixed (by kernel_rfl) (q_val (v := .agg #[.int .i8 ((x.kid 0).op),.string ((x.kid 0).t.v),.int .i8 ((x.kid 0).t.l.k),.int .i64 ((x.kid 0).t.l.n),.string ((x.kid 0).t.l.s),.slice A109 ((x.kid 0).kids.length) c110]) (w0 rfl) (fun w_ c_ => r_loadL (cs := [.int .i8 ((x.kid 0).op),.string ((x.kid 0).t.v),.int .i8 ((x.kid 0).t.l.k),.int .i64 ((x.kid 0).t.l.n),.string ((x.kid 0).t.l.s),.slice A109 ((x.kid 0).kids.length) c110]) F_m36 (ej rfl rfl) rfl rfl (blk_cells (Ext.blk c_ (Keep.blk (Wrote.keep k133) (Wrote.blk k131) (by have a_ := NewB.eq n129; have b_ := lt_of_blk (NewB.blk n126); omega))) 0 rfl)) (q_val (v := .agg #[.int .i8 ((x.kid 0).op),.string ((x.kid 0).t.v),.int .i8 ((x.kid 0).t.l.k),.int .i64 ((x.kid 0).t.l.n),.string ((x.kid 0).t.l.s),.slice A109 ((x.kid 0).kids.length) c110]) (w0 rfl) (fun w_ c_ => r_loadL (cs := [.int .i8 ((x.kid 0).op),.string ((x.kid 0).t.v),.int .i8 ((x.kid 0).t.l.k),.int .i64 ((x.kid 0).t.l.n),.string ((x.kid 0).t.l.s),.slice A109 ((x.kid 0).kids.length) c110]) F_m36 (ej rfl rfl) rfl rfl (blk_cells (Ext.blk c_ (Keep.blk (Wrote.keep k133) (Wrote.blk k131) (by have a_ := NewB.eq n129; have b_ := lt_of_blk (NewB.blk n126); omega))) 0 rfl)) (q_call (v := .int .i64 (fast (x.kid 0))) F_e111 (w0 rfl) ev_f (m1 (ej rfl rfl)) (args := #[.agg #[.int .i8 ((x.kid 0).op),.string ((x.kid 0).t.v),.int .i8 ((x.kid 0).t.l.k),.int .i64 ((x.kid 0).t.l.n),.string ((x.kid 0).t.l.s),.slice A109 ((x.kid 0).kids.length) c110]]) rfl (fun w_ c_ => Rt.mono (r6_Fast (x.kid 0) A109 c110 _ ho111 (Row.extE hr112 (Ext.trans (Keep.then_ (Keep.then_ (Ext.trans (Ext.trans (Ext.trans (NewB.ext n3) x101) (NewB.ext n126)) (NewB.ext n129)) (Wrote.keep k131) (fun i_ hi_ h_ => by have a_ := NewB.eq n126; have b_ := Keep.size (Ext.trans (NewB.ext n3) x101); omega)) (Wrote.keep k133) (fun i_ hi_ h_ => by have a_ := NewB.eq n129; have b_ := Keep.size (Ext.trans (Ext.trans (NewB.ext n3) x101) (NewB.ext n126)); omega)) c_))) (fun v_ w2_ h_ => ⟨h_.1,Ext.trans c_ h_.2⟩)) (q_val (v := .agg #[.int .i8 x.op,.string x.t.v,.int .i8 x.t.l.k,.int .i64 x.t.l.n,.string x.t.l.s,.slice A x.kids.length c]) (w0 rfl) (fun w_ c_ => r_loadL (cs := [.int .i8 x.op,.string x.t.v,.int .i8 x.t.l.k,.int .i64 x.t.l.n,.string x.t.l.s,.slice A x.kids.length c]) F_m36 (ej rfl rfl) rfl rfl (blk_cells (Ext.blk (Ext.trans (Keep.then_ (Keep.then_ (Ext.trans (Ext.trans x101 (NewB.ext n126)) (NewB.ext n129)) (Wrote.keep k131) (fun i_ hi_ h_ => by have a_ := NewB.eq n126; have b_ := Keep.size x101; omega)) (Wrote.keep k133) (fun i_ hi_ h_ => by have a_ := NewB.eq n129; have b_ := Keep.size (Ext.trans x101 (NewB.ext n126)); omega)) c_) (NewB.blk n3)) 0 rfl)) (q_call (v := .int .i64 (fast x)) F_e111 (w0 rfl) ev_f (m1 (ej rfl rfl)) (args := #[.agg #[.int .i8 x.op,.string x.t.v,.int .i8 x.t.l.k,.int .i64 x.t.l.n,.string x.t.l.s,.slice A x.kids.length c]]) rfl (fun w_ c_ => Rt.mono (r6_Fast x A c _ ho (Row.extE hr (Ext.trans (Keep.then_ (Keep.then_ (Ext.trans (Ext.trans (Ext.trans (NewB.ext n3) x101) (NewB.ext n126)) (NewB.ext n129)) (Wrote.keep k131) (fun i_ hi_ h_ => by have a_ := NewB.eq n126; have b_ := Keep.size (Ext.trans (NewB.ext n3) x101); omega)) (Wrote.keep k133) (fun i_ hi_ h_ => by have a_ := NewB.eq n129; have b_ := Keep.size (Ext.trans (Ext.trans (NewB.ext n3) x101) (NewB.ext n126)); omega)) c_))) (fun v_ w2_ h_ => ⟨h_.1,Ext.trans c_ h_.2⟩)) (q_val (v := .bool (decide (fast (x.kid 0) < fast x))) (w0 rfl) (fun w_ c_ => r_cmp (r := decide (fast (x.kid 0) < fast x)) (ej rfl rfl) (ej rfl rfl) rfl) ?_))))))))
    have hz134 := exW_le (d := d - 1) (by omega) (exKid0 hb (by omega)) (Ex.Ok.kid hk_ (kid_there (x := x) (j := 0) (by omega)))
    have hz134_ := inB_size (decide (fast (x.kid 0) < fast x)) (exW (d - 1) (x.kid 0))
    refine q_call (v := .string (inB (decide (fast (x.kid 0) < fast x)) (exW (d - 1) (x.kid 0)))) F_e110 (w0 rfl) ev_f (m2 (ej rfl rfl) (ej rfl rfl)) (args := #[.agg #[.int .i8 ((x.kid 0).op),.string ((x.kid 0).t.v),.int .i8 ((x.kid 0).t.l.k),.int .i64 ((x.kid 0).t.l.n),.string ((x.kid 0).t.l.s),.slice A109 ((x.kid 0).kids.length) c110],.bool (decide (fast (x.kid 0) < fast x))]) rfl (fun w_ c_ => Rt.mono (r6_within (d - 1) (x.kid 0) A109 c110 (decide (fast (x.kid 0) < fast x)) _ ho111 (Row.extE hr112 (Ext.trans (Keep.then_ (Keep.then_ (Ext.trans (Ext.trans (Ext.trans (NewB.ext n3) x101) (NewB.ext n126)) (NewB.ext n129)) (Wrote.keep k131) (fun i_ hi_ h_ => by have a_ := NewB.eq n126; have b_ := Keep.size (Ext.trans (NewB.ext n3) x101); omega)) (Wrote.keep k133) (fun i_ hi_ h_ => by have a_ := NewB.eq n129; have b_ := Keep.size (Ext.trans (Ext.trans (NewB.ext n3) x101) (NewB.ext n126)); omega)) c_)) (ih (by omega) 0 _ (kid_there (x := x) (j := 0) (by omega)) (exKid0 hb (by omega))) hz134) (fun v_ w2_ h_ => ⟨h_.1,Ext.trans c_ h_.2⟩)) (q_val (v := .string (inB (decide (fast (x.kid 0) < fast x)) (exW (d - 1) (x.kid 0)) ++ (⟨#[32]⟩ : ByteArray))) (w0 rfl) (fun w_ c_ => r_cat (ej rfl rfl) ev_c (by simp only [ByteArray.size_append,z0,z1,z2,z3,z4,z5,z6]; omega)) (q_val (v := .pointer (some ⟨g1,0,none⟩)) (w0 rfl) (fun w_ c_ => r_field (off := 0) (o' := 0) F_f36_0 (ej rfl rfl) rfl) (q_val (v := .int .i8 x.op) (w0 rfl) (fun w_ c_ => r_load (v := .int .i8 x.op) F_o28 (ej rfl rfl) (cell_of_blk (i := 0) (Ext.blk (Ext.trans (Keep.then_ (Keep.then_ (Ext.trans (Ext.trans x101 (NewB.ext n126)) (NewB.ext n129)) (Wrote.keep k131) (fun i_ hi_ h_ => by have a_ := NewB.eq n126; have b_ := Keep.size x101; omega)) (Wrote.keep k133) (fun i_ hi_ h_ => by have a_ := NewB.eq n129; have b_ := Keep.size (Ext.trans x101 (NewB.ext n126)); omega)) c_) (NewB.blk n3)) rfl)) (q_call (v := .string (signW x.op)) F_e112 (w0 rfl) ev_f (m1 (ej rfl rfl)) (args := #[.int .i8 x.op]) rfl (fun w_ c_ => Rt.mono (r6_sign x.op _) (fun v_ w2_ h_ => ⟨h_.1,Ext.trans c_ h_.2⟩)) (q_val (v := .string (inB (decide (fast (x.kid 0) < fast x)) (exW (d - 1) (x.kid 0)) ++ (⟨#[32]⟩ : ByteArray) ++ (signW x.op))) (w0 rfl) (fun w_ c_ => r_cat (ej rfl rfl) (ej rfl rfl) (by simp only [ByteArray.size_append,z0,z1,z2,z3,z4,z5,z6]; omega)) (q_val (v := .string (inB (decide (fast (x.kid 0) < fast x)) (exW (d - 1) (x.kid 0)) ++ (⟨#[32]⟩ : ByteArray) ++ (signW x.op) ++ (⟨#[32]⟩ : ByteArray))) (w0 rfl) (fun w_ c_ => r_cat (ej rfl rfl) ev_c (by simp only [ByteArray.size_append,z0,z1,z2,z3,z4,z5,z6]; omega)) (q_val (v := .agg #[.int .i8 ((x.kid 1).op),.string ((x.kid 1).t.v),.int .i8 ((x.kid 1).t.l.k),.int .i64 ((x.kid 1).t.l.n),.string ((x.kid 1).t.l.s),.slice A120 ((x.kid 1).kids.length) c121]) (w0 rfl) (fun w_ c_ => r_loadL (cs := [.int .i8 ((x.kid 1).op),.string ((x.kid 1).t.v),.int .i8 ((x.kid 1).t.l.k),.int .i64 ((x.kid 1).t.l.n),.string ((x.kid 1).t.l.s),.slice A120 ((x.kid 1).kids.length) c121]) F_m36 (ej rfl rfl) rfl rfl (blk_cells (Ext.blk c_ (Wrote.blk k133)) 0 rfl)) (q_val (v := .agg #[.int .i8 ((x.kid 1).op),.string ((x.kid 1).t.v),.int .i8 ((x.kid 1).t.l.k),.int .i64 ((x.kid 1).t.l.n),.string ((x.kid 1).t.l.s),.slice A120 ((x.kid 1).kids.length) c121]) (w0 rfl) (fun w_ c_ => r_loadL (cs := [.int .i8 ((x.kid 1).op),.string ((x.kid 1).t.v),.int .i8 ((x.kid 1).t.l.k),.int .i64 ((x.kid 1).t.l.n),.string ((x.kid 1).t.l.s),.slice A120 ((x.kid 1).kids.length) c121]) F_m36 (ej rfl rfl) rfl rfl (blk_cells (Ext.blk c_ (Wrote.blk k133)) 0 rfl)) (q_call (v := .int .i64 (fast (x.kid 1))) F_e111 (w0 rfl) ev_f (m1 (ej rfl rfl)) (args := #[.agg #[.int .i8 ((x.kid 1).op),.string ((x.kid 1).t.v),.int .i8 ((x.kid 1).t.l.k),.int .i64 ((x.kid 1).t.l.n),.string ((x.kid 1).t.l.s),.slice A120 ((x.kid 1).kids.length) c121]]) rfl (fun w_ c_ => Rt.mono (r6_Fast (x.kid 1) A120 c121 _ ho122 (Row.extE hr123 (Ext.trans (Keep.then_ (Keep.then_ (Ext.trans (Ext.trans (Ext.trans (NewB.ext n3) x101) (NewB.ext n126)) (NewB.ext n129)) (Wrote.keep k131) (fun i_ hi_ h_ => by have a_ := NewB.eq n126; have b_ := Keep.size (Ext.trans (NewB.ext n3) x101); omega)) (Wrote.keep k133) (fun i_ hi_ h_ => by have a_ := NewB.eq n129; have b_ := Keep.size (Ext.trans (Ext.trans (NewB.ext n3) x101) (NewB.ext n126)); omega)) c_))) (fun v_ w2_ h_ => ⟨h_.1,Ext.trans c_ h_.2⟩)) (q_val (v := .agg #[.int .i8 x.op,.string x.t.v,.int .i8 x.t.l.k,.int .i64 x.t.l.n,.string x.t.l.s,.slice A x.kids.length c]) (w0 rfl) (fun w_ c_ => r_loadL (cs := [.int .i8 x.op,.string x.t.v,.int .i8 x.t.l.k,.int .i64 x.t.l.n,.string x.t.l.s,.slice A x.kids.length c]) F_m36 (ej rfl rfl) rfl rfl (blk_cells (Ext.blk (Ext.trans (Keep.then_ (Keep.then_ (Ext.trans (Ext.trans x101 (NewB.ext n126)) (NewB.ext n129)) (Wrote.keep k131) (fun i_ hi_ h_ => by have a_ := NewB.eq n126; have b_ := Keep.size x101; omega)) (Wrote.keep k133) (fun i_ hi_ h_ => by have a_ := NewB.eq n129; have b_ := Keep.size (Ext.trans x101 (NewB.ext n126)); omega)) c_) (NewB.blk n3)) 0 rfl)) (q_call (v := .int .i64 (fast x)) F_e111 (w0 rfl) ev_f (m1 (ej rfl rfl)) (args := #[.agg #[.int .i8 x.op,.string x.t.v,.int .i8 x.t.l.k,.int .i64 x.t.l.n,.string x.t.l.s,.slice A x.kids.length c]]) rfl (fun w_ c_ => Rt.mono (r6_Fast x A c _ ho (Row.extE hr (Ext.trans (Keep.then_ (Keep.then_ (Ext.trans (Ext.trans (Ext.trans (NewB.ext n3) x101) (NewB.ext n126)) (NewB.ext n129)) (Wrote.keep k131) (fun i_ hi_ h_ => by have a_ := NewB.eq n126; have b_ := Keep.size (Ext.trans (NewB.ext n3) x101); omega)) (Wrote.keep k133) (fun i_ hi_ h_ => by have a_ := NewB.eq n129; have b_ := Keep.size (Ext.trans (Ext.trans (NewB.ext n3) x101) (NewB.ext n126)); omega)) c_))) (fun v_ w2_ h_ => ⟨h_.1,Ext.trans c_ h_.2⟩)) ?_)))))))))))
    refine q_val (v := .bool (decide (fast (x.kid 1) ≤ fast x))) (w0 rfl) (fun w_ c_ => r_cmp (r := decide (fast (x.kid 1) ≤ fast x)) (ej rfl rfl) (ej rfl rfl) rfl) ?_
    have hz135 := exW_le (d := d - 1) (by omega) (ex_two hb (by omega) (by omega) (by omega)).2.2 (Ex.Ok.kid hk_ (kid_there (x := x) (j := 1) (by omega)))
    have hz135_ := inB_size (decide (fast (x.kid 1) ≤ fast x)) (exW (d - 1) (x.kid 1))
    refine q_call (v := .string (inB (decide (fast (x.kid 1) ≤ fast x)) (exW (d - 1) (x.kid 1)))) F_e110 (w0 rfl) ev_f (m2 (ej rfl rfl) (ej rfl rfl)) (args := #[.agg #[.int .i8 ((x.kid 1).op),.string ((x.kid 1).t.v),.int .i8 ((x.kid 1).t.l.k),.int .i64 ((x.kid 1).t.l.n),.string ((x.kid 1).t.l.s),.slice A120 ((x.kid 1).kids.length) c121],.bool (decide (fast (x.kid 1) ≤ fast x))]) rfl (fun w_ c_ => Rt.mono (r6_within (d - 1) (x.kid 1) A120 c121 (decide (fast (x.kid 1) ≤ fast x)) _ ho122 (Row.extE hr123 (Ext.trans (Keep.then_ (Keep.then_ (Ext.trans (Ext.trans (Ext.trans (NewB.ext n3) x101) (NewB.ext n126)) (NewB.ext n129)) (Wrote.keep k131) (fun i_ hi_ h_ => by have a_ := NewB.eq n126; have b_ := Keep.size (Ext.trans (NewB.ext n3) x101); omega)) (Wrote.keep k133) (fun i_ hi_ h_ => by have a_ := NewB.eq n129; have b_ := Keep.size (Ext.trans (Ext.trans (NewB.ext n3) x101) (NewB.ext n126)); omega)) c_)) (ih (by omega) 1 _ (kid_there (x := x) (j := 1) (by omega)) (ex_two hb (by omega) (by omega) (by omega)).2.2) hz135) (fun v_ w2_ h_ => ⟨h_.1,Ext.trans c_ h_.2⟩)) (q_val (v := .string (inB (decide (fast (x.kid 0) < fast x)) (exW (d - 1) (x.kid 0)) ++ (⟨#[32]⟩ : ByteArray) ++ (signW x.op) ++ (⟨#[32]⟩ : ByteArray) ++ (inB (decide (fast (x.kid 1) ≤ fast x)) (exW (d - 1) (x.kid 1))))) (w0 rfl) (fun w_ c_ => r_cat (ej rfl rfl) (ej rfl rfl) (by simp only [ByteArray.size_append,z0,z1,z2,z3,z4,z5,z6]; omega)) (q_val (v := .string (inB (decide (fast (x.kid 0) < fast x)) (exW (d - 1) (x.kid 0)) ++ (⟨#[32]⟩ : ByteArray) ++ (signW x.op) ++ (⟨#[32]⟩ : ByteArray) ++ (inB (decide (fast (x.kid 1) ≤ fast x)) (exW (d - 1) (x.kid 1))))) (w0 rfl) (fun w_ c_ => r_assign (v := .string (inB (decide (fast (x.kid 0) < fast x)) (exW (d - 1) (x.kid 0)) ++ (⟨#[32]⟩ : ByteArray) ++ (signW x.op) ++ (⟨#[32]⟩ : ByteArray) ++ (inB (decide (fast (x.kid 1) ≤ fast x)) (exW (d - 1) (x.kid 1))))) (ej rfl rfl)) (q_done ?_)))
    intro w136 x137
    refine n_then (c_ret (ret1 (v := .string (inB (decide (fast (x.kid 0) < fast x)) (exW (d - 1) (x.kid 0)) ++ (⟨#[32]⟩ : ByteArray) ++ (signW x.op) ++ (⟨#[32]⟩ : ByteArray) ++ (inB (decide (fast (x.kid 1) ≤ fast x)) (exW (d - 1) (x.kid 1))))) rfl rfl rfl ?_))
    refine ⟨_,rfl,?_,(Ext.trans (Keep.then_ (Keep.then_ (Ext.trans (Ext.trans (Ext.trans (NewB.ext n3) x101) (NewB.ext n126)) (NewB.ext n129)) (Wrote.keep k131) (fun i_ hi_ h_ => by have a_ := NewB.eq n126; have b_ := Keep.size (Ext.trans (NewB.ext n3) x101); omega)) (Wrote.keep k133) (fun i_ hi_ h_ => by have a_ := NewB.eq n129; have b_ := Keep.size (Ext.trans (Ext.trans (NewB.ext n3) x101) (NewB.ext n126)); omega)) x137)⟩
    (refine congrArg Value.string ?_; rw [exW_pos hd0_]; first | (rw [if_pos (by omega)]; done) | (rw [if_neg (by omega),if_pos (by omega)]; done) | (rw [if_neg (by omega),if_neg (by omega),if_pos (by omega)]; refine congrArg _ (congrArg (fun b => inB b _) ?_); simp [numB, *]; done) | (rw [if_neg (by omega),if_neg (by omega),if_neg (by omega)]; done))
  refine tl_cons ?_
  refine s_alloc (cs := #[.int .i8 0,.string (⟨#[]⟩ : ByteArray),.int .i8 0,.int .i64 0,.string (⟨#[]⟩ : ByteArray),.slice none 0 0]) (w0 rfl) F_z36 rfl ?_
  intro w139 g138 n140
  refine tl_done ⟨(Ext.trans x101 (NewB.ext n140)),?_⟩
  refine tl_cons ?_
  refine s_alloc (cs := #[.int .i8 0,.string (⟨#[]⟩ : ByteArray),.int .i8 0,.int .i64 0,.string (⟨#[]⟩ : ByteArray),.slice none 0 0]) (w0 rfl) F_z36 rfl ?_
  intro w142 g141 n143
  refine tl_done ⟨(Ext.trans (Ext.trans x101 (NewB.ext n140)) (NewB.ext n143)),?_⟩
  refine tl_cons ?_
  refine s_store (cs' := #[.int .i8 ((x.kid 0).op),.string ((x.kid 0).t.v),.int .i8 ((x.kid 0).t.l.k),.int .i64 ((x.kid 0).t.l.n),.string ((x.kid 0).t.l.s),.slice A109 ((x.kid 0).kids.length) c110]) F_sz36 (ej rfl rfl) (ej rfl rfl) (l := [.int .i8 ((x.kid 0).op),.string ((x.kid 0).t.v),.int .i8 ((x.kid 0).t.l.k),.int .i64 ((x.kid 0).t.l.n),.string ((x.kid 0).t.l.s),.slice A109 ((x.kid 0).kids.length) c110]) rfl rfl rfl (NewB.blk n143) (Nat.le_of_ble_eq_true rfl) rfl (w0 rfl) ?_
  intro w144 k145
  refine tl_done ⟨(Keep.then_ (Ext.trans (Ext.trans x101 (NewB.ext n140)) (NewB.ext n143)) (Wrote.keep k145) (fun i_ hi_ h_ => by have a_ := NewB.eq n143; have b_ := Keep.size (Ext.trans x101 (NewB.ext n140)); omega)),?_⟩
  refine tl_cons ?_
  refine s_store (cs' := #[.int .i8 ((x.kid 1).op),.string ((x.kid 1).t.v),.int .i8 ((x.kid 1).t.l.k),.int .i64 ((x.kid 1).t.l.n),.string ((x.kid 1).t.l.s),.slice A120 ((x.kid 1).kids.length) c121]) F_sz36 (ej rfl rfl) (ej rfl rfl) (l := [.int .i8 ((x.kid 1).op),.string ((x.kid 1).t.v),.int .i8 ((x.kid 1).t.l.k),.int .i64 ((x.kid 1).t.l.n),.string ((x.kid 1).t.l.s),.slice A120 ((x.kid 1).kids.length) c121]) rfl rfl rfl (Ext.blk (Keep.then_ (NewB.ext n143) (Wrote.keep k145) (fun i_ hi_ h_ => by have a_ := NewB.eq n143; have b_ := Keep.size (Ext.refl w139); omega)) (NewB.blk n140)) (Nat.le_of_ble_eq_true rfl) rfl (w0 rfl) ?_
  intro w146 k147
  refine tl_done ⟨(Keep.then_ (Keep.then_ (Ext.trans (Ext.trans x101 (NewB.ext n140)) (NewB.ext n143)) (Wrote.keep k145) (fun i_ hi_ h_ => by have a_ := NewB.eq n143; have b_ := Keep.size (Ext.trans x101 (NewB.ext n140)); omega)) (Wrote.keep k147) (fun i_ hi_ h_ => by have a_ := NewB.eq n140; have b_ := Keep.size x101; omega)),?_⟩
  refine tl_nil ?_
  refine n_then (c_seq (c_quiet mixed (by kernel_rfl) (q_val (v := .agg #[.int .i8 ((x.kid 0).op),.string ((x.kid 0).t.v),.int .i8 ((x.kid 0).t.l.k),.int .i64 ((x.kid 0).t.l.n),.string ((x.kid 0).t.l.s),.slice A109 ((x.kid 0).kids.length) c110]) (w0 rfl) (fun w_ c_ => r_loadL (cs := [.int .i8 ((x.kid 0).op),.string ((x.kid 0).t.v),.int .i8 ((x.kid 0).t.l.k),.int .i64 ((x.kid 0).t.l.n),.string ((x.kid 0).t.l.s),.slice A109 ((x.kid 0).kids.length) c110]) F_m36 (ej rfl rfl) rfl rfl (blk_cells (Ext.blk c_ (Keep.blk (Wrote.keep k147) (Wrote.blk k145) (by have a_ := NewB.eq n143; have b_ := lt_of_blk (NewB.blk n140); omega))) 0 rfl)) (q_val (v := .agg #[.int .i8 ((x.kid 0).op),.string ((x.kid 0).t.v),.int .i8 ((x.kid 0).t.l.k),.int .i64 ((x.kid 0).t.l.n),.string ((x.kid 0).t.l.s),.slice A109 ((x.kid 0).kids.length) c110]) (w0 rfl) (fun w_ c_ => r_loadL (cs := [.int .i8 ((x.kid 0).op),.string ((x.kid 0).t.v),.int .i8 ((x.kid 0).t.l.k),.int .i64 ((x.kid 0).t.l.n),.string ((x.kid 0).t.l.s),.slice A109 ((x.kid 0).kids.length) c110]) F_m36 (ej rfl rfl) rfl rfl (blk_cells (Ext.blk c_ (Keep.blk (Wrote.keep k147) (Wrote.blk k145) (by have a_ := NewB.eq n143; have b_ := lt_of_blk (NewB.blk n140); omega))) 0 rfl)) (q_call (v := .int .i64 (fast (x.kid 0))) F_e111 (w0 rfl) ev_f (m1 (ej rfl rfl)) (args := #[.agg #[.int .i8 ((x.kid 0).op),.string ((x.kid 0).t.v),.int .i8 ((x.kid 0).t.l.k),.int .i64 ((x.kid 0).t.l.n),.string ((x.kid 0).t.l.s),.slice A109 ((x.kid 0).kids.length) c110]]) rfl (fun w_ c_ => Rt.mono (r6_Fast (x.kid 0) A109 c110 _ ho111 (Row.extE hr112 (Ext.trans (Keep.then_ (Keep.then_ (Ext.trans (Ext.trans (Ext.trans (NewB.ext n3) x101) (NewB.ext n140)) (NewB.ext n143)) (Wrote.keep k145) (fun i_ hi_ h_ => by have a_ := NewB.eq n143; have b_ := Keep.size (Ext.trans (Ext.trans (NewB.ext n3) x101) (NewB.ext n140)); omega)) (Wrote.keep k147) (fun i_ hi_ h_ => by have a_ := NewB.eq n140; have b_ := Keep.size (Ext.trans (NewB.ext n3) x101); omega)) c_))) (fun v_ w2_ h_ => ⟨h_.1,Ext.trans c_ h_.2⟩)) (q_val (v := .agg #[.int .i8 x.op,.string x.t.v,.int .i8 x.t.l.k,.int .i64 x.t.l.n,.string x.t.l.s,.slice A x.kids.length c]) (w0 rfl) (fun w_ c_ => r_loadL (cs := [.int .i8 x.op,.string x.t.v,.int .i8 x.t.l.k,.int .i64 x.t.l.n,.string x.t.l.s,.slice A x.kids.length c]) F_m36 (ej rfl rfl) rfl rfl (blk_cells (Ext.blk (Ext.trans (Keep.then_ (Keep.then_ (Ext.trans (Ext.trans x101 (NewB.ext n140)) (NewB.ext n143)) (Wrote.keep k145) (fun i_ hi_ h_ => by have a_ := NewB.eq n143; have b_ := Keep.size (Ext.trans x101 (NewB.ext n140)); omega)) (Wrote.keep k147) (fun i_ hi_ h_ => by have a_ := NewB.eq n140; have b_ := Keep.size x101; omega)) c_) (NewB.blk n3)) 0 rfl)) (q_call (v := .int .i64 (fast x)) F_e111 (w0 rfl) ev_f (m1 (ej rfl rfl)) (args := #[.agg #[.int .i8 x.op,.string x.t.v,.int .i8 x.t.l.k,.int .i64 x.t.l.n,.string x.t.l.s,.slice A x.kids.length c]]) rfl (fun w_ c_ => Rt.mono (r6_Fast x A c _ ho (Row.extE hr (Ext.trans (Keep.then_ (Keep.then_ (Ext.trans (Ext.trans (Ext.trans (NewB.ext n3) x101) (NewB.ext n140)) (NewB.ext n143)) (Wrote.keep k145) (fun i_ hi_ h_ => by have a_ := NewB.eq n143; have b_ := Keep.size (Ext.trans (Ext.trans (NewB.ext n3) x101) (NewB.ext n140)); omega)) (Wrote.keep k147) (fun i_ hi_ h_ => by have a_ := NewB.eq n140; have b_ := Keep.size (Ext.trans (NewB.ext n3) x101); omega)) c_))) (fun v_ w2_ h_ => ⟨h_.1,Ext.trans c_ h_.2⟩)) (q_val (v := .bool (decide (fast (x.kid 0) < fast x))) (w0 rfl) (fun w_ c_ => r_cmp (r := decide (fast (x.kid 0) < fast x)) (ej rfl rfl) (ej rfl rfl) rfl) ?_))))))))
  have hz148 := exW_le (d := d - 1) (by omega) (exKid0 hb (by omega)) (Ex.Ok.kid hk_ (kid_there (x := x) (j := 0) (by omega)))
  have hz148_ := inB_size (decide (fast (x.kid 0) < fast x)) (exW (d - 1) (x.kid 0))
  refine q_call (v := .string (inB (decide (fast (x.kid 0) < fast x)) (exW (d - 1) (x.kid 0)))) F_e110 (w0 rfl) ev_f (m2 (ej rfl rfl) (ej rfl rfl)) (args := #[.agg #[.int .i8 ((x.kid 0).op),.string ((x.kid 0).t.v),.int .i8 ((x.kid 0).t.l.k),.int .i64 ((x.kid 0).t.l.n),.string ((x.kid 0).t.l.s),.slice A109 ((x.kid 0).kids.length) c110],.bool (decide (fast (x.kid 0) < fast x))]) rfl (fun w_ c_ => Rt.mono (r6_within (d - 1) (x.kid 0) A109 c110 (decide (fast (x.kid 0) < fast x)) _ ho111 (Row.extE hr112 (Ext.trans (Keep.then_ (Keep.then_ (Ext.trans (Ext.trans (Ext.trans (NewB.ext n3) x101) (NewB.ext n140)) (NewB.ext n143)) (Wrote.keep k145) (fun i_ hi_ h_ => by have a_ := NewB.eq n143; have b_ := Keep.size (Ext.trans (Ext.trans (NewB.ext n3) x101) (NewB.ext n140)); omega)) (Wrote.keep k147) (fun i_ hi_ h_ => by have a_ := NewB.eq n140; have b_ := Keep.size (Ext.trans (NewB.ext n3) x101); omega)) c_)) (ih (by omega) 0 _ (kid_there (x := x) (j := 0) (by omega)) (exKid0 hb (by omega))) hz148) (fun v_ w2_ h_ => ⟨h_.1,Ext.trans c_ h_.2⟩)) (q_val (v := .string (inB (decide (fast (x.kid 0) < fast x)) (exW (d - 1) (x.kid 0)) ++ (⟨#[32]⟩ : ByteArray))) (w0 rfl) (fun w_ c_ => r_cat (ej rfl rfl) ev_c (by simp only [ByteArray.size_append,z0,z1,z2,z3,z4,z5,z6]; omega)) (q_val (v := .pointer (some ⟨g1,0,none⟩)) (w0 rfl) (fun w_ c_ => r_field (off := 0) (o' := 0) F_f36_0 (ej rfl rfl) rfl) (q_val (v := .int .i8 x.op) (w0 rfl) (fun w_ c_ => r_load (v := .int .i8 x.op) F_o28 (ej rfl rfl) (cell_of_blk (i := 0) (Ext.blk (Ext.trans (Keep.then_ (Keep.then_ (Ext.trans (Ext.trans x101 (NewB.ext n140)) (NewB.ext n143)) (Wrote.keep k145) (fun i_ hi_ h_ => by have a_ := NewB.eq n143; have b_ := Keep.size (Ext.trans x101 (NewB.ext n140)); omega)) (Wrote.keep k147) (fun i_ hi_ h_ => by have a_ := NewB.eq n140; have b_ := Keep.size x101; omega)) c_) (NewB.blk n3)) rfl)) (q_call (v := .string (signW x.op)) F_e112 (w0 rfl) ev_f (m1 (ej rfl rfl)) (args := #[.int .i8 x.op]) rfl (fun w_ c_ => Rt.mono (r6_sign x.op _) (fun v_ w2_ h_ => ⟨h_.1,Ext.trans c_ h_.2⟩)) (q_val (v := .string (inB (decide (fast (x.kid 0) < fast x)) (exW (d - 1) (x.kid 0)) ++ (⟨#[32]⟩ : ByteArray) ++ (signW x.op))) (w0 rfl) (fun w_ c_ => r_cat (ej rfl rfl) (ej rfl rfl) (by simp only [ByteArray.size_append,z0,z1,z2,z3,z4,z5,z6]; omega)) (q_val (v := .string (inB (decide (fast (x.kid 0) < fast x)) (exW (d - 1) (x.kid 0)) ++ (⟨#[32]⟩ : ByteArray) ++ (signW x.op) ++ (⟨#[32]⟩ : ByteArray))) (w0 rfl) (fun w_ c_ => r_cat (ej rfl rfl) ev_c (by simp only [ByteArray.size_append,z0,z1,z2,z3,z4,z5,z6]; omega)) (q_val (v := .agg #[.int .i8 ((x.kid 1).op),.string ((x.kid 1).t.v),.int .i8 ((x.kid 1).t.l.k),.int .i64 ((x.kid 1).t.l.n),.string ((x.kid 1).t.l.s),.slice A120 ((x.kid 1).kids.length) c121]) (w0 rfl) (fun w_ c_ => r_loadL (cs := [.int .i8 ((x.kid 1).op),.string ((x.kid 1).t.v),.int .i8 ((x.kid 1).t.l.k),.int .i64 ((x.kid 1).t.l.n),.string ((x.kid 1).t.l.s),.slice A120 ((x.kid 1).kids.length) c121]) F_m36 (ej rfl rfl) rfl rfl (blk_cells (Ext.blk c_ (Wrote.blk k147)) 0 rfl)) (q_val (v := .agg #[.int .i8 ((x.kid 1).op),.string ((x.kid 1).t.v),.int .i8 ((x.kid 1).t.l.k),.int .i64 ((x.kid 1).t.l.n),.string ((x.kid 1).t.l.s),.slice A120 ((x.kid 1).kids.length) c121]) (w0 rfl) (fun w_ c_ => r_loadL (cs := [.int .i8 ((x.kid 1).op),.string ((x.kid 1).t.v),.int .i8 ((x.kid 1).t.l.k),.int .i64 ((x.kid 1).t.l.n),.string ((x.kid 1).t.l.s),.slice A120 ((x.kid 1).kids.length) c121]) F_m36 (ej rfl rfl) rfl rfl (blk_cells (Ext.blk c_ (Wrote.blk k147)) 0 rfl)) (q_call (v := .int .i64 (fast (x.kid 1))) F_e111 (w0 rfl) ev_f (m1 (ej rfl rfl)) (args := #[.agg #[.int .i8 ((x.kid 1).op),.string ((x.kid 1).t.v),.int .i8 ((x.kid 1).t.l.k),.int .i64 ((x.kid 1).t.l.n),.string ((x.kid 1).t.l.s),.slice A120 ((x.kid 1).kids.length) c121]]) rfl (fun w_ c_ => Rt.mono (r6_Fast (x.kid 1) A120 c121 _ ho122 (Row.extE hr123 (Ext.trans (Keep.then_ (Keep.then_ (Ext.trans (Ext.trans (Ext.trans (NewB.ext n3) x101) (NewB.ext n140)) (NewB.ext n143)) (Wrote.keep k145) (fun i_ hi_ h_ => by have a_ := NewB.eq n143; have b_ := Keep.size (Ext.trans (Ext.trans (NewB.ext n3) x101) (NewB.ext n140)); omega)) (Wrote.keep k147) (fun i_ hi_ h_ => by have a_ := NewB.eq n140; have b_ := Keep.size (Ext.trans (NewB.ext n3) x101); omega)) c_))) (fun v_ w2_ h_ => ⟨h_.1,Ext.trans c_ h_.2⟩)) (q_val (v := .agg #[.int .i8 x.op,.string x.t.v,.int .i8 x.t.l.k,.int .i64 x.t.l.n,.string x.t.l.s,.slice A x.kids.length c]) (w0 rfl) (fun w_ c_ => r_loadL (cs := [.int .i8 x.op,.string x.t.v,.int .i8 x.t.l.k,.int .i64 x.t.l.n,.string x.t.l.s,.slice A x.kids.length c]) F_m36 (ej rfl rfl) rfl rfl (blk_cells (Ext.blk (Ext.trans (Keep.then_ (Keep.then_ (Ext.trans (Ext.trans x101 (NewB.ext n140)) (NewB.ext n143)) (Wrote.keep k145) (fun i_ hi_ h_ => by have a_ := NewB.eq n143; have b_ := Keep.size (Ext.trans x101 (NewB.ext n140)); omega)) (Wrote.keep k147) (fun i_ hi_ h_ => by have a_ := NewB.eq n140; have b_ := Keep.size x101; omega)) c_) (NewB.blk n3)) 0 rfl)) (q_call (v := .int .i64 (fast x)) F_e111 (w0 rfl) ev_f (m1 (ej rfl rfl)) (args := #[.agg #[.int .i8 x.op,.string x.t.v,.int .i8 x.t.l.k,.int .i64 x.t.l.n,.string x.t.l.s,.slice A x.kids.length c]]) rfl (fun w_ c_ => Rt.mono (r6_Fast x A c _ ho (Row.extE hr (Ext.trans (Keep.then_ (Keep.then_ (Ext.trans (Ext.trans (Ext.trans (NewB.ext n3) x101) (NewB.ext n140)) (NewB.ext n143)) (Wrote.keep k145) (fun i_ hi_ h_ => by have a_ := NewB.eq n143; have b_ := Keep.size (Ext.trans (Ext.trans (NewB.ext n3) x101) (NewB.ext n140)); omega)) (Wrote.keep k147) (fun i_ hi_ h_ => by have a_ := NewB.eq n140; have b_ := Keep.size (Ext.trans (NewB.ext n3) x101); omega)) c_))) (fun v_ w2_ h_ => ⟨h_.1,Ext.trans c_ h_.2⟩)) ?_)))))))))))
  refine q_val (v := .bool (decide (fast (x.kid 1) ≤ fast x))) (w0 rfl) (fun w_ c_ => r_cmp (r := decide (fast (x.kid 1) ≤ fast x)) (ej rfl rfl) (ej rfl rfl) rfl) ?_
  have hz149 := exW_le (d := d - 1) (by omega) (ex_two hb (by omega) (by omega) (by omega)).2.2 (Ex.Ok.kid hk_ (kid_there (x := x) (j := 1) (by omega)))
  have hz149_ := inB_size (decide (fast (x.kid 1) ≤ fast x)) (exW (d - 1) (x.kid 1))
  refine q_call (v := .string (inB (decide (fast (x.kid 1) ≤ fast x)) (exW (d - 1) (x.kid 1)))) F_e110 (w0 rfl) ev_f (m2 (ej rfl rfl) (ej rfl rfl)) (args := #[.agg #[.int .i8 ((x.kid 1).op),.string ((x.kid 1).t.v),.int .i8 ((x.kid 1).t.l.k),.int .i64 ((x.kid 1).t.l.n),.string ((x.kid 1).t.l.s),.slice A120 ((x.kid 1).kids.length) c121],.bool (decide (fast (x.kid 1) ≤ fast x))]) rfl (fun w_ c_ => Rt.mono (r6_within (d - 1) (x.kid 1) A120 c121 (decide (fast (x.kid 1) ≤ fast x)) _ ho122 (Row.extE hr123 (Ext.trans (Keep.then_ (Keep.then_ (Ext.trans (Ext.trans (Ext.trans (NewB.ext n3) x101) (NewB.ext n140)) (NewB.ext n143)) (Wrote.keep k145) (fun i_ hi_ h_ => by have a_ := NewB.eq n143; have b_ := Keep.size (Ext.trans (Ext.trans (NewB.ext n3) x101) (NewB.ext n140)); omega)) (Wrote.keep k147) (fun i_ hi_ h_ => by have a_ := NewB.eq n140; have b_ := Keep.size (Ext.trans (NewB.ext n3) x101); omega)) c_)) (ih (by omega) 1 _ (kid_there (x := x) (j := 1) (by omega)) (ex_two hb (by omega) (by omega) (by omega)).2.2) hz149) (fun v_ w2_ h_ => ⟨h_.1,Ext.trans c_ h_.2⟩)) (q_val (v := .string (inB (decide (fast (x.kid 0) < fast x)) (exW (d - 1) (x.kid 0)) ++ (⟨#[32]⟩ : ByteArray) ++ (signW x.op) ++ (⟨#[32]⟩ : ByteArray) ++ (inB (decide (fast (x.kid 1) ≤ fast x)) (exW (d - 1) (x.kid 1))))) (w0 rfl) (fun w_ c_ => r_cat (ej rfl rfl) (ej rfl rfl) (by simp only [ByteArray.size_append,z0,z1,z2,z3,z4,z5,z6]; omega)) (q_val (v := .string (inB (decide (fast (x.kid 0) < fast x)) (exW (d - 1) (x.kid 0)) ++ (⟨#[32]⟩ : ByteArray) ++ (signW x.op) ++ (⟨#[32]⟩ : ByteArray) ++ (inB (decide (fast (x.kid 1) ≤ fast x)) (exW (d - 1) (x.kid 1))))) (w0 rfl) (fun w_ c_ => r_assign (v := .string (inB (decide (fast (x.kid 0) < fast x)) (exW (d - 1) (x.kid 0)) ++ (⟨#[32]⟩ : ByteArray) ++ (signW x.op) ++ (⟨#[32]⟩ : ByteArray) ++ (inB (decide (fast (x.kid 1) ≤ fast x)) (exW (d - 1) (x.kid 1))))) (ej rfl rfl)) (q_done ?_)))
  intro w150 x151
  refine n_then (c_ret (ret1 (v := .string (inB (decide (fast (x.kid 0) < fast x)) (exW (d - 1) (x.kid 0)) ++ (⟨#[32]⟩ : ByteArray) ++ (signW x.op) ++ (⟨#[32]⟩ : ByteArray) ++ (inB (decide (fast (x.kid 1) ≤ fast x)) (exW (d - 1) (x.kid 1))))) rfl rfl rfl ?_))
  refine ⟨_,rfl,?_,(Ext.trans (Keep.then_ (Keep.then_ (Ext.trans (Ext.trans (Ext.trans (NewB.ext n3) x101) (NewB.ext n140)) (NewB.ext n143)) (Wrote.keep k145) (fun i_ hi_ h_ => by have a_ := NewB.eq n143; have b_ := Keep.size (Ext.trans (Ext.trans (NewB.ext n3) x101) (NewB.ext n140)); omega)) (Wrote.keep k147) (fun i_ hi_ h_ => by have a_ := NewB.eq n140; have b_ := Keep.size (Ext.trans (NewB.ext n3) x101); omega)) x151)⟩
  (refine congrArg Value.string ?_; rw [exW_pos hd0_]; first | (rw [if_pos (by omega)]; done) | (rw [if_neg (by omega),if_pos (by omega)]; done) | (rw [if_neg (by omega),if_neg (by omega),if_pos (by omega)]; refine congrArg _ (congrArg (fun b => inB b _) ?_); simp [numB, *]; done) | (rw [if_neg (by omega),if_neg (by omega),if_neg (by omega)]; done))
theorem r6_expr : ∀ (d : Nat) (x : Ex) (A : Option Addr) (c : Nat) (w : World),d ≤ 8 → exB d x = true → x.okc c → Row RE 6 w A x.kids → Rt Tryz.prog 73 #[.agg #[.int .i8 x.op,.string x.t.v,.int .i8 x.t.l.k,.int .i64 x.t.l.n,.string x.t.l.s,.slice A x.kids.length c]] w fun v w' => v = .string (exW d x) ∧ Ext w w' := by
  intro d
  induction d with
  | zero =>
    intro x A c w hd hb ho hr
    simp [exB] at hb
  | succ d ih =>
    intro x A c w hd hb ho hr
    exact r6_expr_step (d + 1) x A c w ho hr hd hb (fun _ j y hj hy A c w ho hr => ih y A c w (by omega) hy ho hr)
end Go.Proofs.Zw

set_option linter.unusedVariables false
set_option linter.unusedSimpArgs false
namespace Go.Wk
open Go Go.RowKit Go.Lib
section
variable {P : Program} {ops : Array Oper} {Q : Exit → Act → World → Prop} {rest : List Oper} {n d t : Nat} {env : Nat → Value} {ds : List Deferred} {w w' : World} {v u : Value}
  {ty T : TypeId} {pos : String} {af : Array Edge} {gd : Option (Nat × Bool)} {x y z : Operand}
/-- A text's bytes in a block. -/
def SB (w : World) (g : Nat) (s : ByteArray) : Prop := ∀ j,j < s.size → w.cell? ⟨g,0 + j * 1,none⟩ = some (.int .u8 (byteAt s j))
theorem SB.ext {g : Nat} {s : ByteArray} (h : SB w g s) (k : Ext w w') : SB w' g s := fun j hj => k.cell (h j hj)
/-- []byte(s) -/
theorem s_sbytes {S2 e : TypeId} {s : ByteArray} (hs : P.underlying T = some .string) (hd : P.underlying S2 = some (.slice e)) (he : P.underlying e = some (.int .u8)) (hx : (mkA n env ds).eval x = .string s)
    (hw : Region.wanted ⟨some d,.convert T S2 x,ty,pos,af,gd⟩ (yielded ops (mkA n env ds).tmps) = true)
    (k : ∀ w' g c,SB w' g s → Ext w w' → wpList P ops Q rest (mkA n (upd env d (.slice (some ⟨g,0,none⟩) s.size c)) ds) w') : wpList P ops Q (⟨some d,.convert T S2 x,ty,pos,af,gd⟩ :: rest) (mkA n env ds) w := by
  refine s_val hw (w' := bytesWorld w e s) (v := .slice (some ⟨w.heap.size,0,none⟩) s.size (grownCap w s.size 0 e)) ?_ (k _ _ _ ?_ ?_)
  · simp only [execOp,hx]
    rw [Sem.run_bind,Go.Lib.run_convert_string_bytes w T S2 e s hs hd he]
    rfl
  · intro j hj
    have := bytesWorld_cell w e s j hj
    rw [Nat.zero_add,Nat.mul_one,this]
    congr 2
    simp [byteAt,Array.getD_eq_getD_getElem?,List.getD_eq_getElem?_getD]
  · refine ⟨rfl,rfl,rfl,?_,fun j hj _ => bytesWorld_at_old w e s j hj⟩
    rw [bytesWorld_size]; omega
end
/-- A word is one, asked from the first byte on. -/
theorem wordB_yes0 {s : ByteArray} {lo hi : Int} (h1 : ¬ (s.size : Int) = 0) (h2 : ¬ (120 : Int) < s.size) (h3 : ¬ (byteAt s 0 : Int) < lo) (h4 : ¬ hi < (byteAt s 0 : Int)) {i : Nat} (hi' : ¬ (i : Int) < s.size) (h5 : ∀ j,j < i → letterB (byteAt s j) = true) : wordB s lo hi = true := by
  simp only [wordB,decide_eq_true_eq]
  exact ⟨by omega,by omega,by omega,by omega,fun j hj => h5 j (by omega)⟩
/-- Where the first one lies, or -1. -/
def posB {α : Type} (p : α → Bool) (l : List α) : Int := match l.findIdx? p with
  | some i => (i : Int)
  | none => -1
theorem posB_at {α : Type} {p : α → Bool} {l : List α} {i : Nat} {z : α} (h : ∀ j y,j < i → l[j]? = some y → p y = false) (hz : l[i]? = some z) (hp : p z = true) : posB p l = i := by
  have hi : i < l.length := (List.getElem?_eq_some_iff.1 hz).1
  have he : l[i] = z := (List.getElem?_eq_some_iff.1 hz).2
  have : l.findIdx? p = some i := by
    rw [List.findIdx?_eq_some_iff_getElem]
    refine ⟨hi,by rw [he]; exact hp,fun j hj => ?_⟩
    have := h j (l[j]'(by omega)) hj (List.getElem?_eq_getElem _)
    simp [this]
  simp [posB,this]
theorem posB_none {α : Type} {p : α → Bool} {l : List α} {i : Nat} (hi : ¬ (i : Int) < l.length) (h : ∀ j y,j < i → l[j]? = some y → p y = false) : posB p l = -1 := by
  have : l.findIdx? p = none := by
    rw [List.findIdx?_eq_none_iff]
    intro y hy
    obtain ⟨j,hj,rfl⟩ := List.getElem_of_mem hy
    exact h j _ (by omega) (List.getElem?_eq_getElem hj)
  simp [posB,this]
theorem kids_stepF {α : Type} {p : α → Bool} {l : List α} {i : Nat} {z : α} (h : ∀ j y,j < i → l[j]? = some y → p y = false) (hz : l[i]? = some z) (hp : p z = false) : ∀ j y,j < i + 1 → l[j]? = some y → p y = false := by
  intro j y hj hy
  rcases Nat.lt_succ_iff_lt_or_eq.1 hj with hj | rfl
  · exact h j y hj hy
  · rw [hz] at hy; cases hy; exact hp
theorem posB_all {α : Type} (p : α → Bool) (l : List α) : (!decide (0 ≤ posB (fun y => !p y) l)) = l.all p := by
  rw [Bool.eq_iff_iff]
  simp only [Bool.not_eq_true',decide_eq_false_iff_not,List.all_eq_true]
  unfold posB
  cases h : l.findIdx? (fun y => !p y) with
  | none =>
    rw [List.findIdx?_eq_none_iff] at h
    simp only [Int.reduceNeg]
    exact ⟨fun _ y hy => by simpa using h y hy,fun _ => by omega⟩
  | some i =>
    rw [List.findIdx?_eq_some_iff_getElem] at h
    obtain ⟨hi,h1,_⟩ := h
    simp only
    refine ⟨fun h => absurd (Int.natCast_nonneg i) h,fun h => ?_⟩
    have := h _ (List.getElem_mem hi)
    simp [this] at h1
end Go.Wk

set_option linter.unusedVariables false
set_option linter.unusedSimpArgs false
set_option maxRecDepth 10000
namespace Go.Proofs.Zw
open Go Go.Wk Go.Proofs Go.Lib
attribute [local irreducible] Go.wpList Go.wpStill Go.wpQuiet Go.Code.wp Go.Calls
theorem F_e103 : enterable Tryz.prog 103 = true := by kernel_rfl
theorem F_e105 : enterable Tryz.prog 105 = true := by kernel_rfl
theorem F_e64 : enterable Tryz.prog 64 = true := by kernel_rfl
theorem F_e68 : enterable Tryz.prog 68 = true := by kernel_rfl
theorem F_l93 : sliceT Tryz.prog 93 1 = true := by kernel_rfl
theorem F_o5 : one Tryz.prog 5 = true := by kernel_rfl
theorem eqzT33eql (x : Tm) (a b : Operand) (w : World) : (do eqGuard .eql 33 a b (.agg #[.string x.v,.int .i8 x.l.k,.int .i64 x.l.n,.string x.l.s]) (.agg #[.string ⟨#[]⟩,.int .i8 0,.int .i64 0,.string ⟨#[]⟩]); binOp .eql 33 (.agg #[.string x.v,.int .i8 x.l.k,.int .i64 x.l.n,.string x.l.s]) (.agg #[.string ⟨#[]⟩,.int .i8 0,.int .i64 0,.string ⟨#[]⟩]) : Sem Value).run Tryz.prog w = .ok (.bool (zT x)) w := by
  have hu := Tryz.underlying33
  go_simp
  simp only [toList_nil_iff]
  (first | (by_cases h0 : x.v = (⟨#[]⟩ : ByteArray)) | skip) <;> (first | (by_cases h1 : x.k = 0 <;> by_cases h2 : x.n = 0 <;> by_cases h3 : x.s = (⟨#[]⟩ : ByteArray)) | (by_cases h1 : x.l.k = 0 <;> by_cases h2 : x.l.n = 0 <;> by_cases h3 : x.l.s = (⟨#[]⟩ : ByteArray))) <;> simp [zV,zT, *]
theorem v_Check (x : Vl) (w : World) :
    Rt Tryz.prog 105 #[.agg #[.int .i8 x.k,.int .i64 x.n,.string x.s]] w fun v w' => v = .int .i64 (if okV x then 0 else 10 : Int) ∧ Ext w w' := by
  refine enter Tryz.func105 rfl (l := [.agg #[.int .i8 x.k,.int .i64 x.n,.string x.s]]) rfl Tryz.ntmps105 (Nat.le_of_ble_eq_true rfl) ?_
  refine c_seq (c_reg (s_box (v := .agg #[.int .i8 x.k,.int .i64 x.n,.string x.s]) (cs := #[.int .i8 x.k,.int .i64 x.n,.string x.s]) (w0 rfl) (ej rfl rfl) rfl ?_))
  intro w2 g1 n3
  refine s_assign (v := .int .i64 0) ev_c (w0 rfl) (c_done (n_then (c_seq (c_seq (c_reg (s_field (off := 0) (o' := 0) F_f31_0 (ej rfl rfl) rfl (w0 rfl) (s_load (v := .int .i8 x.k) F_o29 (ej rfl rfl) (cell_of_blk (i := 0) (NewB.blk n3) rfl) (w0 rfl) (c_done (n_then (c_block (c_seq ?_)))))))))))
  refine c_reg (s_cmp (r := decide (x.k = 1)) (ej rfl rfl) ev_c rfl (w0 rfl) (s_assign (v := .bool (decide (x.k = 1))) (ej rfl rfl) (w0 rfl) (c_done (n_then ?_))))
  by_cases h4 : x.k = 1
  · refine c_cond1 (vb (ej rfl rfl) (decide_eq_true h4)) (c_seq (c_reg (s_field (off := 2) (o' := 2) F_f31_2 (ej rfl rfl) rfl (w0 rfl) (s_load (v := .string x.s) F_o9 (ej rfl rfl) (cell_of_blk (i := 2) (NewB.blk n3) rfl) (w0 rfl) (s_cmpS (r := decide (x.s = (⟨#[]⟩ : ByteArray))) (ej rfl rfl) ev_c rfl (w0 rfl) (c_done (n_then ?_)))))))
    by_cases h5 : x.s = (⟨#[]⟩ : ByteArray)
    · refine c_cond1 (vb (ej rfl rfl) (decide_eq_true h5)) (c_seq (c_reg (s_assign (v := .int .i64 0) ev_c (w0 rfl) (c_done (n_then (c_ret (r_block (r_then (ret1 (v := .int .i64 0) rfl rfl rfl ?_)))))))))
      refine ⟨_,rfl,?_,(NewB.ext n3)⟩
      (first | rfl | (simp [okV, *]; done) | (simp [okV, *]; omega) | (simp [okV, *] <;> omega))
    refine c_cond0 (vb (ej rfl rfl) (decide_eq_false h5)) (c_skip (n_block (n_then (c_seq (c_reg (s_assign (v := .int .i64 10) ev_c (w0 rfl) (c_done (n_then (c_ret (ret1 (v := .int .i64 10) rfl rfl rfl ?_))))))))))
    refine ⟨_,rfl,?_,(NewB.ext n3)⟩
    (first | rfl | (simp [okV, *]; done) | (simp [okV, *]; omega) | (simp [okV, *] <;> omega))
  refine c_cond0 (vb (ej rfl rfl) (decide_eq_false h4)) (c_seq (c_reg (s_cmp (r := decide (x.k = 2)) (ej rfl rfl) ev_c rfl (w0 rfl) (s_assign (v := .bool (decide (x.k = 2))) (ej rfl rfl) (w0 rfl) (c_done (n_then ?_))))))
  by_cases h6 : x.k = 2
  · refine c_cond1 (vb (ej rfl rfl) (decide_eq_true h6)) (c_seq (c_reg (s_field (off := 1) (o' := 1) F_f31_1 (ej rfl rfl) rfl (w0 rfl) (s_load (v := .int .i64 x.n) F_o2 (ej rfl rfl) (cell_of_blk (i := 1) (NewB.blk n3) rfl) (w0 rfl) (s_cmp (r := decide (x.n = 0)) (ej rfl rfl) ev_c rfl (w0 rfl) ?_)))))
    by_cases h7 : x.n = 0
    · refine s_move (v := .bool true) (vb (ej rfl rfl) (decide_eq_true h7)) (w0 rfl) (s_field (off := 2) (o' := 2) F_f31_2 (ej rfl rfl) rfl (wy rfl rfl rfl rfl) (s_load (v := .string x.s) F_o9 (ej rfl rfl) (cell_of_blk (i := 2) (NewB.blk n3) rfl) (wy rfl rfl rfl rfl) (s_lenS F_us9 (ej rfl rfl) (wy rfl rfl rfl rfl) (s_cmp (r := decide ((x.s.size : Int) ≤ 200)) (ej rfl rfl) ev_c rfl (wy rfl rfl rfl rfl) (s_pick1 (v := .bool (decide ((x.s.size : Int) ≤ 200))) (ej rfl rfl) (ej rfl rfl) (w0 rfl) (c_done (n_then ?_)))))))
      by_cases h8 : (x.s.size : Int) ≤ 200
      · refine c_cond1 (vb (ej rfl rfl) (decide_eq_true h8)) (c_seq (c_reg (s_assign (v := .int .i64 0) ev_c (w0 rfl) (c_done (n_then (c_ret (r_block (r_then (ret1 (v := .int .i64 0) rfl rfl rfl ?_)))))))))
        refine ⟨_,rfl,?_,(NewB.ext n3)⟩
        (first | rfl | (simp [okV, *]; done) | (simp [okV, *]; omega) | (simp [okV, *] <;> omega))
      refine c_cond0 (vb (ej rfl rfl) (decide_eq_false h8)) (c_skip (n_block (n_then (c_seq (c_reg (s_assign (v := .int .i64 10) ev_c (w0 rfl) (c_done (n_then (c_ret (ret1 (v := .int .i64 10) rfl rfl rfl ?_))))))))))
      refine ⟨_,rfl,?_,(NewB.ext n3)⟩
      (first | rfl | (simp [okV, *]; done) | (simp [okV, *]; omega) | (simp [okV, *] <;> omega))
    refine s_move (v := .bool false) (vb (ej rfl rfl) (decide_eq_false h7)) (w0 rfl) (s_skip (wn rfl rfl rfl rfl rfl) (s_skip (wn rfl rfl rfl rfl rfl) (s_skip (wn rfl rfl rfl rfl rfl) (s_skip (wn rfl rfl rfl rfl rfl) (s_pick0 (v := .bool false) (ej rfl rfl) ev_c (w0 rfl) (c_done (n_then (c_cond0 (ej rfl rfl) (c_skip (n_block (n_then ?_)))))))))))
    refine c_seq (c_reg (s_assign (v := .int .i64 10) ev_c (w0 rfl) (c_done (n_then (c_ret (ret1 (v := .int .i64 10) rfl rfl rfl ?_))))))
    refine ⟨_,rfl,?_,(NewB.ext n3)⟩
    (first | rfl | (simp [okV, *]; done) | (simp [okV, *]; omega) | (simp [okV, *] <;> omega))
  refine c_cond0 (vb (ej rfl rfl) (decide_eq_false h6)) (c_skip (n_block (n_then (c_seq (c_reg (s_assign (v := .int .i64 10) ev_c (w0 rfl) (c_done (n_then (c_ret (ret1 (v := .int .i64 10) rfl rfl rfl ?_))))))))))
  refine ⟨_,rfl,?_,(NewB.ext n3)⟩
  (first | rfl | (simp [okV, *]; done) | (simp [okV, *]; omega) | (simp [okV, *] <;> omega))
theorem t_code (b : Bool) (w : World) :
    Rt Tryz.prog 64 #[.bool b] w fun v w' => v = .int .i64 (code b) ∧ Ext w w' := by
  refine enter Tryz.func64 rfl (l := [.bool b]) rfl Tryz.ntmps64 (Nat.le_of_ble_eq_true rfl) ?_
  refine c_seq (c_reg (s_assign (v := .int .i64 0) ev_c (w0 rfl) (c_done (n_then (c_seq (c_seq (c_reg (s_move (v := .bool b) (ej rfl rfl) (w0 rfl) (c_done (n_then ?_))))))))))
  rcases Bool.eq_false_or_eq_true b with h1 | h1
  · refine c_cond1 (vb (ej rfl rfl) h1) (c_seq (c_reg (s_assign (v := .int .i64 0) ev_c (w0 rfl) (c_done (n_then (c_ret (r_then (ret1 (v := .int .i64 0) rfl rfl rfl ?_))))))))
    refine ⟨_,rfl,?_,(Ext.refl w)⟩
    (first | rfl | (simp [code, *]; done) | (simp [code, *]; omega) | (simp [code, *] <;> omega))
  refine c_cond0 (vb (ej rfl rfl) h1) (c_skip (n_then (c_seq (c_reg (s_assign (v := .int .i64 40) ev_c (w0 rfl) (c_done (n_then (c_ret (ret1 (v := .int .i64 40) rfl rfl rfl ?_)))))))))
  refine ⟨_,rfl,?_,(Ext.refl w)⟩
  (first | rfl | (simp [code, *]; done) | (simp [code, *]; omega) | (simp [code, *] <;> omega))
theorem t_arity (op : Int) (w : World) :
    Rt Tryz.prog 133 #[.int .i8 op] w fun v w' => v = .int .i64 (kidsN op) ∧ Ext w w' := by
  refine enter Tryz.func133 rfl (l := [.int .i8 op]) rfl Tryz.ntmps133 (Nat.le_of_ble_eq_true rfl) ?_
  refine c_seq (c_reg (s_assign (v := .int .i64 0) ev_c (w0 rfl) (c_done (n_then (c_seq (c_seq (c_reg (s_move (v := .int .i8 op) (ej rfl rfl) (w0 rfl) (c_done (n_then (c_block ?_)))))))))))
  refine c_seq (c_seq (c_reg (s_cmp (r := decide (op = 1)) (ej rfl rfl) ev_c rfl (w0 rfl) (s_assign (v := .bool (decide (op = 1))) (ej rfl rfl) (w0 rfl) (c_done (n_then ?_))))))
  by_cases h1 : op = 1
  · refine c_cond1 (vb (ej rfl rfl) (decide_eq_true h1)) (c_skip (n_then (c_cond1 (vb (ej rfl rfl) (decide_eq_true h1)) (c_seq (c_reg (s_assign (v := .int .i64 1) ev_c (w0 rfl) (c_done (n_then (c_ret (r_block (r_then ?_)))))))))))
    refine ret1 (v := .int .i64 1) rfl rfl rfl ?_
    refine ⟨_,rfl,?_,(Ext.refl w)⟩
    (refine congrArg (Value.int .i64) ?_; unfold kidsN; first | rw [if_pos (by omega)] | rw [if_neg (by omega),if_pos (by omega)] | rw [if_neg (by omega),if_neg (by omega)])
  refine c_cond0 (vb (ej rfl rfl) (decide_eq_false h1)) (c_seq (c_reg (s_cmp (r := decide (op = 8)) (ej rfl rfl) ev_c rfl (w0 rfl) (s_assign (v := .bool (decide (op = 8))) (ej rfl rfl) (w0 rfl) (c_done (n_then ?_))))))
  by_cases h2 : op = 8
  · refine c_cond1 (vb (ej rfl rfl) (decide_eq_true h2)) (c_skip (n_then (c_cond1 (vb (ej rfl rfl) (decide_eq_true h2)) (c_seq (c_reg (s_assign (v := .int .i64 1) ev_c (w0 rfl) (c_done (n_then (c_ret (r_block (r_then ?_)))))))))))
    refine ret1 (v := .int .i64 1) rfl rfl rfl ?_
    refine ⟨_,rfl,?_,(Ext.refl w)⟩
    (refine congrArg (Value.int .i64) ?_; unfold kidsN; first | rw [if_pos (by omega)] | rw [if_neg (by omega),if_pos (by omega)] | rw [if_neg (by omega),if_neg (by omega)])
  refine c_cond0 (vb (ej rfl rfl) (decide_eq_false h2)) (c_seq (c_reg (s_cmp (r := decide (op = 9)) (ej rfl rfl) ev_c rfl (w0 rfl) (s_assign (v := .bool (decide (op = 9))) (ej rfl rfl) (w0 rfl) (c_done (n_then ?_))))))
  by_cases h3 : op = 9
  · refine c_cond1 (vb (ej rfl rfl) (decide_eq_true h3)) (c_skip (n_then (c_cond1 (vb (ej rfl rfl) (decide_eq_true h3)) (c_seq (c_reg (s_assign (v := .int .i64 1) ev_c (w0 rfl) (c_done (n_then (c_ret (r_block (r_then ?_)))))))))))
    refine ret1 (v := .int .i64 1) rfl rfl rfl ?_
    refine ⟨_,rfl,?_,(Ext.refl w)⟩
    (refine congrArg (Value.int .i64) ?_; unfold kidsN; first | rw [if_pos (by omega)] | rw [if_neg (by omega),if_pos (by omega)] | rw [if_neg (by omega),if_neg (by omega)])
  refine c_cond0 (vb (ej rfl rfl) (decide_eq_false h3)) (c_reg (s_cmp (r := decide (op = 10)) (ej rfl rfl) ev_c rfl (w0 rfl) (s_assign (v := .bool (decide (op = 10))) (ej rfl rfl) (w0 rfl) (c_done (n_then ?_)))))
  by_cases h4 : op = 10
  · refine c_cond1 (vb (ej rfl rfl) (decide_eq_true h4)) (c_seq (c_reg (s_assign (v := .int .i64 1) ev_c (w0 rfl) (c_done (n_then (c_ret (r_block (r_then (ret1 (v := .int .i64 1) rfl rfl rfl ?_)))))))))
    refine ⟨_,rfl,?_,(Ext.refl w)⟩
    (refine congrArg (Value.int .i64) ?_; unfold kidsN; first | rw [if_pos (by omega)] | rw [if_neg (by omega),if_pos (by omega)] | rw [if_neg (by omega),if_neg (by omega)])
  refine c_cond0 (vb (ej rfl rfl) (decide_eq_false h4)) (c_seq (c_seq (c_reg (s_cmp (r := decide (op = 2)) (ej rfl rfl) ev_c rfl (w0 rfl) (s_assign (v := .bool (decide (op = 2))) (ej rfl rfl) (w0 rfl) (c_done (n_then ?_)))))))
  by_cases h5 : op = 2
  · refine c_cond1 (vb (ej rfl rfl) (decide_eq_true h5)) (c_skip (n_then (c_cond1 (vb (ej rfl rfl) (decide_eq_true h5)) (c_seq (c_reg (s_assign (v := .int .i64 2) ev_c (w0 rfl) (c_done (n_then (c_ret (r_block (r_then ?_)))))))))))
    refine ret1 (v := .int .i64 2) rfl rfl rfl ?_
    refine ⟨_,rfl,?_,(Ext.refl w)⟩
    (refine congrArg (Value.int .i64) ?_; unfold kidsN; first | rw [if_pos (by omega)] | rw [if_neg (by omega),if_pos (by omega)] | rw [if_neg (by omega),if_neg (by omega)])
  refine c_cond0 (vb (ej rfl rfl) (decide_eq_false h5)) (c_seq (c_reg (s_cmp (r := decide (op = 3)) (ej rfl rfl) ev_c rfl (w0 rfl) (s_assign (v := .bool (decide (op = 3))) (ej rfl rfl) (w0 rfl) (c_done (n_then ?_))))))
  by_cases h6 : op = 3
  · refine c_cond1 (vb (ej rfl rfl) (decide_eq_true h6)) (c_skip (n_then (c_cond1 (vb (ej rfl rfl) (decide_eq_true h6)) (c_seq (c_reg (s_assign (v := .int .i64 2) ev_c (w0 rfl) (c_done (n_then (c_ret (r_block (r_then ?_)))))))))))
    refine ret1 (v := .int .i64 2) rfl rfl rfl ?_
    refine ⟨_,rfl,?_,(Ext.refl w)⟩
    (refine congrArg (Value.int .i64) ?_; unfold kidsN; first | rw [if_pos (by omega)] | rw [if_neg (by omega),if_pos (by omega)] | rw [if_neg (by omega),if_neg (by omega)])
  refine c_cond0 (vb (ej rfl rfl) (decide_eq_false h6)) (c_seq (c_reg (s_cmp (r := decide (op = 4)) (ej rfl rfl) ev_c rfl (w0 rfl) (s_assign (v := .bool (decide (op = 4))) (ej rfl rfl) (w0 rfl) (c_done (n_then ?_))))))
  by_cases h7 : op = 4
  · refine c_cond1 (vb (ej rfl rfl) (decide_eq_true h7)) (c_skip (n_then (c_cond1 (vb (ej rfl rfl) (decide_eq_true h7)) (c_seq (c_reg (s_assign (v := .int .i64 2) ev_c (w0 rfl) (c_done (n_then (c_ret (r_block (r_then ?_)))))))))))
    refine ret1 (v := .int .i64 2) rfl rfl rfl ?_
    refine ⟨_,rfl,?_,(Ext.refl w)⟩
    (refine congrArg (Value.int .i64) ?_; unfold kidsN; first | rw [if_pos (by omega)] | rw [if_neg (by omega),if_pos (by omega)] | rw [if_neg (by omega),if_neg (by omega)])
  refine c_cond0 (vb (ej rfl rfl) (decide_eq_false h7)) (c_seq (c_reg (s_cmp (r := decide (op = 5)) (ej rfl rfl) ev_c rfl (w0 rfl) (s_assign (v := .bool (decide (op = 5))) (ej rfl rfl) (w0 rfl) (c_done (n_then ?_))))))
  by_cases h8 : op = 5
  · refine c_cond1 (vb (ej rfl rfl) (decide_eq_true h8)) (c_skip (n_then (c_cond1 (vb (ej rfl rfl) (decide_eq_true h8)) (c_seq (c_reg (s_assign (v := .int .i64 2) ev_c (w0 rfl) (c_done (n_then (c_ret (r_block (r_then ?_)))))))))))
    refine ret1 (v := .int .i64 2) rfl rfl rfl ?_
    refine ⟨_,rfl,?_,(Ext.refl w)⟩
    (refine congrArg (Value.int .i64) ?_; unfold kidsN; first | rw [if_pos (by omega)] | rw [if_neg (by omega),if_pos (by omega)] | rw [if_neg (by omega),if_neg (by omega)])
  refine c_cond0 (vb (ej rfl rfl) (decide_eq_false h8)) (c_seq (c_reg (s_cmp (r := decide (op = 6)) (ej rfl rfl) ev_c rfl (w0 rfl) (s_assign (v := .bool (decide (op = 6))) (ej rfl rfl) (w0 rfl) (c_done (n_then ?_))))))
  by_cases h9 : op = 6
  · refine c_cond1 (vb (ej rfl rfl) (decide_eq_true h9)) (c_skip (n_then (c_cond1 (vb (ej rfl rfl) (decide_eq_true h9)) (c_seq (c_reg (s_assign (v := .int .i64 2) ev_c (w0 rfl) (c_done (n_then (c_ret (r_block (r_then ?_)))))))))))
    refine ret1 (v := .int .i64 2) rfl rfl rfl ?_
    refine ⟨_,rfl,?_,(Ext.refl w)⟩
    (refine congrArg (Value.int .i64) ?_; unfold kidsN; first | rw [if_pos (by omega)] | rw [if_neg (by omega),if_pos (by omega)] | rw [if_neg (by omega),if_neg (by omega)])
  refine c_cond0 (vb (ej rfl rfl) (decide_eq_false h9)) (c_reg (s_cmp (r := decide (op = 7)) (ej rfl rfl) ev_c rfl (w0 rfl) (s_assign (v := .bool (decide (op = 7))) (ej rfl rfl) (w0 rfl) (c_done (n_then ?_)))))
  by_cases h10 : op = 7
  · refine c_cond1 (vb (ej rfl rfl) (decide_eq_true h10)) (c_seq (c_reg (s_assign (v := .int .i64 2) ev_c (w0 rfl) (c_done (n_then (c_ret (r_block (r_then (ret1 (v := .int .i64 2) rfl rfl rfl ?_)))))))))
    refine ⟨_,rfl,?_,(Ext.refl w)⟩
    (refine congrArg (Value.int .i64) ?_; unfold kidsN; first | rw [if_pos (by omega)] | rw [if_neg (by omega),if_pos (by omega)] | rw [if_neg (by omega),if_neg (by omega)])
  refine c_cond0 (vb (ej rfl rfl) (decide_eq_false h10)) (c_skip (n_block (n_then (c_seq (c_reg (s_assign (v := .int .i64 (-1)) ev_c (w0 rfl) (c_done (n_then (c_ret (ret1 (v := .int .i64 (-1)) rfl rfl rfl ?_))))))))))
  refine ⟨_,rfl,?_,(Ext.refl w)⟩
  (refine congrArg (Value.int .i64) ?_; unfold kidsN; first | rw [if_pos (by omega)] | rw [if_neg (by omega),if_pos (by omega)] | rw [if_neg (by omega),if_neg (by omega)])
theorem t_none (x : Tm) (w : World) :
    Rt Tryz.prog 113 #[.agg #[.string x.v,.int .i8 x.l.k,.int .i64 x.l.n,.string x.l.s]] w fun v w' => v = .bool (zT x) ∧ Ext w w' := by
  refine enter Tryz.func113 rfl (l := [.agg #[.string x.v,.int .i8 x.l.k,.int .i64 x.l.n,.string x.l.s]]) rfl Tryz.ntmps113 (Nat.le_of_ble_eq_true rfl) ?_
  refine c_seq (c_reg (s_box (v := .agg #[.string x.v,.int .i8 x.l.k,.int .i64 x.l.n,.string x.l.s]) (cs := #[.string x.v,.int .i8 x.l.k,.int .i64 x.l.n,.string x.l.s]) (w0 rfl) (ej rfl rfl) rfl ?_))
  intro w2 g1 n3
  refine s_assign (v := .bool false) ev_c (w0 rfl) (c_done (n_then (c_seq (c_reg (s_loadL (cs := [.string x.v,.int .i8 x.l.k,.int .i64 x.l.n,.string x.l.s]) F_m33 (ej rfl rfl) rfl rfl (blk_cells (NewB.blk n3) 0 rfl) (w0 rfl) (s_build (v := .agg #[.string (⟨#[]⟩ : ByteArray),.int .i8 0,.int .i64 0,.string (⟨#[]⟩ : ByteArray)]) (vs := []) b0 (bd33) (w0 rfl) (s_cmpG (r := zT x) (ej rfl rfl) (ej rfl rfl) ((fun w_ => eqzT33eql x _ _ w_)) (w0 rfl) (s_assign (v := .bool (zT x)) (ej rfl rfl) (w0 rfl) (c_done (n_then (c_ret ?_)))))))))))
  refine ret1 (v := .bool (zT x)) rfl rfl rfl ?_
  refine ⟨_,rfl,?_,(NewB.ext n3)⟩
  rfl
theorem t_word (s : ByteArray) (lo hi : Int) (w : World) (hs : s.size ≤ 140737488351232) :
    Rt Tryz.prog 103 #[.string s,.int .u8 lo,.int .u8 hi] w fun v w' => v = .bool (wordB s lo hi) ∧ Ext w w' := by
  refine enter Tryz.func103 rfl (l := [.string s,.int .u8 lo,.int .u8 hi]) rfl Tryz.ntmps103 (Nat.le_of_ble_eq_true rfl) ?_
  refine c_seq (c_reg (s_assign (v := .bool false) ev_c (w0 rfl) (c_done (n_then (c_seq (c_seq (c_reg (s_move (v := .string s) (ej rfl rfl) (w0 rfl) (s_lenS F_us9 (ej rfl rfl) (w0 rfl) (s_cmp (r := decide ((s.size : Int) = 0)) (ej rfl rfl) ev_c rfl (w0 rfl) ?_))))))))))
  by_cases h1 : (s.size : Int) = 0
  · refine s_move (v := .bool true) (vb (ej rfl rfl) (decide_eq_true h1)) (w0 rfl) (s_skip (wn rfl rfl rfl rfl rfl) (s_skip (wn rfl rfl rfl rfl rfl) (s_skip (wn rfl rfl rfl rfl rfl) (s_pick1 (v := .bool true) (ej rfl rfl) ev_c (w0 rfl) (s_move (v := .bool true) (ej rfl rfl) (w0 rfl) (s_skip (wn rfl rfl rfl rfl rfl) (s_skip (wn rfl rfl rfl rfl rfl) (s_skip (wn rfl rfl rfl rfl rfl) (s_skip (wn rfl rfl rfl rfl rfl) (s_pick1 (v := .bool true) (ej rfl rfl) ev_c (w0 rfl) (s_move (v := .bool true) (ej rfl rfl) (w0 rfl) ?_)))))))))))
    refine s_skip (wn rfl rfl rfl rfl rfl) (s_skip (wn rfl rfl rfl rfl rfl) (s_skip (wn rfl rfl rfl rfl rfl) (s_skip (wn rfl rfl rfl rfl rfl) (s_pick1 (v := .bool true) (ej rfl rfl) ev_c (w0 rfl) (c_done (n_then (c_cond1 (ej rfl rfl) (c_seq (c_reg (s_assign (v := .bool false) ev_c (w0 rfl) (c_done ?_)))))))))))
    refine n_then (c_ret (r_then (ret1 (v := .bool false) rfl rfl rfl ?_)))
    refine ⟨_,rfl,?_,(Ext.refl w)⟩
    (simp only [wordB]; congr 1; symm; simp only [decide_eq_false_iff_not]; omega)
  refine s_move (v := .bool false) (vb (ej rfl rfl) (decide_eq_false h1)) (w0 rfl) (s_move (v := .string s) (ej rfl rfl) (wy rfl rfl rfl rfl) (s_lenS F_us9 (ej rfl rfl) (wy rfl rfl rfl rfl) (s_cmp (r := decide (120 < (s.size : Int))) (ej rfl rfl) ev_c rfl (wy rfl rfl rfl rfl) (s_pick0 (v := .bool (decide (120 < (s.size : Int)))) (ej rfl rfl) (ej rfl rfl) (w0 rfl) ?_))))
  by_cases h2 : 120 < (s.size : Int)
  · refine s_move (v := .bool true) (vb (ej rfl rfl) (decide_eq_true h2)) (w0 rfl) (s_skip (wn rfl rfl rfl rfl rfl) (s_skip (wn rfl rfl rfl rfl rfl) (s_skip (wn rfl rfl rfl rfl rfl) (s_skip (wn rfl rfl rfl rfl rfl) (s_pick1 (v := .bool true) (ej rfl rfl) ev_c (w0 rfl) (s_move (v := .bool true) (ej rfl rfl) (w0 rfl) (s_skip (wn rfl rfl rfl rfl rfl) (s_skip (wn rfl rfl rfl rfl rfl) (s_skip (wn rfl rfl rfl rfl rfl) (s_skip (wn rfl rfl rfl rfl rfl) (s_pick1 (v := .bool true) (ej rfl rfl) ev_c (w0 rfl) ?_)))))))))))
    refine c_done (n_then (c_cond1 (ej rfl rfl) (c_seq (c_reg (s_assign (v := .bool false) ev_c (w0 rfl) (c_done (n_then (c_ret (r_then (ret1 (v := .bool false) rfl rfl rfl ?_))))))))))
    refine ⟨_,rfl,?_,(Ext.refl w)⟩
    (simp only [wordB]; congr 1; symm; simp only [decide_eq_false_iff_not]; omega)
  refine s_move (v := .bool false) (vb (ej rfl rfl) (decide_eq_false h2)) (w0 rfl) (s_move (v := .string s) (ej rfl rfl) (wy rfl rfl rfl rfl) (s_byte (j := 0) F_us9 (ej rfl rfl) ev_c rfl (by omega) (wy rfl rfl rfl rfl) (s_move (v := .int .u8 lo) (ej rfl rfl) (wy rfl rfl rfl rfl) (s_cmp (r := decide ((byteAt s 0 : Int) < lo)) (ej rfl rfl) (ej rfl rfl) rfl (wy rfl rfl rfl rfl) (s_pick0 (v := .bool (decide ((byteAt s 0 : Int) < lo))) (ej rfl rfl) (ej rfl rfl) (w0 rfl) ?_)))))
  by_cases h3 : (byteAt s 0 : Int) < lo
  · refine s_move (v := .bool true) (vb (ej rfl rfl) (decide_eq_true h3)) (w0 rfl) (s_skip (wn rfl rfl rfl rfl rfl) (s_skip (wn rfl rfl rfl rfl rfl) (s_skip (wn rfl rfl rfl rfl rfl) (s_skip (wn rfl rfl rfl rfl rfl) (s_pick1 (v := .bool true) (ej rfl rfl) ev_c (w0 rfl) (c_done (n_then (c_cond1 (ej rfl rfl) (c_seq (c_reg (s_assign (v := .bool false) ev_c (w0 rfl) ?_)))))))))))
    refine c_done (n_then (c_ret (r_then (ret1 (v := .bool false) rfl rfl rfl ?_))))
    refine ⟨_,rfl,?_,(Ext.refl w)⟩
    (simp only [wordB]; congr 1; symm; simp only [decide_eq_false_iff_not]; omega)
  refine s_move (v := .bool false) (vb (ej rfl rfl) (decide_eq_false h3)) (w0 rfl) (s_move (v := .string s) (ej rfl rfl) (wy rfl rfl rfl rfl) (s_byte (j := 0) F_us9 (ej rfl rfl) ev_c rfl (by omega) (wy rfl rfl rfl rfl) (s_move (v := .int .u8 hi) (ej rfl rfl) (wy rfl rfl rfl rfl) (s_cmp (r := decide (hi < (byteAt s 0 : Int))) (ej rfl rfl) (ej rfl rfl) rfl (wy rfl rfl rfl rfl) (s_pick0 (v := .bool (decide (hi < (byteAt s 0 : Int)))) (ej rfl rfl) (ej rfl rfl) (w0 rfl) (c_done (n_then ?_)))))))
  by_cases h4 : hi < (byteAt s 0 : Int)
  · refine c_cond1 (vb (ej rfl rfl) (decide_eq_true h4)) (c_seq (c_reg (s_assign (v := .bool false) ev_c (w0 rfl) (c_done (n_then (c_ret (r_then (ret1 (v := .bool false) rfl rfl rfl ?_))))))))
    refine ⟨_,rfl,?_,(Ext.refl w)⟩
    (simp only [wordB]; congr 1; symm; simp only [decide_eq_false_iff_not]; omega)
  refine c_cond0 (vb (ej rfl rfl) (decide_eq_false h4)) (c_skip (n_then (c_seq (c_seq (c_reg (s_move (v := .string s) (ej rfl rfl) (w0 rfl) (s_sbytes F_us9 F_ul93 F_ui5 (ej rfl rfl) (w0 rfl) ?_)))))))
  intro w7 g5 c6 sb8 x9
  refine s_lenL F_l93 (ej rfl rfl) (w0 rfl) (s_move (v := .int .i64 0) ev_c (w0 rfl) (c_done (n_then (c_block (c_loop (α := Nat) (fun (i : Nat) env_ w_ => Ext w7 w_ ∧ (∀ j,j < i → letterB (byteAt s j) = true) ∧ env_ 30 = .slice (some ⟨g5,0,none⟩) s.size c6 ∧ env_ 31 = .int .i64 (s.size : Int) ∧ env_ 32 = .int .i64 ((i : Nat) : Int)) (fun i => s.size - i) (0) ⟨Ext.refl _,fun j hj => absurd hj (Nat.not_lt_zero j),rfl,rfl,rfl⟩ ?_)))))
  rintro i env12 w10 ⟨x11,i13,e14,e15,e16⟩
  refine c_seq (c_reg (s_cmp (r := decide (((i : Nat) : Int) < (s.size : Int))) (ej rfl e16) (ej rfl e15) rfl (w0 rfl) (c_done (n_then (c_seq ?_)))))
  by_cases h17 : ((i : Nat) : Int) < (s.size : Int)
  · refine c_cond1 (vb (ej rfl rfl) (decide_eq_true h17)) (c_skip (n_then (c_seq (c_block (c_seq (c_reg (s_indexR (j := i) F_l93 (ej rfl e14) rfl (ej rfl e16) rfl (by omega) (w0 rfl) (s_load (v := .int .u8 (byteAt s i : Int)) F_o5 (ej rfl rfl) ((SB.ext sb8 x11) i (by omega)) (w0 rfl) (s_assign (v := .int .u8 (byteAt s i : Int)) (ej rfl rfl) (w0 rfl) (c_done (n_then ?_)))))))))))
    refine c_seq (c_reg (s_move (v := .int .u8 (byteAt s i : Int)) (ej rfl rfl) (w0 rfl) (s_cmp (r := decide ((byteAt s i : Int) < 97)) (ej rfl rfl) ev_c rfl (w0 rfl) ?_)))
    by_cases h18 : (byteAt s i : Int) < 97
    · refine s_move (v := .bool true) (vb (ej rfl rfl) (decide_eq_true h18)) (w0 rfl) (s_skip (wn rfl rfl rfl rfl rfl) (s_skip (wn rfl rfl rfl rfl rfl) (s_pick1 (v := .bool true) (ej rfl rfl) ev_c (w0 rfl) (s_move (v := .bool true) (ej rfl rfl) (w0 rfl) (s_move (v := .int .u8 (byteAt s i : Int)) (ej rfl rfl) (wy rfl rfl rfl rfl) (s_cmp (r := decide ((byteAt s i : Int) < 65)) (ej rfl rfl) ev_c rfl (wy rfl rfl rfl rfl) ?_))))))
      by_cases h19 : (byteAt s i : Int) < 65
      · refine s_move (v := .bool true) (vb (ej rfl rfl) (decide_eq_true h19)) (wy rfl rfl rfl rfl) (s_skip (wn rfl rfl rfl rfl rfl) (s_skip (wn rfl rfl rfl rfl rfl) (s_pick1 (v := .bool true) (ej rfl rfl) ev_c (wy rfl rfl rfl rfl) (s_pick1 (v := .bool true) (ej rfl rfl) (ej rfl rfl) (w0 rfl) (s_move (v := .bool true) (ej rfl rfl) (w0 rfl) (s_move (v := .int .u8 (byteAt s i : Int)) (ej rfl rfl) (wy rfl rfl rfl rfl) (s_cmp (r := decide ((byteAt s i : Int) < 48)) (ej rfl rfl) ev_c rfl (wy rfl rfl rfl rfl) ?_)))))))
        by_cases h20 : (byteAt s i : Int) < 48
        · refine s_move (v := .bool true) (vb (ej rfl rfl) (decide_eq_true h20)) (wy rfl rfl rfl rfl) (s_skip (wn rfl rfl rfl rfl rfl) (s_skip (wn rfl rfl rfl rfl rfl) (s_pick1 (v := .bool true) (ej rfl rfl) ev_c (wy rfl rfl rfl rfl) (s_pick1 (v := .bool true) (ej rfl rfl) (ej rfl rfl) (w0 rfl) (s_move (v := .bool true) (ej rfl rfl) (w0 rfl) (s_move (v := .int .u8 (byteAt s i : Int)) (ej rfl rfl) (wy rfl rfl rfl rfl) (s_cmp (r := !decide ((byteAt s i : Int) = 95)) (ej rfl rfl) ev_c rfl (wy rfl rfl rfl rfl) (s_pick1 (v := .bool (!decide ((byteAt s i : Int) = 95))) (ej rfl rfl) (ej rfl rfl) (w0 rfl) (c_done (n_then ?_))))))))))
          by_cases h21 : (byteAt s i : Int) = 95
          · refine c_cond0 (vb (ej rfl rfl) (nb0 h21)) (c_skip (n_block (n_then (c_reg (s_add (r := ((i + 1 : Nat) : Int)) (ej rfl e16) ev_c (by omega) (by omega) (w0 rfl) (s_move (v := .int .i64 ((i + 1 : Nat) : Int)) (ej rfl rfl) (w0 rfl) (c_done ?_)))))))
            exact ⟨(i + 1),_,rfl,⟨x11,(step_all0 i13 (by simp [letterB]; omega)),e14,e15,rfl⟩,(show s.size - (i + 1) < s.size - i by omega)⟩
          refine c_cond1 (vb (ej rfl rfl) (nb1 h21)) (c_seq (c_reg (s_assign (v := .bool false) ev_c (w0 rfl) (c_done (n_then (c_ret (r_block (r_then (r_then (r_block (r_then ?_)))))))))))
          refine ret1 (v := .bool false) rfl rfl rfl ?_
          refine ⟨_,rfl,?_,(Ext.trans x9 x11)⟩
          (refine congrArg Value.bool (Eq.symm (wordB_no i (by omega) (by simp [letterB]; omega))))
        refine s_move (v := .bool false) (vb (ej rfl rfl) (decide_eq_false h20)) (wy rfl rfl rfl rfl) (s_move (v := .int .u8 (byteAt s i : Int)) (ej rfl rfl) (wy rfl rfl rfl rfl) (s_cmp (r := decide (57 < (byteAt s i : Int))) (ej rfl rfl) ev_c rfl (wy rfl rfl rfl rfl) (s_pick0 (v := .bool (decide (57 < (byteAt s i : Int)))) (ej rfl rfl) (ej rfl rfl) (wy rfl rfl rfl rfl) (s_pick1 (v := .bool (decide (57 < (byteAt s i : Int)))) (ej rfl rfl) (ej rfl rfl) (w0 rfl) ?_))))
        by_cases h22 : 57 < (byteAt s i : Int)
        · refine s_move (v := .bool true) (vb (ej rfl rfl) (decide_eq_true h22)) (w0 rfl) (s_move (v := .int .u8 (byteAt s i : Int)) (ej rfl rfl) (wy rfl rfl rfl rfl) (s_cmp (r := !decide ((byteAt s i : Int) = 95)) (ej rfl rfl) ev_c rfl (wy rfl rfl rfl rfl) (s_pick1 (v := .bool (!decide ((byteAt s i : Int) = 95))) (ej rfl rfl) (ej rfl rfl) (w0 rfl) (c_done (n_then ?_)))))
          by_cases h23 : (byteAt s i : Int) = 95
          · refine c_cond0 (vb (ej rfl rfl) (nb0 h23)) (c_skip (n_block (n_then (c_reg (s_add (r := ((i + 1 : Nat) : Int)) (ej rfl e16) ev_c (by omega) (by omega) (w0 rfl) (s_move (v := .int .i64 ((i + 1 : Nat) : Int)) (ej rfl rfl) (w0 rfl) (c_done ?_)))))))
            exact ⟨(i + 1),_,rfl,⟨x11,(step_all0 i13 (by simp [letterB]; omega)),e14,e15,rfl⟩,(show s.size - (i + 1) < s.size - i by omega)⟩
          refine c_cond1 (vb (ej rfl rfl) (nb1 h23)) (c_seq (c_reg (s_assign (v := .bool false) ev_c (w0 rfl) (c_done (n_then (c_ret (r_block (r_then (r_then (r_block (r_then ?_)))))))))))
          refine ret1 (v := .bool false) rfl rfl rfl ?_
          refine ⟨_,rfl,?_,(Ext.trans x9 x11)⟩
          (refine congrArg Value.bool (Eq.symm (wordB_no i (by omega) (by simp [letterB]; omega))))
        refine s_move (v := .bool false) (vb (ej rfl rfl) (decide_eq_false h22)) (w0 rfl) (s_skip (wn rfl rfl rfl rfl rfl) (s_skip (wn rfl rfl rfl rfl rfl) (s_pick0 (v := .bool false) (ej rfl rfl) ev_c (w0 rfl) (c_done (n_then (c_cond0 (ej rfl rfl) (c_skip (n_block (n_then (c_reg (s_add (r := ((i + 1 : Nat) : Int)) (ej rfl e16) ev_c (by omega) (by omega) (w0 rfl) ?_)))))))))))
        refine s_move (v := .int .i64 ((i + 1 : Nat) : Int)) (ej rfl rfl) (w0 rfl) (c_done ?_)
        exact ⟨(i + 1),_,rfl,⟨x11,(step_all0 i13 (by simp [letterB]; omega)),e14,e15,rfl⟩,(show s.size - (i + 1) < s.size - i by omega)⟩
      refine s_move (v := .bool false) (vb (ej rfl rfl) (decide_eq_false h19)) (wy rfl rfl rfl rfl) (s_move (v := .int .u8 (byteAt s i : Int)) (ej rfl rfl) (wy rfl rfl rfl rfl) (s_cmp (r := decide (90 < (byteAt s i : Int))) (ej rfl rfl) ev_c rfl (wy rfl rfl rfl rfl) (s_pick0 (v := .bool (decide (90 < (byteAt s i : Int)))) (ej rfl rfl) (ej rfl rfl) (wy rfl rfl rfl rfl) (s_pick1 (v := .bool (decide (90 < (byteAt s i : Int)))) (ej rfl rfl) (ej rfl rfl) (w0 rfl) ?_))))
      by_cases h24 : 90 < (byteAt s i : Int)
      · refine s_move (v := .bool true) (vb (ej rfl rfl) (decide_eq_true h24)) (w0 rfl) (s_move (v := .int .u8 (byteAt s i : Int)) (ej rfl rfl) (wy rfl rfl rfl rfl) (s_cmp (r := decide ((byteAt s i : Int) < 48)) (ej rfl rfl) ev_c rfl (wy rfl rfl rfl rfl) ?_))
        by_cases h25 : (byteAt s i : Int) < 48
        · refine s_move (v := .bool true) (vb (ej rfl rfl) (decide_eq_true h25)) (wy rfl rfl rfl rfl) (s_skip (wn rfl rfl rfl rfl rfl) (s_skip (wn rfl rfl rfl rfl rfl) (s_pick1 (v := .bool true) (ej rfl rfl) ev_c (wy rfl rfl rfl rfl) (s_pick1 (v := .bool true) (ej rfl rfl) (ej rfl rfl) (w0 rfl) (s_move (v := .bool true) (ej rfl rfl) (w0 rfl) (s_move (v := .int .u8 (byteAt s i : Int)) (ej rfl rfl) (wy rfl rfl rfl rfl) (s_cmp (r := !decide ((byteAt s i : Int) = 95)) (ej rfl rfl) ev_c rfl (wy rfl rfl rfl rfl) (s_pick1 (v := .bool (!decide ((byteAt s i : Int) = 95))) (ej rfl rfl) (ej rfl rfl) (w0 rfl) (c_done (n_then ?_))))))))))
          by_cases h26 : (byteAt s i : Int) = 95
          · refine c_cond0 (vb (ej rfl rfl) (nb0 h26)) (c_skip (n_block (n_then (c_reg (s_add (r := ((i + 1 : Nat) : Int)) (ej rfl e16) ev_c (by omega) (by omega) (w0 rfl) (s_move (v := .int .i64 ((i + 1 : Nat) : Int)) (ej rfl rfl) (w0 rfl) (c_done ?_)))))))
            exact ⟨(i + 1),_,rfl,⟨x11,(step_all0 i13 (by simp [letterB]; omega)),e14,e15,rfl⟩,(show s.size - (i + 1) < s.size - i by omega)⟩
          refine c_cond1 (vb (ej rfl rfl) (nb1 h26)) (c_seq (c_reg (s_assign (v := .bool false) ev_c (w0 rfl) (c_done (n_then (c_ret (r_block (r_then (r_then (r_block (r_then ?_)))))))))))
          refine ret1 (v := .bool false) rfl rfl rfl ?_
          refine ⟨_,rfl,?_,(Ext.trans x9 x11)⟩
          (refine congrArg Value.bool (Eq.symm (wordB_no i (by omega) (by simp [letterB]; omega))))
        refine s_move (v := .bool false) (vb (ej rfl rfl) (decide_eq_false h25)) (wy rfl rfl rfl rfl) (s_move (v := .int .u8 (byteAt s i : Int)) (ej rfl rfl) (wy rfl rfl rfl rfl) (s_cmp (r := decide (57 < (byteAt s i : Int))) (ej rfl rfl) ev_c rfl (wy rfl rfl rfl rfl) (s_pick0 (v := .bool (decide (57 < (byteAt s i : Int)))) (ej rfl rfl) (ej rfl rfl) (wy rfl rfl rfl rfl) (s_pick1 (v := .bool (decide (57 < (byteAt s i : Int)))) (ej rfl rfl) (ej rfl rfl) (w0 rfl) ?_))))
        by_cases h27 : 57 < (byteAt s i : Int)
        · refine s_move (v := .bool true) (vb (ej rfl rfl) (decide_eq_true h27)) (w0 rfl) (s_move (v := .int .u8 (byteAt s i : Int)) (ej rfl rfl) (wy rfl rfl rfl rfl) (s_cmp (r := !decide ((byteAt s i : Int) = 95)) (ej rfl rfl) ev_c rfl (wy rfl rfl rfl rfl) (s_pick1 (v := .bool (!decide ((byteAt s i : Int) = 95))) (ej rfl rfl) (ej rfl rfl) (w0 rfl) (c_done (n_then ?_)))))
          by_cases h28 : (byteAt s i : Int) = 95
          · refine c_cond0 (vb (ej rfl rfl) (nb0 h28)) (c_skip (n_block (n_then (c_reg (s_add (r := ((i + 1 : Nat) : Int)) (ej rfl e16) ev_c (by omega) (by omega) (w0 rfl) (s_move (v := .int .i64 ((i + 1 : Nat) : Int)) (ej rfl rfl) (w0 rfl) (c_done ?_)))))))
            exact ⟨(i + 1),_,rfl,⟨x11,(step_all0 i13 (by simp [letterB]; omega)),e14,e15,rfl⟩,(show s.size - (i + 1) < s.size - i by omega)⟩
          refine c_cond1 (vb (ej rfl rfl) (nb1 h28)) (c_seq (c_reg (s_assign (v := .bool false) ev_c (w0 rfl) (c_done (n_then (c_ret (r_block (r_then (r_then (r_block (r_then ?_)))))))))))
          refine ret1 (v := .bool false) rfl rfl rfl ?_
          refine ⟨_,rfl,?_,(Ext.trans x9 x11)⟩
          (refine congrArg Value.bool (Eq.symm (wordB_no i (by omega) (by simp [letterB]; omega))))
        refine s_move (v := .bool false) (vb (ej rfl rfl) (decide_eq_false h27)) (w0 rfl) (s_skip (wn rfl rfl rfl rfl rfl) (s_skip (wn rfl rfl rfl rfl rfl) (s_pick0 (v := .bool false) (ej rfl rfl) ev_c (w0 rfl) (c_done (n_then (c_cond0 (ej rfl rfl) (c_skip (n_block (n_then (c_reg (s_add (r := ((i + 1 : Nat) : Int)) (ej rfl e16) ev_c (by omega) (by omega) (w0 rfl) ?_)))))))))))
        refine s_move (v := .int .i64 ((i + 1 : Nat) : Int)) (ej rfl rfl) (w0 rfl) (c_done ?_)
        exact ⟨(i + 1),_,rfl,⟨x11,(step_all0 i13 (by simp [letterB]; omega)),e14,e15,rfl⟩,(show s.size - (i + 1) < s.size - i by omega)⟩
      refine s_move (v := .bool false) (vb (ej rfl rfl) (decide_eq_false h24)) (w0 rfl) (s_skip (wn rfl rfl rfl rfl rfl) (s_skip (wn rfl rfl rfl rfl rfl) (s_skip (wn rfl rfl rfl rfl rfl) (s_skip (wu rfl rfl rfl rfl) (s_skip (wu rfl rfl rfl rfl) (s_skip (wn rfl rfl rfl rfl rfl) (s_pick0 (v := .bool false) (ej rfl rfl) ev_c (w0 rfl) (s_move (v := .bool false) (ej rfl rfl) (w0 rfl) (s_skip (wn rfl rfl rfl rfl rfl) (s_skip (wn rfl rfl rfl rfl rfl) (s_pick0 (v := .bool false) (ej rfl rfl) ev_c (w0 rfl) ?_)))))))))))
      refine c_done (n_then (c_cond0 (ej rfl rfl) (c_skip (n_block (n_then (c_reg (s_add (r := ((i + 1 : Nat) : Int)) (ej rfl e16) ev_c (by omega) (by omega) (w0 rfl) (s_move (v := .int .i64 ((i + 1 : Nat) : Int)) (ej rfl rfl) (w0 rfl) (c_done ?_)))))))))
      exact ⟨(i + 1),_,rfl,⟨x11,(step_all0 i13 (by simp [letterB]; omega)),e14,e15,rfl⟩,(show s.size - (i + 1) < s.size - i by omega)⟩
    refine s_move (v := .bool false) (vb (ej rfl rfl) (decide_eq_false h18)) (w0 rfl) (s_move (v := .int .u8 (byteAt s i : Int)) (ej rfl rfl) (wy rfl rfl rfl rfl) (s_cmp (r := decide (122 < (byteAt s i : Int))) (ej rfl rfl) ev_c rfl (wy rfl rfl rfl rfl) (s_pick0 (v := .bool (decide (122 < (byteAt s i : Int)))) (ej rfl rfl) (ej rfl rfl) (w0 rfl) ?_)))
    by_cases h29 : 122 < (byteAt s i : Int)
    · refine s_move (v := .bool true) (vb (ej rfl rfl) (decide_eq_true h29)) (w0 rfl) (s_move (v := .int .u8 (byteAt s i : Int)) (ej rfl rfl) (wy rfl rfl rfl rfl) (s_cmp (r := decide ((byteAt s i : Int) < 65)) (ej rfl rfl) ev_c rfl (wy rfl rfl rfl rfl) ?_))
      by_cases h30 : (byteAt s i : Int) < 65
      · refine s_move (v := .bool true) (vb (ej rfl rfl) (decide_eq_true h30)) (wy rfl rfl rfl rfl) (s_skip (wn rfl rfl rfl rfl rfl) (s_skip (wn rfl rfl rfl rfl rfl) (s_pick1 (v := .bool true) (ej rfl rfl) ev_c (wy rfl rfl rfl rfl) (s_pick1 (v := .bool true) (ej rfl rfl) (ej rfl rfl) (w0 rfl) (s_move (v := .bool true) (ej rfl rfl) (w0 rfl) (s_move (v := .int .u8 (byteAt s i : Int)) (ej rfl rfl) (wy rfl rfl rfl rfl) (s_cmp (r := decide ((byteAt s i : Int) < 48)) (ej rfl rfl) ev_c rfl (wy rfl rfl rfl rfl) ?_)))))))
        by_cases h31 : (byteAt s i : Int) < 48
        · refine s_move (v := .bool true) (vb (ej rfl rfl) (decide_eq_true h31)) (wy rfl rfl rfl rfl) (s_skip (wn rfl rfl rfl rfl rfl) (s_skip (wn rfl rfl rfl rfl rfl) (s_pick1 (v := .bool true) (ej rfl rfl) ev_c (wy rfl rfl rfl rfl) (s_pick1 (v := .bool true) (ej rfl rfl) (ej rfl rfl) (w0 rfl) (s_move (v := .bool true) (ej rfl rfl) (w0 rfl) (s_move (v := .int .u8 (byteAt s i : Int)) (ej rfl rfl) (wy rfl rfl rfl rfl) (s_cmp (r := !decide ((byteAt s i : Int) = 95)) (ej rfl rfl) ev_c rfl (wy rfl rfl rfl rfl) (s_pick1 (v := .bool (!decide ((byteAt s i : Int) = 95))) (ej rfl rfl) (ej rfl rfl) (w0 rfl) (c_done (n_then ?_))))))))))
          by_cases h32 : (byteAt s i : Int) = 95
          · refine c_cond0 (vb (ej rfl rfl) (nb0 h32)) (c_skip (n_block (n_then (c_reg (s_add (r := ((i + 1 : Nat) : Int)) (ej rfl e16) ev_c (by omega) (by omega) (w0 rfl) (s_move (v := .int .i64 ((i + 1 : Nat) : Int)) (ej rfl rfl) (w0 rfl) (c_done ?_)))))))
            exact ⟨(i + 1),_,rfl,⟨x11,(step_all0 i13 (by simp [letterB]; omega)),e14,e15,rfl⟩,(show s.size - (i + 1) < s.size - i by omega)⟩
          refine c_cond1 (vb (ej rfl rfl) (nb1 h32)) (c_seq (c_reg (s_assign (v := .bool false) ev_c (w0 rfl) (c_done (n_then (c_ret (r_block (r_then (r_then (r_block (r_then ?_)))))))))))
          refine ret1 (v := .bool false) rfl rfl rfl ?_
          refine ⟨_,rfl,?_,(Ext.trans x9 x11)⟩
          (refine congrArg Value.bool (Eq.symm (wordB_no i (by omega) (by simp [letterB]; omega))))
        refine s_move (v := .bool false) (vb (ej rfl rfl) (decide_eq_false h31)) (wy rfl rfl rfl rfl) (s_move (v := .int .u8 (byteAt s i : Int)) (ej rfl rfl) (wy rfl rfl rfl rfl) (s_cmp (r := decide (57 < (byteAt s i : Int))) (ej rfl rfl) ev_c rfl (wy rfl rfl rfl rfl) (s_pick0 (v := .bool (decide (57 < (byteAt s i : Int)))) (ej rfl rfl) (ej rfl rfl) (wy rfl rfl rfl rfl) (s_pick1 (v := .bool (decide (57 < (byteAt s i : Int)))) (ej rfl rfl) (ej rfl rfl) (w0 rfl) ?_))))
        by_cases h33 : 57 < (byteAt s i : Int)
        · refine s_move (v := .bool true) (vb (ej rfl rfl) (decide_eq_true h33)) (w0 rfl) (s_move (v := .int .u8 (byteAt s i : Int)) (ej rfl rfl) (wy rfl rfl rfl rfl) (s_cmp (r := !decide ((byteAt s i : Int) = 95)) (ej rfl rfl) ev_c rfl (wy rfl rfl rfl rfl) (s_pick1 (v := .bool (!decide ((byteAt s i : Int) = 95))) (ej rfl rfl) (ej rfl rfl) (w0 rfl) (c_done (n_then ?_)))))
          by_cases h34 : (byteAt s i : Int) = 95
          · refine c_cond0 (vb (ej rfl rfl) (nb0 h34)) (c_skip (n_block (n_then (c_reg (s_add (r := ((i + 1 : Nat) : Int)) (ej rfl e16) ev_c (by omega) (by omega) (w0 rfl) (s_move (v := .int .i64 ((i + 1 : Nat) : Int)) (ej rfl rfl) (w0 rfl) (c_done ?_)))))))
            exact ⟨(i + 1),_,rfl,⟨x11,(step_all0 i13 (by simp [letterB]; omega)),e14,e15,rfl⟩,(show s.size - (i + 1) < s.size - i by omega)⟩
          refine c_cond1 (vb (ej rfl rfl) (nb1 h34)) (c_seq (c_reg (s_assign (v := .bool false) ev_c (w0 rfl) (c_done (n_then (c_ret (r_block (r_then (r_then (r_block (r_then ?_)))))))))))
          refine ret1 (v := .bool false) rfl rfl rfl ?_
          refine ⟨_,rfl,?_,(Ext.trans x9 x11)⟩
          (refine congrArg Value.bool (Eq.symm (wordB_no i (by omega) (by simp [letterB]; omega))))
        refine s_move (v := .bool false) (vb (ej rfl rfl) (decide_eq_false h33)) (w0 rfl) (s_skip (wn rfl rfl rfl rfl rfl) (s_skip (wn rfl rfl rfl rfl rfl) (s_pick0 (v := .bool false) (ej rfl rfl) ev_c (w0 rfl) (c_done (n_then (c_cond0 (ej rfl rfl) (c_skip (n_block (n_then (c_reg (s_add (r := ((i + 1 : Nat) : Int)) (ej rfl e16) ev_c (by omega) (by omega) (w0 rfl) ?_)))))))))))
        refine s_move (v := .int .i64 ((i + 1 : Nat) : Int)) (ej rfl rfl) (w0 rfl) (c_done ?_)
        exact ⟨(i + 1),_,rfl,⟨x11,(step_all0 i13 (by simp [letterB]; omega)),e14,e15,rfl⟩,(show s.size - (i + 1) < s.size - i by omega)⟩
      refine s_move (v := .bool false) (vb (ej rfl rfl) (decide_eq_false h30)) (wy rfl rfl rfl rfl) (s_move (v := .int .u8 (byteAt s i : Int)) (ej rfl rfl) (wy rfl rfl rfl rfl) (s_cmp (r := decide (90 < (byteAt s i : Int))) (ej rfl rfl) ev_c rfl (wy rfl rfl rfl rfl) (s_pick0 (v := .bool (decide (90 < (byteAt s i : Int)))) (ej rfl rfl) (ej rfl rfl) (wy rfl rfl rfl rfl) (s_pick1 (v := .bool (decide (90 < (byteAt s i : Int)))) (ej rfl rfl) (ej rfl rfl) (w0 rfl) ?_))))
      by_cases h35 : 90 < (byteAt s i : Int)
      · refine s_move (v := .bool true) (vb (ej rfl rfl) (decide_eq_true h35)) (w0 rfl) (s_move (v := .int .u8 (byteAt s i : Int)) (ej rfl rfl) (wy rfl rfl rfl rfl) (s_cmp (r := decide ((byteAt s i : Int) < 48)) (ej rfl rfl) ev_c rfl (wy rfl rfl rfl rfl) ?_))
        by_cases h36 : (byteAt s i : Int) < 48
        · refine s_move (v := .bool true) (vb (ej rfl rfl) (decide_eq_true h36)) (wy rfl rfl rfl rfl) (s_skip (wn rfl rfl rfl rfl rfl) (s_skip (wn rfl rfl rfl rfl rfl) (s_pick1 (v := .bool true) (ej rfl rfl) ev_c (wy rfl rfl rfl rfl) (s_pick1 (v := .bool true) (ej rfl rfl) (ej rfl rfl) (w0 rfl) (s_move (v := .bool true) (ej rfl rfl) (w0 rfl) (s_move (v := .int .u8 (byteAt s i : Int)) (ej rfl rfl) (wy rfl rfl rfl rfl) (s_cmp (r := !decide ((byteAt s i : Int) = 95)) (ej rfl rfl) ev_c rfl (wy rfl rfl rfl rfl) (s_pick1 (v := .bool (!decide ((byteAt s i : Int) = 95))) (ej rfl rfl) (ej rfl rfl) (w0 rfl) (c_done (n_then ?_))))))))))
          by_cases h37 : (byteAt s i : Int) = 95
          · refine c_cond0 (vb (ej rfl rfl) (nb0 h37)) (c_skip (n_block (n_then (c_reg (s_add (r := ((i + 1 : Nat) : Int)) (ej rfl e16) ev_c (by omega) (by omega) (w0 rfl) (s_move (v := .int .i64 ((i + 1 : Nat) : Int)) (ej rfl rfl) (w0 rfl) (c_done ?_)))))))
            exact ⟨(i + 1),_,rfl,⟨x11,(step_all0 i13 (by simp [letterB]; omega)),e14,e15,rfl⟩,(show s.size - (i + 1) < s.size - i by omega)⟩
          refine c_cond1 (vb (ej rfl rfl) (nb1 h37)) (c_seq (c_reg (s_assign (v := .bool false) ev_c (w0 rfl) (c_done (n_then (c_ret (r_block (r_then (r_then (r_block (r_then ?_)))))))))))
          refine ret1 (v := .bool false) rfl rfl rfl ?_
          refine ⟨_,rfl,?_,(Ext.trans x9 x11)⟩
          (refine congrArg Value.bool (Eq.symm (wordB_no i (by omega) (by simp [letterB]; omega))))
        refine s_move (v := .bool false) (vb (ej rfl rfl) (decide_eq_false h36)) (wy rfl rfl rfl rfl) (s_move (v := .int .u8 (byteAt s i : Int)) (ej rfl rfl) (wy rfl rfl rfl rfl) (s_cmp (r := decide (57 < (byteAt s i : Int))) (ej rfl rfl) ev_c rfl (wy rfl rfl rfl rfl) (s_pick0 (v := .bool (decide (57 < (byteAt s i : Int)))) (ej rfl rfl) (ej rfl rfl) (wy rfl rfl rfl rfl) (s_pick1 (v := .bool (decide (57 < (byteAt s i : Int)))) (ej rfl rfl) (ej rfl rfl) (w0 rfl) ?_))))
        by_cases h38 : 57 < (byteAt s i : Int)
        · refine s_move (v := .bool true) (vb (ej rfl rfl) (decide_eq_true h38)) (w0 rfl) (s_move (v := .int .u8 (byteAt s i : Int)) (ej rfl rfl) (wy rfl rfl rfl rfl) (s_cmp (r := !decide ((byteAt s i : Int) = 95)) (ej rfl rfl) ev_c rfl (wy rfl rfl rfl rfl) (s_pick1 (v := .bool (!decide ((byteAt s i : Int) = 95))) (ej rfl rfl) (ej rfl rfl) (w0 rfl) (c_done (n_then ?_)))))
          by_cases h39 : (byteAt s i : Int) = 95
          · refine c_cond0 (vb (ej rfl rfl) (nb0 h39)) (c_skip (n_block (n_then (c_reg (s_add (r := ((i + 1 : Nat) : Int)) (ej rfl e16) ev_c (by omega) (by omega) (w0 rfl) (s_move (v := .int .i64 ((i + 1 : Nat) : Int)) (ej rfl rfl) (w0 rfl) (c_done ?_)))))))
            exact ⟨(i + 1),_,rfl,⟨x11,(step_all0 i13 (by simp [letterB]; omega)),e14,e15,rfl⟩,(show s.size - (i + 1) < s.size - i by omega)⟩
          refine c_cond1 (vb (ej rfl rfl) (nb1 h39)) (c_seq (c_reg (s_assign (v := .bool false) ev_c (w0 rfl) (c_done (n_then (c_ret (r_block (r_then (r_then (r_block (r_then ?_)))))))))))
          refine ret1 (v := .bool false) rfl rfl rfl ?_
          refine ⟨_,rfl,?_,(Ext.trans x9 x11)⟩
          (refine congrArg Value.bool (Eq.symm (wordB_no i (by omega) (by simp [letterB]; omega))))
        refine s_move (v := .bool false) (vb (ej rfl rfl) (decide_eq_false h38)) (w0 rfl) (s_skip (wn rfl rfl rfl rfl rfl) (s_skip (wn rfl rfl rfl rfl rfl) (s_pick0 (v := .bool false) (ej rfl rfl) ev_c (w0 rfl) (c_done (n_then (c_cond0 (ej rfl rfl) (c_skip (n_block (n_then (c_reg (s_add (r := ((i + 1 : Nat) : Int)) (ej rfl e16) ev_c (by omega) (by omega) (w0 rfl) ?_)))))))))))
        refine s_move (v := .int .i64 ((i + 1 : Nat) : Int)) (ej rfl rfl) (w0 rfl) (c_done ?_)
        exact ⟨(i + 1),_,rfl,⟨x11,(step_all0 i13 (by simp [letterB]; omega)),e14,e15,rfl⟩,(show s.size - (i + 1) < s.size - i by omega)⟩
      refine s_move (v := .bool false) (vb (ej rfl rfl) (decide_eq_false h35)) (w0 rfl) (s_skip (wn rfl rfl rfl rfl rfl) (s_skip (wn rfl rfl rfl rfl rfl) (s_skip (wn rfl rfl rfl rfl rfl) (s_skip (wu rfl rfl rfl rfl) (s_skip (wu rfl rfl rfl rfl) (s_skip (wn rfl rfl rfl rfl rfl) (s_pick0 (v := .bool false) (ej rfl rfl) ev_c (w0 rfl) (s_move (v := .bool false) (ej rfl rfl) (w0 rfl) (s_skip (wn rfl rfl rfl rfl rfl) (s_skip (wn rfl rfl rfl rfl rfl) (s_pick0 (v := .bool false) (ej rfl rfl) ev_c (w0 rfl) ?_)))))))))))
      refine c_done (n_then (c_cond0 (ej rfl rfl) (c_skip (n_block (n_then (c_reg (s_add (r := ((i + 1 : Nat) : Int)) (ej rfl e16) ev_c (by omega) (by omega) (w0 rfl) (s_move (v := .int .i64 ((i + 1 : Nat) : Int)) (ej rfl rfl) (w0 rfl) (c_done ?_)))))))))
      exact ⟨(i + 1),_,rfl,⟨x11,(step_all0 i13 (by simp [letterB]; omega)),e14,e15,rfl⟩,(show s.size - (i + 1) < s.size - i by omega)⟩
    refine s_move (v := .bool false) (vb (ej rfl rfl) (decide_eq_false h29)) (w0 rfl) (s_skip (wn rfl rfl rfl rfl rfl) (s_skip (wn rfl rfl rfl rfl rfl) (s_skip (wn rfl rfl rfl rfl rfl) (s_skip (wu rfl rfl rfl rfl) (s_skip (wu rfl rfl rfl rfl) (s_skip (wn rfl rfl rfl rfl rfl) (s_pick0 (v := .bool false) (ej rfl rfl) ev_c (w0 rfl) (s_move (v := .bool false) (ej rfl rfl) (w0 rfl) (s_skip (wn rfl rfl rfl rfl rfl) (s_skip (wn rfl rfl rfl rfl rfl) (s_skip (wn rfl rfl rfl rfl rfl) ?_)))))))))))
    refine s_skip (wu rfl rfl rfl rfl) (s_skip (wu rfl rfl rfl rfl) (s_skip (wn rfl rfl rfl rfl rfl) (s_pick0 (v := .bool false) (ej rfl rfl) ev_c (w0 rfl) (s_move (v := .bool false) (ej rfl rfl) (w0 rfl) (s_skip (wn rfl rfl rfl rfl rfl) (s_skip (wn rfl rfl rfl rfl rfl) (s_pick0 (v := .bool false) (ej rfl rfl) ev_c (w0 rfl) (c_done (n_then (c_cond0 (ej rfl rfl) (c_skip ?_)))))))))))
    refine n_block (n_then (c_reg (s_add (r := ((i + 1 : Nat) : Int)) (ej rfl e16) ev_c (by omega) (by omega) (w0 rfl) (s_move (v := .int .i64 ((i + 1 : Nat) : Int)) (ej rfl rfl) (w0 rfl) (c_done ?_)))))
    exact ⟨(i + 1),_,rfl,⟨x11,(step_all0 i13 (by simp [letterB]; omega)),e14,e15,rfl⟩,(show s.size - (i + 1) < s.size - i by omega)⟩
  refine c_cond0 (vb (ej rfl rfl) (decide_eq_false h17)) (c_exit (e_then (e_then (e_hit (n_then (c_seq (c_reg (s_assign (v := .bool true) ev_c (w0 rfl) (c_done (n_then (c_ret ?_)))))))))))
  refine ret1 (v := .bool true) rfl rfl rfl ?_
  refine ⟨_,rfl,?_,(Ext.trans x9 x11)⟩
  (refine congrArg Value.bool (Eq.symm (wordB_yes0 (by omega) (by omega) (by omega) (by omega) (by assumption) i13)))
theorem v_name (s : ByteArray) (w : World) (hs : s.size ≤ 140737488351232) :
    Rt Tryz.prog 130 #[.string s] w fun v w' => v = .bool (nameB s) ∧ Ext w w' := by
  refine enter Tryz.func130 rfl (l := [.string s]) rfl Tryz.ntmps130 (Nat.le_of_ble_eq_true rfl) ?_
  refine c_seq (c_reg (s_assign (v := .bool false) ev_c (w0 rfl) (c_done (n_then (c_seq (c_seq (c_reg (s_move (v := .string s) (ej rfl rfl) (w0 rfl) (s_lenS F_us9 (ej rfl rfl) (w0 rfl) (s_cmp (r := decide ((s.size : Int) = 0)) (ej rfl rfl) ev_c rfl (w0 rfl) ?_))))))))))
  by_cases h1 : (s.size : Int) = 0
  · refine s_move (v := .bool true) (vb (ej rfl rfl) (decide_eq_true h1)) (w0 rfl) (s_skip (wn rfl rfl rfl rfl rfl) (s_skip (wn rfl rfl rfl rfl rfl) (s_skip (wn rfl rfl rfl rfl rfl) (s_pick1 (v := .bool true) (ej rfl rfl) ev_c (w0 rfl) (s_move (v := .bool true) (ej rfl rfl) (w0 rfl) (s_skip (wn rfl rfl rfl rfl rfl) (s_skip (wn rfl rfl rfl rfl rfl) (s_skip (wn rfl rfl rfl rfl rfl) (s_pick1 (v := .bool true) (ej rfl rfl) ev_c (w0 rfl) (s_move (v := .bool true) (ej rfl rfl) (w0 rfl) (s_skip (wn rfl rfl rfl rfl rfl) ?_)))))))))))
    refine s_skip (wn rfl rfl rfl rfl rfl) (s_skip (wn rfl rfl rfl rfl rfl) (s_pick1 (v := .bool true) (ej rfl rfl) ev_c (w0 rfl) (c_done (n_then (c_cond1 (ej rfl rfl) (c_seq (c_reg (s_assign (v := .bool false) ev_c (w0 rfl) (c_done (n_then (c_ret ?_)))))))))))
    refine r_then (ret1 (v := .bool false) rfl rfl rfl ?_)
    refine ⟨_,rfl,?_,(Ext.refl w)⟩
    (refine congrArg Value.bool (Eq.symm ?_); simp only [nameB,wordB,Bool.and_eq_false_iff,decide_eq_false_iff_not]; left; omega)
  refine s_move (v := .bool false) (vb (ej rfl rfl) (decide_eq_false h1)) (w0 rfl) (s_move (v := .string s) (ej rfl rfl) (wy rfl rfl rfl rfl) (s_lenS F_us9 (ej rfl rfl) (wy rfl rfl rfl rfl) (s_cmp (r := decide (120 < (s.size : Int))) (ej rfl rfl) ev_c rfl (wy rfl rfl rfl rfl) (s_pick0 (v := .bool (decide (120 < (s.size : Int)))) (ej rfl rfl) (ej rfl rfl) (w0 rfl) ?_))))
  by_cases h2 : 120 < (s.size : Int)
  · refine s_move (v := .bool true) (vb (ej rfl rfl) (decide_eq_true h2)) (w0 rfl) (s_skip (wn rfl rfl rfl rfl rfl) (s_skip (wn rfl rfl rfl rfl rfl) (s_skip (wn rfl rfl rfl rfl rfl) (s_pick1 (v := .bool true) (ej rfl rfl) ev_c (w0 rfl) (s_move (v := .bool true) (ej rfl rfl) (w0 rfl) (s_skip (wn rfl rfl rfl rfl rfl) (s_skip (wn rfl rfl rfl rfl rfl) (s_skip (wn rfl rfl rfl rfl rfl) (s_pick1 (v := .bool true) (ej rfl rfl) ev_c (w0 rfl) (c_done (n_then ?_)))))))))))
    refine c_cond1 (ej rfl rfl) (c_seq (c_reg (s_assign (v := .bool false) ev_c (w0 rfl) (c_done (n_then (c_ret (r_then (ret1 (v := .bool false) rfl rfl rfl ?_))))))))
    refine ⟨_,rfl,?_,(Ext.refl w)⟩
    (refine congrArg Value.bool (Eq.symm ?_); simp only [nameB,wordB,Bool.and_eq_false_iff,decide_eq_false_iff_not]; left; omega)
  refine s_move (v := .bool false) (vb (ej rfl rfl) (decide_eq_false h2)) (w0 rfl) (s_move (v := .string s) (ej rfl rfl) (wy rfl rfl rfl rfl) (s_byte (j := 0) F_us9 (ej rfl rfl) ev_c rfl (by omega) (wy rfl rfl rfl rfl) (s_cmp (r := decide ((byteAt s 0 : Int) < 97)) (ej rfl rfl) ev_c rfl (wy rfl rfl rfl rfl) (s_pick0 (v := .bool (decide ((byteAt s 0 : Int) < 97))) (ej rfl rfl) (ej rfl rfl) (w0 rfl) ?_))))
  by_cases h3 : (byteAt s 0 : Int) < 97
  · refine s_move (v := .bool true) (vb (ej rfl rfl) (decide_eq_true h3)) (w0 rfl) (s_skip (wn rfl rfl rfl rfl rfl) (s_skip (wn rfl rfl rfl rfl rfl) (s_skip (wn rfl rfl rfl rfl rfl) (s_pick1 (v := .bool true) (ej rfl rfl) ev_c (w0 rfl) (c_done (n_then (c_cond1 (ej rfl rfl) (c_seq (c_reg (s_assign (v := .bool false) ev_c (w0 rfl) (c_done ?_)))))))))))
    refine n_then (c_ret (r_then (ret1 (v := .bool false) rfl rfl rfl ?_)))
    refine ⟨_,rfl,?_,(Ext.refl w)⟩
    (refine congrArg Value.bool (Eq.symm ?_); simp only [nameB,wordB,Bool.and_eq_false_iff,decide_eq_false_iff_not]; left; omega)
  refine s_move (v := .bool false) (vb (ej rfl rfl) (decide_eq_false h3)) (w0 rfl) (s_move (v := .string s) (ej rfl rfl) (wy rfl rfl rfl rfl) (s_byte (j := 0) F_us9 (ej rfl rfl) ev_c rfl (by omega) (wy rfl rfl rfl rfl) (s_cmp (r := decide (122 < (byteAt s 0 : Int))) (ej rfl rfl) ev_c rfl (wy rfl rfl rfl rfl) (s_pick0 (v := .bool (decide (122 < (byteAt s 0 : Int)))) (ej rfl rfl) (ej rfl rfl) (w0 rfl) (c_done (n_then ?_))))))
  by_cases h4 : 122 < (byteAt s 0 : Int)
  · refine c_cond1 (vb (ej rfl rfl) (decide_eq_true h4)) (c_seq (c_reg (s_assign (v := .bool false) ev_c (w0 rfl) (c_done (n_then (c_ret (r_then (ret1 (v := .bool false) rfl rfl rfl ?_))))))))
    refine ⟨_,rfl,?_,(Ext.refl w)⟩
    (refine congrArg Value.bool (Eq.symm ?_); simp only [nameB,wordB,Bool.and_eq_false_iff,decide_eq_false_iff_not]; left; omega)
  refine c_cond0 (vb (ej rfl rfl) (decide_eq_false h4)) (c_skip (n_then (c_seq (c_seq (c_reg (s_move (v := .string s) (ej rfl rfl) (w0 rfl) (s_sbytes F_us9 F_ul93 F_ui5 (ej rfl rfl) (w0 rfl) ?_)))))))
  intro w7 g5 c6 sb8 x9
  refine s_lenL F_l93 (ej rfl rfl) (w0 rfl) (s_move (v := .int .i64 0) ev_c (w0 rfl) (c_done (n_then (c_block (c_loop (α := Nat) (fun (i : Nat) env_ w_ => Ext w7 w_ ∧ (∀ j,j < i → letterB (byteAt s j) = true) ∧ env_ 0 = .string s ∧ env_ 24 = .slice (some ⟨g5,0,none⟩) s.size c6 ∧ env_ 25 = .int .i64 (s.size : Int) ∧ env_ 26 = .int .i64 ((i : Nat) : Int)) (fun i => s.size - i) (0) ⟨Ext.refl _,fun j hj => absurd hj (Nat.not_lt_zero j),rfl,rfl,rfl,rfl⟩ ?_)))))
  rintro i env12 w10 ⟨x11,i13,e14,e15,e16,e17⟩
  refine c_seq (c_reg (s_cmp (r := decide (((i : Nat) : Int) < (s.size : Int))) (ej rfl e17) (ej rfl e16) rfl (w0 rfl) (c_done (n_then (c_seq ?_)))))
  by_cases h18 : ((i : Nat) : Int) < (s.size : Int)
  · refine c_cond1 (vb (ej rfl rfl) (decide_eq_true h18)) (c_skip (n_then (c_seq (c_block (c_seq (c_reg (s_indexR (j := i) F_l93 (ej rfl e15) rfl (ej rfl e17) rfl (by omega) (w0 rfl) (s_load (v := .int .u8 (byteAt s i : Int)) F_o5 (ej rfl rfl) ((SB.ext sb8 x11) i (by omega)) (w0 rfl) (s_assign (v := .int .u8 (byteAt s i : Int)) (ej rfl rfl) (w0 rfl) (c_done (n_then ?_)))))))))))
    refine c_seq (c_reg (s_move (v := .int .u8 (byteAt s i : Int)) (ej rfl rfl) (w0 rfl) (s_cmp (r := decide ((byteAt s i : Int) < 97)) (ej rfl rfl) ev_c rfl (w0 rfl) ?_)))
    by_cases h19 : (byteAt s i : Int) < 97
    · refine s_move (v := .bool true) (vb (ej rfl rfl) (decide_eq_true h19)) (w0 rfl) (s_skip (wn rfl rfl rfl rfl rfl) (s_skip (wn rfl rfl rfl rfl rfl) (s_pick1 (v := .bool true) (ej rfl rfl) ev_c (w0 rfl) (s_move (v := .bool true) (ej rfl rfl) (w0 rfl) (s_move (v := .int .u8 (byteAt s i : Int)) (ej rfl rfl) (wy rfl rfl rfl rfl) (s_cmp (r := decide ((byteAt s i : Int) < 65)) (ej rfl rfl) ev_c rfl (wy rfl rfl rfl rfl) ?_))))))
      by_cases h20 : (byteAt s i : Int) < 65
      · refine s_move (v := .bool true) (vb (ej rfl rfl) (decide_eq_true h20)) (wy rfl rfl rfl rfl) (s_skip (wn rfl rfl rfl rfl rfl) (s_skip (wn rfl rfl rfl rfl rfl) (s_pick1 (v := .bool true) (ej rfl rfl) ev_c (wy rfl rfl rfl rfl) (s_pick1 (v := .bool true) (ej rfl rfl) (ej rfl rfl) (w0 rfl) (s_move (v := .bool true) (ej rfl rfl) (w0 rfl) (s_move (v := .int .u8 (byteAt s i : Int)) (ej rfl rfl) (wy rfl rfl rfl rfl) (s_cmp (r := decide ((byteAt s i : Int) < 48)) (ej rfl rfl) ev_c rfl (wy rfl rfl rfl rfl) ?_)))))))
        by_cases h21 : (byteAt s i : Int) < 48
        · refine s_move (v := .bool true) (vb (ej rfl rfl) (decide_eq_true h21)) (wy rfl rfl rfl rfl) (s_skip (wn rfl rfl rfl rfl rfl) (s_skip (wn rfl rfl rfl rfl rfl) (s_pick1 (v := .bool true) (ej rfl rfl) ev_c (wy rfl rfl rfl rfl) (s_pick1 (v := .bool true) (ej rfl rfl) (ej rfl rfl) (w0 rfl) (s_move (v := .bool true) (ej rfl rfl) (w0 rfl) (s_move (v := .int .u8 (byteAt s i : Int)) (ej rfl rfl) (wy rfl rfl rfl rfl) (s_cmp (r := !decide ((byteAt s i : Int) = 95)) (ej rfl rfl) ev_c rfl (wy rfl rfl rfl rfl) (s_pick1 (v := .bool (!decide ((byteAt s i : Int) = 95))) (ej rfl rfl) (ej rfl rfl) (w0 rfl) (c_done (n_then ?_))))))))))
          by_cases h22 : (byteAt s i : Int) = 95
          · refine c_cond0 (vb (ej rfl rfl) (nb0 h22)) (c_skip (n_block (n_then (c_reg (s_add (r := ((i + 1 : Nat) : Int)) (ej rfl e17) ev_c (by omega) (by omega) (w0 rfl) (s_move (v := .int .i64 ((i + 1 : Nat) : Int)) (ej rfl rfl) (w0 rfl) (c_done ?_)))))))
            exact ⟨(i + 1),_,rfl,⟨x11,(step_all0 i13 (by simp [letterB]; omega)),e14,e15,e16,rfl⟩,(show s.size - (i + 1) < s.size - i by omega)⟩
          refine c_cond1 (vb (ej rfl rfl) (nb1 h22)) (c_seq (c_reg (s_assign (v := .bool false) ev_c (w0 rfl) (c_done (n_then (c_ret (r_block (r_then (r_then (r_block (r_then ?_)))))))))))
          refine ret1 (v := .bool false) rfl rfl rfl ?_
          refine ⟨_,rfl,?_,(Ext.trans x9 x11)⟩
          (refine congrArg Value.bool (Eq.symm ?_); first | (simp [nameB,kwB, *]; done) | (simp only [nameB]; rw [wordB_no i (by omega) (by simp [letterB]; omega)]; rfl))
        refine s_move (v := .bool false) (vb (ej rfl rfl) (decide_eq_false h21)) (wy rfl rfl rfl rfl) (s_move (v := .int .u8 (byteAt s i : Int)) (ej rfl rfl) (wy rfl rfl rfl rfl) (s_cmp (r := decide (57 < (byteAt s i : Int))) (ej rfl rfl) ev_c rfl (wy rfl rfl rfl rfl) (s_pick0 (v := .bool (decide (57 < (byteAt s i : Int)))) (ej rfl rfl) (ej rfl rfl) (wy rfl rfl rfl rfl) (s_pick1 (v := .bool (decide (57 < (byteAt s i : Int)))) (ej rfl rfl) (ej rfl rfl) (w0 rfl) ?_))))
        by_cases h23 : 57 < (byteAt s i : Int)
        · refine s_move (v := .bool true) (vb (ej rfl rfl) (decide_eq_true h23)) (w0 rfl) (s_move (v := .int .u8 (byteAt s i : Int)) (ej rfl rfl) (wy rfl rfl rfl rfl) (s_cmp (r := !decide ((byteAt s i : Int) = 95)) (ej rfl rfl) ev_c rfl (wy rfl rfl rfl rfl) (s_pick1 (v := .bool (!decide ((byteAt s i : Int) = 95))) (ej rfl rfl) (ej rfl rfl) (w0 rfl) (c_done (n_then ?_)))))
          by_cases h24 : (byteAt s i : Int) = 95
          · refine c_cond0 (vb (ej rfl rfl) (nb0 h24)) (c_skip (n_block (n_then (c_reg (s_add (r := ((i + 1 : Nat) : Int)) (ej rfl e17) ev_c (by omega) (by omega) (w0 rfl) (s_move (v := .int .i64 ((i + 1 : Nat) : Int)) (ej rfl rfl) (w0 rfl) (c_done ?_)))))))
            exact ⟨(i + 1),_,rfl,⟨x11,(step_all0 i13 (by simp [letterB]; omega)),e14,e15,e16,rfl⟩,(show s.size - (i + 1) < s.size - i by omega)⟩
          refine c_cond1 (vb (ej rfl rfl) (nb1 h24)) (c_seq (c_reg (s_assign (v := .bool false) ev_c (w0 rfl) (c_done (n_then (c_ret (r_block (r_then (r_then (r_block (r_then ?_)))))))))))
          refine ret1 (v := .bool false) rfl rfl rfl ?_
          refine ⟨_,rfl,?_,(Ext.trans x9 x11)⟩
          (refine congrArg Value.bool (Eq.symm ?_); first | (simp [nameB,kwB, *]; done) | (simp only [nameB]; rw [wordB_no i (by omega) (by simp [letterB]; omega)]; rfl))
        refine s_move (v := .bool false) (vb (ej rfl rfl) (decide_eq_false h23)) (w0 rfl) (s_skip (wn rfl rfl rfl rfl rfl) (s_skip (wn rfl rfl rfl rfl rfl) (s_pick0 (v := .bool false) (ej rfl rfl) ev_c (w0 rfl) (c_done (n_then (c_cond0 (ej rfl rfl) (c_skip (n_block (n_then (c_reg (s_add (r := ((i + 1 : Nat) : Int)) (ej rfl e17) ev_c (by omega) (by omega) (w0 rfl) ?_)))))))))))
        refine s_move (v := .int .i64 ((i + 1 : Nat) : Int)) (ej rfl rfl) (w0 rfl) (c_done ?_)
        exact ⟨(i + 1),_,rfl,⟨x11,(step_all0 i13 (by simp [letterB]; omega)),e14,e15,e16,rfl⟩,(show s.size - (i + 1) < s.size - i by omega)⟩
      refine s_move (v := .bool false) (vb (ej rfl rfl) (decide_eq_false h20)) (wy rfl rfl rfl rfl) (s_move (v := .int .u8 (byteAt s i : Int)) (ej rfl rfl) (wy rfl rfl rfl rfl) (s_cmp (r := decide (90 < (byteAt s i : Int))) (ej rfl rfl) ev_c rfl (wy rfl rfl rfl rfl) (s_pick0 (v := .bool (decide (90 < (byteAt s i : Int)))) (ej rfl rfl) (ej rfl rfl) (wy rfl rfl rfl rfl) (s_pick1 (v := .bool (decide (90 < (byteAt s i : Int)))) (ej rfl rfl) (ej rfl rfl) (w0 rfl) ?_))))
      by_cases h25 : 90 < (byteAt s i : Int)
      · refine s_move (v := .bool true) (vb (ej rfl rfl) (decide_eq_true h25)) (w0 rfl) (s_move (v := .int .u8 (byteAt s i : Int)) (ej rfl rfl) (wy rfl rfl rfl rfl) (s_cmp (r := decide ((byteAt s i : Int) < 48)) (ej rfl rfl) ev_c rfl (wy rfl rfl rfl rfl) ?_))
        by_cases h26 : (byteAt s i : Int) < 48
        · refine s_move (v := .bool true) (vb (ej rfl rfl) (decide_eq_true h26)) (wy rfl rfl rfl rfl) (s_skip (wn rfl rfl rfl rfl rfl) (s_skip (wn rfl rfl rfl rfl rfl) (s_pick1 (v := .bool true) (ej rfl rfl) ev_c (wy rfl rfl rfl rfl) (s_pick1 (v := .bool true) (ej rfl rfl) (ej rfl rfl) (w0 rfl) (s_move (v := .bool true) (ej rfl rfl) (w0 rfl) (s_move (v := .int .u8 (byteAt s i : Int)) (ej rfl rfl) (wy rfl rfl rfl rfl) (s_cmp (r := !decide ((byteAt s i : Int) = 95)) (ej rfl rfl) ev_c rfl (wy rfl rfl rfl rfl) (s_pick1 (v := .bool (!decide ((byteAt s i : Int) = 95))) (ej rfl rfl) (ej rfl rfl) (w0 rfl) (c_done (n_then ?_))))))))))
          by_cases h27 : (byteAt s i : Int) = 95
          · refine c_cond0 (vb (ej rfl rfl) (nb0 h27)) (c_skip (n_block (n_then (c_reg (s_add (r := ((i + 1 : Nat) : Int)) (ej rfl e17) ev_c (by omega) (by omega) (w0 rfl) (s_move (v := .int .i64 ((i + 1 : Nat) : Int)) (ej rfl rfl) (w0 rfl) (c_done ?_)))))))
            exact ⟨(i + 1),_,rfl,⟨x11,(step_all0 i13 (by simp [letterB]; omega)),e14,e15,e16,rfl⟩,(show s.size - (i + 1) < s.size - i by omega)⟩
          refine c_cond1 (vb (ej rfl rfl) (nb1 h27)) (c_seq (c_reg (s_assign (v := .bool false) ev_c (w0 rfl) (c_done (n_then (c_ret (r_block (r_then (r_then (r_block (r_then ?_)))))))))))
          refine ret1 (v := .bool false) rfl rfl rfl ?_
          refine ⟨_,rfl,?_,(Ext.trans x9 x11)⟩
          (refine congrArg Value.bool (Eq.symm ?_); first | (simp [nameB,kwB, *]; done) | (simp only [nameB]; rw [wordB_no i (by omega) (by simp [letterB]; omega)]; rfl))
        refine s_move (v := .bool false) (vb (ej rfl rfl) (decide_eq_false h26)) (wy rfl rfl rfl rfl) (s_move (v := .int .u8 (byteAt s i : Int)) (ej rfl rfl) (wy rfl rfl rfl rfl) (s_cmp (r := decide (57 < (byteAt s i : Int))) (ej rfl rfl) ev_c rfl (wy rfl rfl rfl rfl) (s_pick0 (v := .bool (decide (57 < (byteAt s i : Int)))) (ej rfl rfl) (ej rfl rfl) (wy rfl rfl rfl rfl) (s_pick1 (v := .bool (decide (57 < (byteAt s i : Int)))) (ej rfl rfl) (ej rfl rfl) (w0 rfl) ?_))))
        by_cases h28 : 57 < (byteAt s i : Int)
        · refine s_move (v := .bool true) (vb (ej rfl rfl) (decide_eq_true h28)) (w0 rfl) (s_move (v := .int .u8 (byteAt s i : Int)) (ej rfl rfl) (wy rfl rfl rfl rfl) (s_cmp (r := !decide ((byteAt s i : Int) = 95)) (ej rfl rfl) ev_c rfl (wy rfl rfl rfl rfl) (s_pick1 (v := .bool (!decide ((byteAt s i : Int) = 95))) (ej rfl rfl) (ej rfl rfl) (w0 rfl) (c_done (n_then ?_)))))
          by_cases h29 : (byteAt s i : Int) = 95
          · refine c_cond0 (vb (ej rfl rfl) (nb0 h29)) (c_skip (n_block (n_then (c_reg (s_add (r := ((i + 1 : Nat) : Int)) (ej rfl e17) ev_c (by omega) (by omega) (w0 rfl) (s_move (v := .int .i64 ((i + 1 : Nat) : Int)) (ej rfl rfl) (w0 rfl) (c_done ?_)))))))
            exact ⟨(i + 1),_,rfl,⟨x11,(step_all0 i13 (by simp [letterB]; omega)),e14,e15,e16,rfl⟩,(show s.size - (i + 1) < s.size - i by omega)⟩
          refine c_cond1 (vb (ej rfl rfl) (nb1 h29)) (c_seq (c_reg (s_assign (v := .bool false) ev_c (w0 rfl) (c_done (n_then (c_ret (r_block (r_then (r_then (r_block (r_then ?_)))))))))))
          refine ret1 (v := .bool false) rfl rfl rfl ?_
          refine ⟨_,rfl,?_,(Ext.trans x9 x11)⟩
          (refine congrArg Value.bool (Eq.symm ?_); first | (simp [nameB,kwB, *]; done) | (simp only [nameB]; rw [wordB_no i (by omega) (by simp [letterB]; omega)]; rfl))
        refine s_move (v := .bool false) (vb (ej rfl rfl) (decide_eq_false h28)) (w0 rfl) (s_skip (wn rfl rfl rfl rfl rfl) (s_skip (wn rfl rfl rfl rfl rfl) (s_pick0 (v := .bool false) (ej rfl rfl) ev_c (w0 rfl) (c_done (n_then (c_cond0 (ej rfl rfl) (c_skip (n_block (n_then (c_reg (s_add (r := ((i + 1 : Nat) : Int)) (ej rfl e17) ev_c (by omega) (by omega) (w0 rfl) ?_)))))))))))
        refine s_move (v := .int .i64 ((i + 1 : Nat) : Int)) (ej rfl rfl) (w0 rfl) (c_done ?_)
        exact ⟨(i + 1),_,rfl,⟨x11,(step_all0 i13 (by simp [letterB]; omega)),e14,e15,e16,rfl⟩,(show s.size - (i + 1) < s.size - i by omega)⟩
      refine s_move (v := .bool false) (vb (ej rfl rfl) (decide_eq_false h25)) (w0 rfl) (s_skip (wn rfl rfl rfl rfl rfl) (s_skip (wn rfl rfl rfl rfl rfl) (s_skip (wn rfl rfl rfl rfl rfl) (s_skip (wu rfl rfl rfl rfl) (s_skip (wu rfl rfl rfl rfl) (s_skip (wn rfl rfl rfl rfl rfl) (s_pick0 (v := .bool false) (ej rfl rfl) ev_c (w0 rfl) (s_move (v := .bool false) (ej rfl rfl) (w0 rfl) (s_skip (wn rfl rfl rfl rfl rfl) (s_skip (wn rfl rfl rfl rfl rfl) (s_pick0 (v := .bool false) (ej rfl rfl) ev_c (w0 rfl) ?_)))))))))))
      refine c_done (n_then (c_cond0 (ej rfl rfl) (c_skip (n_block (n_then (c_reg (s_add (r := ((i + 1 : Nat) : Int)) (ej rfl e17) ev_c (by omega) (by omega) (w0 rfl) (s_move (v := .int .i64 ((i + 1 : Nat) : Int)) (ej rfl rfl) (w0 rfl) (c_done ?_)))))))))
      exact ⟨(i + 1),_,rfl,⟨x11,(step_all0 i13 (by simp [letterB]; omega)),e14,e15,e16,rfl⟩,(show s.size - (i + 1) < s.size - i by omega)⟩
    refine s_move (v := .bool false) (vb (ej rfl rfl) (decide_eq_false h19)) (w0 rfl) (s_move (v := .int .u8 (byteAt s i : Int)) (ej rfl rfl) (wy rfl rfl rfl rfl) (s_cmp (r := decide (122 < (byteAt s i : Int))) (ej rfl rfl) ev_c rfl (wy rfl rfl rfl rfl) (s_pick0 (v := .bool (decide (122 < (byteAt s i : Int)))) (ej rfl rfl) (ej rfl rfl) (w0 rfl) ?_)))
    by_cases h30 : 122 < (byteAt s i : Int)
    · refine s_move (v := .bool true) (vb (ej rfl rfl) (decide_eq_true h30)) (w0 rfl) (s_move (v := .int .u8 (byteAt s i : Int)) (ej rfl rfl) (wy rfl rfl rfl rfl) (s_cmp (r := decide ((byteAt s i : Int) < 65)) (ej rfl rfl) ev_c rfl (wy rfl rfl rfl rfl) ?_))
      by_cases h31 : (byteAt s i : Int) < 65
      · refine s_move (v := .bool true) (vb (ej rfl rfl) (decide_eq_true h31)) (wy rfl rfl rfl rfl) (s_skip (wn rfl rfl rfl rfl rfl) (s_skip (wn rfl rfl rfl rfl rfl) (s_pick1 (v := .bool true) (ej rfl rfl) ev_c (wy rfl rfl rfl rfl) (s_pick1 (v := .bool true) (ej rfl rfl) (ej rfl rfl) (w0 rfl) (s_move (v := .bool true) (ej rfl rfl) (w0 rfl) (s_move (v := .int .u8 (byteAt s i : Int)) (ej rfl rfl) (wy rfl rfl rfl rfl) (s_cmp (r := decide ((byteAt s i : Int) < 48)) (ej rfl rfl) ev_c rfl (wy rfl rfl rfl rfl) ?_)))))))
        by_cases h32 : (byteAt s i : Int) < 48
        · refine s_move (v := .bool true) (vb (ej rfl rfl) (decide_eq_true h32)) (wy rfl rfl rfl rfl) (s_skip (wn rfl rfl rfl rfl rfl) (s_skip (wn rfl rfl rfl rfl rfl) (s_pick1 (v := .bool true) (ej rfl rfl) ev_c (wy rfl rfl rfl rfl) (s_pick1 (v := .bool true) (ej rfl rfl) (ej rfl rfl) (w0 rfl) (s_move (v := .bool true) (ej rfl rfl) (w0 rfl) (s_move (v := .int .u8 (byteAt s i : Int)) (ej rfl rfl) (wy rfl rfl rfl rfl) (s_cmp (r := !decide ((byteAt s i : Int) = 95)) (ej rfl rfl) ev_c rfl (wy rfl rfl rfl rfl) (s_pick1 (v := .bool (!decide ((byteAt s i : Int) = 95))) (ej rfl rfl) (ej rfl rfl) (w0 rfl) (c_done (n_then ?_))))))))))
          by_cases h33 : (byteAt s i : Int) = 95
          · refine c_cond0 (vb (ej rfl rfl) (nb0 h33)) (c_skip (n_block (n_then (c_reg (s_add (r := ((i + 1 : Nat) : Int)) (ej rfl e17) ev_c (by omega) (by omega) (w0 rfl) (s_move (v := .int .i64 ((i + 1 : Nat) : Int)) (ej rfl rfl) (w0 rfl) (c_done ?_)))))))
            exact ⟨(i + 1),_,rfl,⟨x11,(step_all0 i13 (by simp [letterB]; omega)),e14,e15,e16,rfl⟩,(show s.size - (i + 1) < s.size - i by omega)⟩
          refine c_cond1 (vb (ej rfl rfl) (nb1 h33)) (c_seq (c_reg (s_assign (v := .bool false) ev_c (w0 rfl) (c_done (n_then (c_ret (r_block (r_then (r_then (r_block (r_then ?_)))))))))))
          refine ret1 (v := .bool false) rfl rfl rfl ?_
          refine ⟨_,rfl,?_,(Ext.trans x9 x11)⟩
          (refine congrArg Value.bool (Eq.symm ?_); first | (simp [nameB,kwB, *]; done) | (simp only [nameB]; rw [wordB_no i (by omega) (by simp [letterB]; omega)]; rfl))
        refine s_move (v := .bool false) (vb (ej rfl rfl) (decide_eq_false h32)) (wy rfl rfl rfl rfl) (s_move (v := .int .u8 (byteAt s i : Int)) (ej rfl rfl) (wy rfl rfl rfl rfl) (s_cmp (r := decide (57 < (byteAt s i : Int))) (ej rfl rfl) ev_c rfl (wy rfl rfl rfl rfl) (s_pick0 (v := .bool (decide (57 < (byteAt s i : Int)))) (ej rfl rfl) (ej rfl rfl) (wy rfl rfl rfl rfl) (s_pick1 (v := .bool (decide (57 < (byteAt s i : Int)))) (ej rfl rfl) (ej rfl rfl) (w0 rfl) ?_))))
        by_cases h34 : 57 < (byteAt s i : Int)
        · refine s_move (v := .bool true) (vb (ej rfl rfl) (decide_eq_true h34)) (w0 rfl) (s_move (v := .int .u8 (byteAt s i : Int)) (ej rfl rfl) (wy rfl rfl rfl rfl) (s_cmp (r := !decide ((byteAt s i : Int) = 95)) (ej rfl rfl) ev_c rfl (wy rfl rfl rfl rfl) (s_pick1 (v := .bool (!decide ((byteAt s i : Int) = 95))) (ej rfl rfl) (ej rfl rfl) (w0 rfl) (c_done (n_then ?_)))))
          by_cases h35 : (byteAt s i : Int) = 95
          · refine c_cond0 (vb (ej rfl rfl) (nb0 h35)) (c_skip (n_block (n_then (c_reg (s_add (r := ((i + 1 : Nat) : Int)) (ej rfl e17) ev_c (by omega) (by omega) (w0 rfl) (s_move (v := .int .i64 ((i + 1 : Nat) : Int)) (ej rfl rfl) (w0 rfl) (c_done ?_)))))))
            exact ⟨(i + 1),_,rfl,⟨x11,(step_all0 i13 (by simp [letterB]; omega)),e14,e15,e16,rfl⟩,(show s.size - (i + 1) < s.size - i by omega)⟩
          refine c_cond1 (vb (ej rfl rfl) (nb1 h35)) (c_seq (c_reg (s_assign (v := .bool false) ev_c (w0 rfl) (c_done (n_then (c_ret (r_block (r_then (r_then (r_block (r_then ?_)))))))))))
          refine ret1 (v := .bool false) rfl rfl rfl ?_
          refine ⟨_,rfl,?_,(Ext.trans x9 x11)⟩
          (refine congrArg Value.bool (Eq.symm ?_); first | (simp [nameB,kwB, *]; done) | (simp only [nameB]; rw [wordB_no i (by omega) (by simp [letterB]; omega)]; rfl))
        refine s_move (v := .bool false) (vb (ej rfl rfl) (decide_eq_false h34)) (w0 rfl) (s_skip (wn rfl rfl rfl rfl rfl) (s_skip (wn rfl rfl rfl rfl rfl) (s_pick0 (v := .bool false) (ej rfl rfl) ev_c (w0 rfl) (c_done (n_then (c_cond0 (ej rfl rfl) (c_skip (n_block (n_then (c_reg (s_add (r := ((i + 1 : Nat) : Int)) (ej rfl e17) ev_c (by omega) (by omega) (w0 rfl) ?_)))))))))))
        refine s_move (v := .int .i64 ((i + 1 : Nat) : Int)) (ej rfl rfl) (w0 rfl) (c_done ?_)
        exact ⟨(i + 1),_,rfl,⟨x11,(step_all0 i13 (by simp [letterB]; omega)),e14,e15,e16,rfl⟩,(show s.size - (i + 1) < s.size - i by omega)⟩
      refine s_move (v := .bool false) (vb (ej rfl rfl) (decide_eq_false h31)) (wy rfl rfl rfl rfl) (s_move (v := .int .u8 (byteAt s i : Int)) (ej rfl rfl) (wy rfl rfl rfl rfl) (s_cmp (r := decide (90 < (byteAt s i : Int))) (ej rfl rfl) ev_c rfl (wy rfl rfl rfl rfl) (s_pick0 (v := .bool (decide (90 < (byteAt s i : Int)))) (ej rfl rfl) (ej rfl rfl) (wy rfl rfl rfl rfl) (s_pick1 (v := .bool (decide (90 < (byteAt s i : Int)))) (ej rfl rfl) (ej rfl rfl) (w0 rfl) ?_))))
      by_cases h36 : 90 < (byteAt s i : Int)
      · refine s_move (v := .bool true) (vb (ej rfl rfl) (decide_eq_true h36)) (w0 rfl) (s_move (v := .int .u8 (byteAt s i : Int)) (ej rfl rfl) (wy rfl rfl rfl rfl) (s_cmp (r := decide ((byteAt s i : Int) < 48)) (ej rfl rfl) ev_c rfl (wy rfl rfl rfl rfl) ?_))
        by_cases h37 : (byteAt s i : Int) < 48
        · refine s_move (v := .bool true) (vb (ej rfl rfl) (decide_eq_true h37)) (wy rfl rfl rfl rfl) (s_skip (wn rfl rfl rfl rfl rfl) (s_skip (wn rfl rfl rfl rfl rfl) (s_pick1 (v := .bool true) (ej rfl rfl) ev_c (wy rfl rfl rfl rfl) (s_pick1 (v := .bool true) (ej rfl rfl) (ej rfl rfl) (w0 rfl) (s_move (v := .bool true) (ej rfl rfl) (w0 rfl) (s_move (v := .int .u8 (byteAt s i : Int)) (ej rfl rfl) (wy rfl rfl rfl rfl) (s_cmp (r := !decide ((byteAt s i : Int) = 95)) (ej rfl rfl) ev_c rfl (wy rfl rfl rfl rfl) (s_pick1 (v := .bool (!decide ((byteAt s i : Int) = 95))) (ej rfl rfl) (ej rfl rfl) (w0 rfl) (c_done (n_then ?_))))))))))
          by_cases h38 : (byteAt s i : Int) = 95
          · refine c_cond0 (vb (ej rfl rfl) (nb0 h38)) (c_skip (n_block (n_then (c_reg (s_add (r := ((i + 1 : Nat) : Int)) (ej rfl e17) ev_c (by omega) (by omega) (w0 rfl) (s_move (v := .int .i64 ((i + 1 : Nat) : Int)) (ej rfl rfl) (w0 rfl) (c_done ?_)))))))
            exact ⟨(i + 1),_,rfl,⟨x11,(step_all0 i13 (by simp [letterB]; omega)),e14,e15,e16,rfl⟩,(show s.size - (i + 1) < s.size - i by omega)⟩
          refine c_cond1 (vb (ej rfl rfl) (nb1 h38)) (c_seq (c_reg (s_assign (v := .bool false) ev_c (w0 rfl) (c_done (n_then (c_ret (r_block (r_then (r_then (r_block (r_then ?_)))))))))))
          refine ret1 (v := .bool false) rfl rfl rfl ?_
          refine ⟨_,rfl,?_,(Ext.trans x9 x11)⟩
          (refine congrArg Value.bool (Eq.symm ?_); first | (simp [nameB,kwB, *]; done) | (simp only [nameB]; rw [wordB_no i (by omega) (by simp [letterB]; omega)]; rfl))
        refine s_move (v := .bool false) (vb (ej rfl rfl) (decide_eq_false h37)) (wy rfl rfl rfl rfl) (s_move (v := .int .u8 (byteAt s i : Int)) (ej rfl rfl) (wy rfl rfl rfl rfl) (s_cmp (r := decide (57 < (byteAt s i : Int))) (ej rfl rfl) ev_c rfl (wy rfl rfl rfl rfl) (s_pick0 (v := .bool (decide (57 < (byteAt s i : Int)))) (ej rfl rfl) (ej rfl rfl) (wy rfl rfl rfl rfl) (s_pick1 (v := .bool (decide (57 < (byteAt s i : Int)))) (ej rfl rfl) (ej rfl rfl) (w0 rfl) ?_))))
        by_cases h39 : 57 < (byteAt s i : Int)
        · refine s_move (v := .bool true) (vb (ej rfl rfl) (decide_eq_true h39)) (w0 rfl) (s_move (v := .int .u8 (byteAt s i : Int)) (ej rfl rfl) (wy rfl rfl rfl rfl) (s_cmp (r := !decide ((byteAt s i : Int) = 95)) (ej rfl rfl) ev_c rfl (wy rfl rfl rfl rfl) (s_pick1 (v := .bool (!decide ((byteAt s i : Int) = 95))) (ej rfl rfl) (ej rfl rfl) (w0 rfl) (c_done (n_then ?_)))))
          by_cases h40 : (byteAt s i : Int) = 95
          · refine c_cond0 (vb (ej rfl rfl) (nb0 h40)) (c_skip (n_block (n_then (c_reg (s_add (r := ((i + 1 : Nat) : Int)) (ej rfl e17) ev_c (by omega) (by omega) (w0 rfl) (s_move (v := .int .i64 ((i + 1 : Nat) : Int)) (ej rfl rfl) (w0 rfl) (c_done ?_)))))))
            exact ⟨(i + 1),_,rfl,⟨x11,(step_all0 i13 (by simp [letterB]; omega)),e14,e15,e16,rfl⟩,(show s.size - (i + 1) < s.size - i by omega)⟩
          refine c_cond1 (vb (ej rfl rfl) (nb1 h40)) (c_seq (c_reg (s_assign (v := .bool false) ev_c (w0 rfl) (c_done (n_then (c_ret (r_block (r_then (r_then (r_block (r_then ?_)))))))))))
          refine ret1 (v := .bool false) rfl rfl rfl ?_
          refine ⟨_,rfl,?_,(Ext.trans x9 x11)⟩
          (refine congrArg Value.bool (Eq.symm ?_); first | (simp [nameB,kwB, *]; done) | (simp only [nameB]; rw [wordB_no i (by omega) (by simp [letterB]; omega)]; rfl))
        refine s_move (v := .bool false) (vb (ej rfl rfl) (decide_eq_false h39)) (w0 rfl) (s_skip (wn rfl rfl rfl rfl rfl) (s_skip (wn rfl rfl rfl rfl rfl) (s_pick0 (v := .bool false) (ej rfl rfl) ev_c (w0 rfl) (c_done (n_then (c_cond0 (ej rfl rfl) (c_skip (n_block (n_then (c_reg (s_add (r := ((i + 1 : Nat) : Int)) (ej rfl e17) ev_c (by omega) (by omega) (w0 rfl) ?_)))))))))))
        refine s_move (v := .int .i64 ((i + 1 : Nat) : Int)) (ej rfl rfl) (w0 rfl) (c_done ?_)
        exact ⟨(i + 1),_,rfl,⟨x11,(step_all0 i13 (by simp [letterB]; omega)),e14,e15,e16,rfl⟩,(show s.size - (i + 1) < s.size - i by omega)⟩
      refine s_move (v := .bool false) (vb (ej rfl rfl) (decide_eq_false h36)) (w0 rfl) (s_skip (wn rfl rfl rfl rfl rfl) (s_skip (wn rfl rfl rfl rfl rfl) (s_skip (wn rfl rfl rfl rfl rfl) (s_skip (wu rfl rfl rfl rfl) (s_skip (wu rfl rfl rfl rfl) (s_skip (wn rfl rfl rfl rfl rfl) (s_pick0 (v := .bool false) (ej rfl rfl) ev_c (w0 rfl) (s_move (v := .bool false) (ej rfl rfl) (w0 rfl) (s_skip (wn rfl rfl rfl rfl rfl) (s_skip (wn rfl rfl rfl rfl rfl) (s_pick0 (v := .bool false) (ej rfl rfl) ev_c (w0 rfl) ?_)))))))))))
      refine c_done (n_then (c_cond0 (ej rfl rfl) (c_skip (n_block (n_then (c_reg (s_add (r := ((i + 1 : Nat) : Int)) (ej rfl e17) ev_c (by omega) (by omega) (w0 rfl) (s_move (v := .int .i64 ((i + 1 : Nat) : Int)) (ej rfl rfl) (w0 rfl) (c_done ?_)))))))))
      exact ⟨(i + 1),_,rfl,⟨x11,(step_all0 i13 (by simp [letterB]; omega)),e14,e15,e16,rfl⟩,(show s.size - (i + 1) < s.size - i by omega)⟩
    refine s_move (v := .bool false) (vb (ej rfl rfl) (decide_eq_false h30)) (w0 rfl) (s_skip (wn rfl rfl rfl rfl rfl) (s_skip (wn rfl rfl rfl rfl rfl) (s_skip (wn rfl rfl rfl rfl rfl) (s_skip (wu rfl rfl rfl rfl) (s_skip (wu rfl rfl rfl rfl) (s_skip (wn rfl rfl rfl rfl rfl) (s_pick0 (v := .bool false) (ej rfl rfl) ev_c (w0 rfl) (s_move (v := .bool false) (ej rfl rfl) (w0 rfl) (s_skip (wn rfl rfl rfl rfl rfl) (s_skip (wn rfl rfl rfl rfl rfl) (s_skip (wn rfl rfl rfl rfl rfl) ?_)))))))))))
    refine s_skip (wu rfl rfl rfl rfl) (s_skip (wu rfl rfl rfl rfl) (s_skip (wn rfl rfl rfl rfl rfl) (s_pick0 (v := .bool false) (ej rfl rfl) ev_c (w0 rfl) (s_move (v := .bool false) (ej rfl rfl) (w0 rfl) (s_skip (wn rfl rfl rfl rfl rfl) (s_skip (wn rfl rfl rfl rfl rfl) (s_pick0 (v := .bool false) (ej rfl rfl) ev_c (w0 rfl) (c_done (n_then (c_cond0 (ej rfl rfl) (c_skip ?_)))))))))))
    refine n_block (n_then (c_reg (s_add (r := ((i + 1 : Nat) : Int)) (ej rfl e17) ev_c (by omega) (by omega) (w0 rfl) (s_move (v := .int .i64 ((i + 1 : Nat) : Int)) (ej rfl rfl) (w0 rfl) (c_done ?_)))))
    exact ⟨(i + 1),_,rfl,⟨x11,(step_all0 i13 (by simp [letterB]; omega)),e14,e15,e16,rfl⟩,(show s.size - (i + 1) < s.size - i by omega)⟩
  refine c_cond0 (vb (ej rfl rfl) (decide_eq_false h18)) (c_exit (e_then (e_then (e_hit (n_then (c_seq (c_seq (c_reg (s_move (v := .string s) (ej rfl e14) (w0 rfl) (c_done (n_then ?_)))))))))))
  refine c_block (c_seq (c_seq (c_reg (s_cmpS (r := decide (s = (⟨#[110,111,116]⟩ : ByteArray))) (ej rfl rfl) ev_c rfl (w0 rfl) (s_assign (v := .bool (decide (s = (⟨#[110,111,116]⟩ : ByteArray)))) (ej rfl rfl) (w0 rfl) (c_done (n_then ?_)))))))
  by_cases h41 : s = (⟨#[110,111,116]⟩ : ByteArray)
  · refine c_cond1 (vb (ej rfl rfl) (decide_eq_true h41)) (c_skip (n_then (c_cond1 (vb (ej rfl rfl) (decide_eq_true h41)) (c_seq (c_reg (s_assign (v := .bool false) ev_c (w0 rfl) (c_done (n_then (c_ret (r_block (r_then ?_)))))))))))
    refine ret1 (v := .bool false) rfl rfl rfl ?_
    refine ⟨_,rfl,?_,(Ext.trans x9 x11)⟩
    (refine congrArg Value.bool (Eq.symm ?_); first | (simp [nameB,kwB, *]; done) | (simp only [nameB]; rw [wordB_no i (by omega) (by simp [letterB]; omega)]; rfl))
  refine c_cond0 (vb (ej rfl rfl) (decide_eq_false h41)) (c_seq (c_reg (s_cmpS (r := decide (s = (⟨#[99,111,117,110,116]⟩ : ByteArray))) (ej rfl rfl) ev_c rfl (w0 rfl) (s_assign (v := .bool (decide (s = (⟨#[99,111,117,110,116]⟩ : ByteArray)))) (ej rfl rfl) (w0 rfl) (c_done (n_then ?_))))))
  by_cases h42 : s = (⟨#[99,111,117,110,116]⟩ : ByteArray)
  · refine c_cond1 (vb (ej rfl rfl) (decide_eq_true h42)) (c_skip (n_then (c_cond1 (vb (ej rfl rfl) (decide_eq_true h42)) (c_seq (c_reg (s_assign (v := .bool false) ev_c (w0 rfl) (c_done (n_then (c_ret (r_block (r_then ?_)))))))))))
    refine ret1 (v := .bool false) rfl rfl rfl ?_
    refine ⟨_,rfl,?_,(Ext.trans x9 x11)⟩
    (refine congrArg Value.bool (Eq.symm ?_); first | (simp [nameB,kwB, *]; done) | (simp only [nameB]; rw [wordB_no i (by omega) (by simp [letterB]; omega)]; rfl))
  refine c_cond0 (vb (ej rfl rfl) (decide_eq_false h42)) (c_seq (c_reg (s_cmpS (r := decide (s = (⟨#[115,117,109]⟩ : ByteArray))) (ej rfl rfl) ev_c rfl (w0 rfl) (s_assign (v := .bool (decide (s = (⟨#[115,117,109]⟩ : ByteArray)))) (ej rfl rfl) (w0 rfl) (c_done (n_then ?_))))))
  by_cases h43 : s = (⟨#[115,117,109]⟩ : ByteArray)
  · refine c_cond1 (vb (ej rfl rfl) (decide_eq_true h43)) (c_skip (n_then (c_cond1 (vb (ej rfl rfl) (decide_eq_true h43)) (c_seq (c_reg (s_assign (v := .bool false) ev_c (w0 rfl) (c_done (n_then (c_ret (r_block (r_then ?_)))))))))))
    refine ret1 (v := .bool false) rfl rfl rfl ?_
    refine ⟨_,rfl,?_,(Ext.trans x9 x11)⟩
    (refine congrArg Value.bool (Eq.symm ?_); first | (simp [nameB,kwB, *]; done) | (simp only [nameB]; rw [wordB_no i (by omega) (by simp [letterB]; omega)]; rfl))
  refine c_cond0 (vb (ej rfl rfl) (decide_eq_false h43)) (c_seq (c_reg (s_cmpS (r := decide (s = (⟨#[109,105,110]⟩ : ByteArray))) (ej rfl rfl) ev_c rfl (w0 rfl) (s_assign (v := .bool (decide (s = (⟨#[109,105,110]⟩ : ByteArray)))) (ej rfl rfl) (w0 rfl) (c_done (n_then ?_))))))
  by_cases h44 : s = (⟨#[109,105,110]⟩ : ByteArray)
  · refine c_cond1 (vb (ej rfl rfl) (decide_eq_true h44)) (c_skip (n_then (c_cond1 (vb (ej rfl rfl) (decide_eq_true h44)) (c_seq (c_reg (s_assign (v := .bool false) ev_c (w0 rfl) (c_done (n_then (c_ret (r_block (r_then ?_)))))))))))
    refine ret1 (v := .bool false) rfl rfl rfl ?_
    refine ⟨_,rfl,?_,(Ext.trans x9 x11)⟩
    (refine congrArg Value.bool (Eq.symm ?_); first | (simp [nameB,kwB, *]; done) | (simp only [nameB]; rw [wordB_no i (by omega) (by simp [letterB]; omega)]; rfl))
  refine c_cond0 (vb (ej rfl rfl) (decide_eq_false h44)) (c_seq (c_reg (s_cmpS (r := decide (s = (⟨#[109,97,120]⟩ : ByteArray))) (ej rfl rfl) ev_c rfl (w0 rfl) (s_assign (v := .bool (decide (s = (⟨#[109,97,120]⟩ : ByteArray)))) (ej rfl rfl) (w0 rfl) (c_done (n_then ?_))))))
  by_cases h45 : s = (⟨#[109,97,120]⟩ : ByteArray)
  · refine c_cond1 (vb (ej rfl rfl) (decide_eq_true h45)) (c_skip (n_then (c_cond1 (vb (ej rfl rfl) (decide_eq_true h45)) (c_seq (c_reg (s_assign (v := .bool false) ev_c (w0 rfl) (c_done (n_then (c_ret (r_block (r_then ?_)))))))))))
    refine ret1 (v := .bool false) rfl rfl rfl ?_
    refine ⟨_,rfl,?_,(Ext.trans x9 x11)⟩
    (refine congrArg Value.bool (Eq.symm ?_); first | (simp [nameB,kwB, *]; done) | (simp only [nameB]; rw [wordB_no i (by omega) (by simp [letterB]; omega)]; rfl))
  refine c_cond0 (vb (ej rfl rfl) (decide_eq_false h45)) (c_seq (c_reg (s_cmpS (r := decide (s = (⟨#[108,101,110]⟩ : ByteArray))) (ej rfl rfl) ev_c rfl (w0 rfl) (s_assign (v := .bool (decide (s = (⟨#[108,101,110]⟩ : ByteArray)))) (ej rfl rfl) (w0 rfl) (c_done (n_then ?_))))))
  by_cases h46 : s = (⟨#[108,101,110]⟩ : ByteArray)
  · refine c_cond1 (vb (ej rfl rfl) (decide_eq_true h46)) (c_skip (n_then (c_cond1 (vb (ej rfl rfl) (decide_eq_true h46)) (c_seq (c_reg (s_assign (v := .bool false) ev_c (w0 rfl) (c_done (n_then (c_ret (r_block (r_then ?_)))))))))))
    refine ret1 (v := .bool false) rfl rfl rfl ?_
    refine ⟨_,rfl,?_,(Ext.trans x9 x11)⟩
    (refine congrArg Value.bool (Eq.symm ?_); first | (simp [nameB,kwB, *]; done) | (simp only [nameB]; rw [wordB_no i (by omega) (by simp [letterB]; omega)]; rfl))
  refine c_cond0 (vb (ej rfl rfl) (decide_eq_false h46)) (c_seq (c_reg (s_cmpS (r := decide (s = (⟨#[99,104,97,114,115]⟩ : ByteArray))) (ej rfl rfl) ev_c rfl (w0 rfl) (s_assign (v := .bool (decide (s = (⟨#[99,104,97,114,115]⟩ : ByteArray)))) (ej rfl rfl) (w0 rfl) (c_done (n_then ?_))))))
  by_cases h47 : s = (⟨#[99,104,97,114,115]⟩ : ByteArray)
  · refine c_cond1 (vb (ej rfl rfl) (decide_eq_true h47)) (c_skip (n_then (c_cond1 (vb (ej rfl rfl) (decide_eq_true h47)) (c_seq (c_reg (s_assign (v := .bool false) ev_c (w0 rfl) (c_done (n_then (c_ret (r_block (r_then ?_)))))))))))
    refine ret1 (v := .bool false) rfl rfl rfl ?_
    refine ⟨_,rfl,?_,(Ext.trans x9 x11)⟩
    (refine congrArg Value.bool (Eq.symm ?_); first | (simp [nameB,kwB, *]; done) | (simp only [nameB]; rw [wordB_no i (by omega) (by simp [letterB]; omega)]; rfl))
  refine c_cond0 (vb (ej rfl rfl) (decide_eq_false h47)) (c_reg (s_cmpS (r := decide (s = (⟨#[98,97,99,107]⟩ : ByteArray))) (ej rfl rfl) ev_c rfl (w0 rfl) (s_assign (v := .bool (decide (s = (⟨#[98,97,99,107]⟩ : ByteArray)))) (ej rfl rfl) (w0 rfl) (c_done (n_then ?_)))))
  by_cases h48 : s = (⟨#[98,97,99,107]⟩ : ByteArray)
  · refine c_cond1 (vb (ej rfl rfl) (decide_eq_true h48)) (c_seq (c_reg (s_assign (v := .bool false) ev_c (w0 rfl) (c_done (n_then (c_ret (r_block (r_then (ret1 (v := .bool false) rfl rfl rfl ?_)))))))))
    refine ⟨_,rfl,?_,(Ext.trans x9 x11)⟩
    (refine congrArg Value.bool (Eq.symm ?_); first | (simp [nameB,kwB, *]; done) | (simp only [nameB]; rw [wordB_no i (by omega) (by simp [letterB]; omega)]; rfl))
  refine c_cond0 (vb (ej rfl rfl) (decide_eq_false h48)) (c_skip (n_block (n_then (c_seq (c_reg (s_assign (v := .bool true) ev_c (w0 rfl) (c_done (n_then (c_ret (ret1 (v := .bool true) rfl rfl rfl ?_))))))))))
  refine ⟨_,rfl,?_,(Ext.trans x9 x11)⟩
  (refine congrArg Value.bool (Eq.symm ?_); simp only [nameB]; rw [wordB_yes0 (by omega) (by omega) (by omega) (by omega) (by assumption) i13]; simp [kwB, *])
theorem t_name (s : ByteArray) (w : World) (hs : s.size ≤ 140737488351232) :
    Rt Tryz.prog 65 #[.string s] w fun v w' => v = .bool (nameB s) ∧ Ext w w' := by
  refine enter Tryz.func65 rfl (l := [.string s]) rfl Tryz.ntmps65 (Nat.le_of_ble_eq_true rfl) ?_
  refine c_seq (c_reg (s_assign (v := .bool false) ev_c (w0 rfl) (c_done (n_then (c_seq (c_seq (c_reg (s_move (v := .string s) (ej rfl rfl) (w0 rfl) (c_done (n_then (c_block ?_)))))))))))
  refine c_seq (c_seq (c_reg (s_cmpS (r := decide (s = (⟨#[110,111,116]⟩ : ByteArray))) (ej rfl rfl) ev_c rfl (w0 rfl) (s_assign (v := .bool (decide (s = (⟨#[110,111,116]⟩ : ByteArray)))) (ej rfl rfl) (w0 rfl) (c_done (n_then ?_))))))
  by_cases h1 : s = (⟨#[110,111,116]⟩ : ByteArray)
  · refine c_cond1 (vb (ej rfl rfl) (decide_eq_true h1)) (c_skip (n_then (c_cond1 (vb (ej rfl rfl) (decide_eq_true h1)) (c_seq (c_reg (s_assign (v := .bool false) ev_c (w0 rfl) (c_done (n_then (c_ret (r_block (r_then ?_)))))))))))
    refine ret1 (v := .bool false) rfl rfl rfl ?_
    refine ⟨_,rfl,?_,(Ext.refl w)⟩
    (simp [nameB,kwB, *])
  refine c_cond0 (vb (ej rfl rfl) (decide_eq_false h1)) (c_seq (c_reg (s_cmpS (r := decide (s = (⟨#[99,111,117,110,116]⟩ : ByteArray))) (ej rfl rfl) ev_c rfl (w0 rfl) (s_assign (v := .bool (decide (s = (⟨#[99,111,117,110,116]⟩ : ByteArray)))) (ej rfl rfl) (w0 rfl) (c_done (n_then ?_))))))
  by_cases h2 : s = (⟨#[99,111,117,110,116]⟩ : ByteArray)
  · refine c_cond1 (vb (ej rfl rfl) (decide_eq_true h2)) (c_skip (n_then (c_cond1 (vb (ej rfl rfl) (decide_eq_true h2)) (c_seq (c_reg (s_assign (v := .bool false) ev_c (w0 rfl) (c_done (n_then (c_ret (r_block (r_then ?_)))))))))))
    refine ret1 (v := .bool false) rfl rfl rfl ?_
    refine ⟨_,rfl,?_,(Ext.refl w)⟩
    (simp [nameB,kwB, *])
  refine c_cond0 (vb (ej rfl rfl) (decide_eq_false h2)) (c_seq (c_reg (s_cmpS (r := decide (s = (⟨#[115,117,109]⟩ : ByteArray))) (ej rfl rfl) ev_c rfl (w0 rfl) (s_assign (v := .bool (decide (s = (⟨#[115,117,109]⟩ : ByteArray)))) (ej rfl rfl) (w0 rfl) (c_done (n_then ?_))))))
  by_cases h3 : s = (⟨#[115,117,109]⟩ : ByteArray)
  · refine c_cond1 (vb (ej rfl rfl) (decide_eq_true h3)) (c_skip (n_then (c_cond1 (vb (ej rfl rfl) (decide_eq_true h3)) (c_seq (c_reg (s_assign (v := .bool false) ev_c (w0 rfl) (c_done (n_then (c_ret (r_block (r_then ?_)))))))))))
    refine ret1 (v := .bool false) rfl rfl rfl ?_
    refine ⟨_,rfl,?_,(Ext.refl w)⟩
    (simp [nameB,kwB, *])
  refine c_cond0 (vb (ej rfl rfl) (decide_eq_false h3)) (c_seq (c_reg (s_cmpS (r := decide (s = (⟨#[109,105,110]⟩ : ByteArray))) (ej rfl rfl) ev_c rfl (w0 rfl) (s_assign (v := .bool (decide (s = (⟨#[109,105,110]⟩ : ByteArray)))) (ej rfl rfl) (w0 rfl) (c_done (n_then ?_))))))
  by_cases h4 : s = (⟨#[109,105,110]⟩ : ByteArray)
  · refine c_cond1 (vb (ej rfl rfl) (decide_eq_true h4)) (c_skip (n_then (c_cond1 (vb (ej rfl rfl) (decide_eq_true h4)) (c_seq (c_reg (s_assign (v := .bool false) ev_c (w0 rfl) (c_done (n_then (c_ret (r_block (r_then ?_)))))))))))
    refine ret1 (v := .bool false) rfl rfl rfl ?_
    refine ⟨_,rfl,?_,(Ext.refl w)⟩
    (simp [nameB,kwB, *])
  refine c_cond0 (vb (ej rfl rfl) (decide_eq_false h4)) (c_seq (c_reg (s_cmpS (r := decide (s = (⟨#[109,97,120]⟩ : ByteArray))) (ej rfl rfl) ev_c rfl (w0 rfl) (s_assign (v := .bool (decide (s = (⟨#[109,97,120]⟩ : ByteArray)))) (ej rfl rfl) (w0 rfl) (c_done (n_then ?_))))))
  by_cases h5 : s = (⟨#[109,97,120]⟩ : ByteArray)
  · refine c_cond1 (vb (ej rfl rfl) (decide_eq_true h5)) (c_skip (n_then (c_cond1 (vb (ej rfl rfl) (decide_eq_true h5)) (c_seq (c_reg (s_assign (v := .bool false) ev_c (w0 rfl) (c_done (n_then (c_ret (r_block (r_then ?_)))))))))))
    refine ret1 (v := .bool false) rfl rfl rfl ?_
    refine ⟨_,rfl,?_,(Ext.refl w)⟩
    (simp [nameB,kwB, *])
  refine c_cond0 (vb (ej rfl rfl) (decide_eq_false h5)) (c_seq (c_reg (s_cmpS (r := decide (s = (⟨#[108,101,110]⟩ : ByteArray))) (ej rfl rfl) ev_c rfl (w0 rfl) (s_assign (v := .bool (decide (s = (⟨#[108,101,110]⟩ : ByteArray)))) (ej rfl rfl) (w0 rfl) (c_done (n_then ?_))))))
  by_cases h6 : s = (⟨#[108,101,110]⟩ : ByteArray)
  · refine c_cond1 (vb (ej rfl rfl) (decide_eq_true h6)) (c_skip (n_then (c_cond1 (vb (ej rfl rfl) (decide_eq_true h6)) (c_seq (c_reg (s_assign (v := .bool false) ev_c (w0 rfl) (c_done (n_then (c_ret (r_block (r_then ?_)))))))))))
    refine ret1 (v := .bool false) rfl rfl rfl ?_
    refine ⟨_,rfl,?_,(Ext.refl w)⟩
    (simp [nameB,kwB, *])
  refine c_cond0 (vb (ej rfl rfl) (decide_eq_false h6)) (c_seq (c_reg (s_cmpS (r := decide (s = (⟨#[99,104,97,114,115]⟩ : ByteArray))) (ej rfl rfl) ev_c rfl (w0 rfl) (s_assign (v := .bool (decide (s = (⟨#[99,104,97,114,115]⟩ : ByteArray)))) (ej rfl rfl) (w0 rfl) (c_done (n_then ?_))))))
  by_cases h7 : s = (⟨#[99,104,97,114,115]⟩ : ByteArray)
  · refine c_cond1 (vb (ej rfl rfl) (decide_eq_true h7)) (c_skip (n_then (c_cond1 (vb (ej rfl rfl) (decide_eq_true h7)) (c_seq (c_reg (s_assign (v := .bool false) ev_c (w0 rfl) (c_done (n_then (c_ret (r_block (r_then ?_)))))))))))
    refine ret1 (v := .bool false) rfl rfl rfl ?_
    refine ⟨_,rfl,?_,(Ext.refl w)⟩
    (simp [nameB,kwB, *])
  refine c_cond0 (vb (ej rfl rfl) (decide_eq_false h7)) (c_reg (s_cmpS (r := decide (s = (⟨#[98,97,99,107]⟩ : ByteArray))) (ej rfl rfl) ev_c rfl (w0 rfl) (s_assign (v := .bool (decide (s = (⟨#[98,97,99,107]⟩ : ByteArray)))) (ej rfl rfl) (w0 rfl) (c_done (n_then ?_)))))
  by_cases h8 : s = (⟨#[98,97,99,107]⟩ : ByteArray)
  · refine c_cond1 (vb (ej rfl rfl) (decide_eq_true h8)) (c_seq (c_reg (s_assign (v := .bool false) ev_c (w0 rfl) (c_done (n_then (c_ret (r_block (r_then (ret1 (v := .bool false) rfl rfl rfl ?_)))))))))
    refine ⟨_,rfl,?_,(Ext.refl w)⟩
    (simp [nameB,kwB, *])
  refine c_cond0 (vb (ej rfl rfl) (decide_eq_false h8)) (c_skip (n_block (n_then (c_seq (c_reg (s_move (v := .string s) (ej rfl rfl) (w0 rfl) (s_call F_e103 (w0 rfl) ev_f (m3 (ej rfl rfl) ev_c ev_c) (args := #[.string s,.int .u8 97,.int .u8 122]) rfl (t_word s 97 122 _ (by omega)) ?_)))))))
  rintro _ w10 ⟨rfl,x9⟩
  refine s_assign (v := .bool (wordB s 97 122)) (ej rfl rfl) (w0 rfl) (c_done (n_then (c_ret (ret1 (v := .bool (wordB s 97 122)) rfl rfl rfl ?_))))
  refine ⟨_,rfl,?_,x9⟩
  (simp [nameB,kwB, *])
theorem t_CheckTerm (x : Tm) (w : World) (hx : x.wf) :
    Rt Tryz.prog 68 #[.agg #[.string x.v,.int .i8 x.l.k,.int .i64 x.l.n,.string x.l.s]] w fun v w' => v = .int .i64 (code (tmB x)) ∧ Ext w w' := by
  refine enter Tryz.func68 rfl (l := [.agg #[.string x.v,.int .i8 x.l.k,.int .i64 x.l.n,.string x.l.s]]) rfl Tryz.ntmps68 (Nat.le_of_ble_eq_true rfl) ?_
  refine c_seq (c_reg (s_box (v := .agg #[.string x.v,.int .i8 x.l.k,.int .i64 x.l.n,.string x.l.s]) (cs := #[.string x.v,.int .i8 x.l.k,.int .i64 x.l.n,.string x.l.s]) (w0 rfl) (ej rfl rfl) rfl ?_))
  intro w2 g1 n3
  refine s_assign (v := .int .i64 0) ev_c (w0 rfl) (c_done (n_then (c_seq (c_seq (c_reg (s_field (off := 0) (o' := 0) F_f33_0 (ej rfl rfl) rfl (w0 rfl) (s_load (v := .string x.v) F_o9 (ej rfl rfl) (cell_of_blk (i := 0) (NewB.blk n3) rfl) (w0 rfl) (s_cmpS (r := decide (x.v = (⟨#[]⟩ : ByteArray))) (ej rfl rfl) ev_c rfl (w0 rfl) (c_done (n_then ?_))))))))))
  by_cases h4 : x.v = (⟨#[]⟩ : ByteArray)
  · refine c_cond1 (vb (ej rfl rfl) (decide_eq_true h4)) (c_seq (c_reg (s_field (off := 1) (o' := 1) F_f33_1 (ej rfl rfl) rfl (w0 rfl) (s_loadL (cs := [.int .i8 x.l.k,.int .i64 x.l.n,.string x.l.s]) F_m31 (ej rfl rfl) rfl rfl (blk_cells (NewB.blk n3) 1 rfl) (w0 rfl) (s_call F_e105 (w0 rfl) ev_f (m1 (ej rfl rfl)) (args := #[.agg #[.int .i8 x.l.k,.int .i64 x.l.n,.string x.l.s]]) rfl (v_Check x.l _) ?_)))))
    rintro _ w6 ⟨rfl,x5⟩
    refine s_cmp (r := okV x.l) (ej rfl rfl) ev_c (ci_t (b := (okV x.l)) (by decide)) (w0 rfl) (s_call F_e64 (w0 rfl) ev_f (m1 (ej rfl rfl)) (args := #[.bool (okV x.l)]) rfl (t_code (okV x.l) _) ?_)
    rintro _ w8 ⟨rfl,x7⟩
    refine s_assign (v := .int .i64 (code (okV x.l))) (ej rfl rfl) (w0 rfl) (c_done (n_then (c_ret (r_then (ret1 (v := .int .i64 (code (okV x.l))) rfl rfl rfl ?_)))))
    refine ⟨_,rfl,?_,(Ext.trans (Ext.trans (NewB.ext n3) x5) x7)⟩
    (refine congrArg (Value.int .i64) (congrArg code ?_); first | (simp [tmB, *]; done) | (simp [tmB,varB, *]; done) | (simp [tmB,varB, *]; (repeat' split) <;> simp_all [varB]; done))
  refine c_cond0 (vb (ej rfl rfl) (decide_eq_false h4)) (c_skip (n_then (c_seq (c_reg (s_field (off := 1) (o' := 1) F_f33_1 (ej rfl rfl) rfl (w0 rfl) (s_loadL (cs := [.int .i8 x.l.k,.int .i64 x.l.n,.string x.l.s]) F_m31 (ej rfl rfl) rfl rfl (blk_cells (NewB.blk n3) 1 rfl) (w0 rfl) (s_build (v := .agg #[.int .i8 0,.int .i64 0,.string (⟨#[]⟩ : ByteArray)]) (vs := []) b0 (bd31) (w0 rfl) (s_cmpG (r := zV x.l) (ej rfl rfl) (ej rfl rfl) ((fun w_ => eqzV31eql x.l _ _ w_)) (w0 rfl) ?_))))))))
  rcases Bool.eq_false_or_eq_true (zV x.l) with h9 | h9
  · refine s_move (v := .bool true) (vb (ej rfl rfl) h9) (w0 rfl) (s_field (off := 0) (o' := 0) F_f33_0 (ej rfl rfl) rfl (wy rfl rfl rfl rfl) (s_load (v := .string x.v) F_o9 (ej rfl rfl) (cell_of_blk (i := 0) (NewB.blk n3) rfl) (wy rfl rfl rfl rfl) (s_cmpS (r := decide (x.v = (⟨#[95]⟩ : ByteArray))) (ej rfl rfl) ev_c rfl (wy rfl rfl rfl rfl) ?_)))
    by_cases h10 : x.v = (⟨#[95]⟩ : ByteArray)
    · refine s_move (v := .bool true) (vb (ej rfl rfl) (decide_eq_true h10)) (wy rfl rfl rfl rfl) (s_skip (wn rfl rfl rfl rfl rfl) (s_skip (wn rfl rfl rfl rfl rfl) (s_skip (wn rfl rfl rfl rfl rfl) (s_pick1 (v := .bool true) (ej rfl rfl) ev_c (wy rfl rfl rfl rfl) (s_pick1 (v := .bool true) (ej rfl rfl) (ej rfl rfl) (w0 rfl) (s_call F_e64 (w0 rfl) ev_f (m1 (ej rfl rfl)) (args := #[.bool true]) rfl (t_code true _) ?_))))))
      rintro _ w12 ⟨rfl,x11⟩
      refine s_assign (v := .int .i64 (code true)) (ej rfl rfl) (w0 rfl) (c_done (n_then (c_ret (ret1 (v := .int .i64 (code true)) rfl rfl rfl ?_))))
      refine ⟨_,rfl,?_,(Ext.trans (NewB.ext n3) x11)⟩
      (refine congrArg (Value.int .i64) (congrArg code ?_); first | (simp [tmB, *]; done) | (simp [tmB,varB, *]; done) | (simp [tmB,varB, *]; (repeat' split) <;> simp_all [varB]; done))
    refine s_move (v := .bool false) (vb (ej rfl rfl) (decide_eq_false h10)) (wy rfl rfl rfl rfl) (s_field (off := 0) (o' := 0) F_f33_0 (ej rfl rfl) rfl (wy rfl rfl rfl rfl) (s_load (v := .string x.v) F_o9 (ej rfl rfl) (cell_of_blk (i := 0) (NewB.blk n3) rfl) (wy rfl rfl rfl rfl) (s_call F_e103 (wy rfl rfl rfl rfl) ev_f (m3 (ej rfl rfl) ev_c ev_c) (args := #[.string x.v,.int .u8 65,.int .u8 90]) rfl (t_word x.v 65 90 _ (Tm.wf.v hx)) ?_)))
    rintro _ w14 ⟨rfl,x13⟩
    refine s_pick0 (v := .bool (wordB x.v 65 90)) (ej rfl rfl) (ej rfl rfl) (wy rfl rfl rfl rfl) (s_pick1 (v := .bool (wordB x.v 65 90)) (ej rfl rfl) (ej rfl rfl) (w0 rfl) (s_call F_e64 (w0 rfl) ev_f (m1 (ej rfl rfl)) (args := #[.bool (wordB x.v 65 90)]) rfl (t_code (wordB x.v 65 90) _) ?_))
    rintro _ w16 ⟨rfl,x15⟩
    refine s_assign (v := .int .i64 (code (wordB x.v 65 90))) (ej rfl rfl) (w0 rfl) (c_done (n_then (c_ret (ret1 (v := .int .i64 (code (wordB x.v 65 90))) rfl rfl rfl ?_))))
    refine ⟨_,rfl,?_,(Ext.trans (Ext.trans (NewB.ext n3) x13) x15)⟩
    (refine congrArg (Value.int .i64) (congrArg code ?_); first | (simp [tmB, *]; done) | (simp [tmB,varB, *]; done) | (simp [tmB,varB, *]; (repeat' split) <;> simp_all [varB]; done))
  refine s_move (v := .bool false) (vb (ej rfl rfl) h9) (w0 rfl) (s_skip (wn rfl rfl rfl rfl rfl) (s_skip (wn rfl rfl rfl rfl rfl) (s_skip (wn rfl rfl rfl rfl rfl) (s_skip (wn rfl rfl rfl rfl rfl) (s_skip (wu rfl rfl rfl rfl) (s_skip (wu rfl rfl rfl rfl) (s_skip (wu rfl rfl rfl rfl) (s_skip (wn rfl rfl rfl rfl rfl) (s_pick0 (v := .bool false) (ej rfl rfl) ev_c (w0 rfl) (s_call F_e64 (w0 rfl) ev_f (m1 (ej rfl rfl)) (args := #[.bool false]) rfl (t_code false _) ?_))))))))))
  rintro _ w18 ⟨rfl,x17⟩
  refine s_assign (v := .int .i64 (code false)) (ej rfl rfl) (w0 rfl) (c_done (n_then (c_ret (ret1 (v := .int .i64 (code false)) rfl rfl rfl ?_))))
  refine ⟨_,rfl,?_,(Ext.trans (NewB.ext n3) x17)⟩
  (refine congrArg (Value.int .i64) (congrArg code ?_); first | (simp [tmB, *]; done) | (simp [tmB,varB, *]; done) | (simp [tmB,varB, *]; (repeat' split) <;> simp_all [varB]; done))
theorem t_solid (x : Tm) (w : World) (hx : x.wf) :
    Rt Tryz.prog 119 #[.agg #[.string x.v,.int .i8 x.l.k,.int .i64 x.l.n,.string x.l.s]] w fun v w' => v = .bool (!decide (x.v = ⟨#[95]⟩) && tmB x) ∧ Ext w w' := by
  refine enter Tryz.func119 rfl (l := [.agg #[.string x.v,.int .i8 x.l.k,.int .i64 x.l.n,.string x.l.s]]) rfl Tryz.ntmps119 (Nat.le_of_ble_eq_true rfl) ?_
  refine c_seq (c_reg (s_box (v := .agg #[.string x.v,.int .i8 x.l.k,.int .i64 x.l.n,.string x.l.s]) (cs := #[.string x.v,.int .i8 x.l.k,.int .i64 x.l.n,.string x.l.s]) (w0 rfl) (ej rfl rfl) rfl ?_))
  intro w2 g1 n3
  refine s_assign (v := .bool false) ev_c (w0 rfl) (c_done (n_then (c_seq (c_reg (s_field (off := 0) (o' := 0) F_f33_0 (ej rfl rfl) rfl (w0 rfl) (s_load (v := .string x.v) F_o9 (ej rfl rfl) (cell_of_blk (i := 0) (NewB.blk n3) rfl) (w0 rfl) (s_cmpS (r := !decide (x.v = (⟨#[95]⟩ : ByteArray))) (ej rfl rfl) ev_c rfl (w0 rfl) ?_)))))))
  by_cases h4 : x.v = (⟨#[95]⟩ : ByteArray)
  · refine s_move (v := .bool false) (vb (ej rfl rfl) (nb0 h4)) (w0 rfl) (s_skip (wn rfl rfl rfl rfl rfl) (s_skip (wn rfl rfl rfl rfl rfl) (s_skip (wn rfl rfl rfl rfl rfl) (s_pick0 (v := .bool false) (ej rfl rfl) ev_c (w0 rfl) (s_assign (v := .bool false) (ej rfl rfl) (w0 rfl) (c_done (n_then (c_ret (ret1 (v := .bool false) rfl rfl rfl ?_)))))))))
    refine ⟨_,rfl,?_,(NewB.ext n3)⟩
    (simp [*])
  refine s_move (v := .bool true) (vb (ej rfl rfl) (nb1 h4)) (w0 rfl) (s_loadL (cs := [.string x.v,.int .i8 x.l.k,.int .i64 x.l.n,.string x.l.s]) F_m33 (ej rfl rfl) rfl rfl (blk_cells (NewB.blk n3) 0 rfl) (wy rfl rfl rfl rfl) (s_call F_e68 (wy rfl rfl rfl rfl) ev_f (m1 (ej rfl rfl)) (args := #[.agg #[.string x.v,.int .i8 x.l.k,.int .i64 x.l.n,.string x.l.s]]) rfl (t_CheckTerm x _ hx) ?_))
  rintro _ w6 ⟨rfl,x5⟩
  refine s_cmp (r := tmB x) (ej rfl rfl) ev_c (ci_t (b := (tmB x)) (by decide)) (wy rfl rfl rfl rfl) (s_pick1 (v := .bool (tmB x)) (ej rfl rfl) (ej rfl rfl) (w0 rfl) (s_assign (v := .bool (tmB x)) (ej rfl rfl) (w0 rfl) (c_done (n_then (c_ret (ret1 (v := .bool (tmB x)) rfl rfl rfl ?_))))))
  refine ⟨_,rfl,?_,(Ext.trans (NewB.ext n3) x5)⟩
  (simp [*])
end Go.Proofs.Zw

set_option linter.unusedVariables false
set_option linter.unusedSimpArgs false
set_option maxRecDepth 10000
namespace Go.Proofs.Zw
open Go Go.Wk Go.Proofs Go.Lib
attribute [local irreducible] Go.wpList Go.wpStill Go.wpQuiet Go.Code.wp Go.Calls
theorem F_e113 : enterable Tryz.prog 113 = true := by kernel_rfl
theorem F_e114 : enterable Tryz.prog 114 = true := by kernel_rfl
theorem F_e119 : enterable Tryz.prog 119 = true := by kernel_rfl
theorem F_e133 : enterable Tryz.prog 133 = true := by kernel_rfl
theorem F_e134 : enterable Tryz.prog 134 = true := by kernel_rfl
theorem F_e135 : enterable Tryz.prog 135 = true := by kernel_rfl
theorem F_e146 : enterable Tryz.prog 146 = true := by kernel_rfl
theorem F_o3 : one Tryz.prog 3 = true := by kernel_rfl
theorem s_IndexFuncE (x : Ex) (A : Option Addr) (c : Nat) (g : Nat) (w : World) (p : Ex → Bool) (hl : x.kids.length ≤ 140737488351232) (hr : Row RE 6 w A x.kids) (hp : ∀ (j : Nat) (y : Ex) (A : Option Addr) (c : Nat) (w' : World),x.kids[j]? = some y → Ext w w' → y.okc c → Row RE 6 w' A y.kids → Rt Tryz.prog 135 #[.agg #[.int .i8 y.op,.string y.t.v,.int .i8 y.t.l.k,.int .i64 y.t.l.n,.string y.t.l.s,.slice A y.kids.length c],.pointer (some ⟨g,0,none⟩)] w' fun v w2 => v = .bool (p y) ∧ Ext w' w2) :
    Rt Tryz.prog 146 #[.slice A x.kids.length c,.func (.func 135) #[] #[.pointer (some ⟨g,0,none⟩)]] w fun v w' => v = .int .i64 (posB p x.kids) ∧ Ext w w' := by
  refine enter Tryz.func146 rfl (l := [.slice A x.kids.length c,.func (.func 135) #[] #[.pointer (some ⟨g,0,none⟩)]]) rfl Tryz.ntmps146 (Nat.le_of_ble_eq_true rfl) ?_
  refine c_seq (c_reg (s_assign (v := .int .i64 0) ev_c (w0 rfl) (c_done (n_then (c_seq (c_seq (c_reg (s_move (v := .slice A x.kids.length c) (ej rfl rfl) (w0 rfl) (s_lenL F_l34 (ej rfl rfl) (w0 rfl) (s_move (v := .int .i64 0) ev_c (w0 rfl) (c_done ?_)))))))))))
  refine n_then (c_block ?_)
  refine c_loop (α := Nat) (fun (i : Nat) env_ w_ => Ext w w_ ∧ (∀ j y,j < i → x.kids[j]? = some y → p y = false) ∧ env_ 0 = .slice A x.kids.length c ∧ env_ 1 = .func (.func 135) #[] #[.pointer (some ⟨g,0,none⟩)] ∧ env_ 7 = .int .i64 (x.kids.length : Int) ∧ env_ 8 = .int .i64 ((i : Nat) : Int)) (fun i => x.kids.length - i) (0) ⟨Ext.refl _,(fun j y h => absurd h (Nat.not_lt_zero j)),rfl,rfl,rfl,rfl⟩ ?_
  rintro i env3 w1 ⟨x2,i4,e5,e6,e7,e8⟩
  refine c_seq (c_reg (s_cmp (r := decide (((i : Nat) : Int) < (x.kids.length : Int))) (ej rfl e8) (ej rfl e7) rfl (w0 rfl) (c_done (n_then (c_seq ?_)))))
  by_cases h9 : ((i : Nat) : Int) < (x.kids.length : Int)
  · refine c_cond1 (vb (ej rfl rfl) (decide_eq_true h9)) (c_skip (n_then (c_seq (c_block (c_seq (c_reg (s_move (v := .int .i64 ((i : Nat) : Int)) (ej rfl e8) (w0 rfl) (s_assign (v := .int .i64 ((i : Nat) : Int)) (ej rfl rfl) (w0 rfl) (c_done (n_then (c_seq ?_)))))))))))
    refine c_reg (s_move (v := .func (.func 135) #[] #[.pointer (some ⟨g,0,none⟩)]) (ej rfl e6) (w0 rfl) (s_move (v := .slice A x.kids.length c) (ej rfl e5) (w0 rfl) (s_move (v := .int .i64 ((i : Nat) : Int)) (ej rfl rfl) (w0 rfl) ?_)))
    obtain ⟨b10,o11,x12,csx12,hA13,hx14,hR15,hc16⟩ := Row.at_ hr i (by omega)
    obtain rfl := Ex.kid_of hx14
    obtain ⟨A17,c18,rfl,ho19,hr20⟩ := RE.open_ hR15
    refine s_indexR (j := i) F_l34 (ej rfl rfl) hA13 (ej rfl rfl) rfl (by omega) (w0 rfl) (s_loadL (cs := [.int .i8 ((x.kid i).op),.string ((x.kid i).t.v),.int .i8 ((x.kid i).t.l.k),.int .i64 ((x.kid i).t.l.n),.string ((x.kid i).t.l.s),.slice A17 ((x.kid i).kids.length) c18]) F_m36 (ej rfl rfl) rfl rfl (sub_cells (cells_ext x2 hc16) 0 rfl) (w0 rfl) (s_call F_e135 (w0 rfl) (ej rfl rfl) (m1 (ej rfl rfl)) (args := #[.agg #[.int .i8 ((x.kid i).op),.string ((x.kid i).t.v),.int .i8 ((x.kid i).t.l.k),.int .i64 ((x.kid i).t.l.n),.string ((x.kid i).t.l.s),.slice A17 ((x.kid i).kids.length) c18],.pointer (some ⟨g,0,none⟩)]) rfl (hp i (x.kid i) A17 c18 _ (kid_there (x := x) (j := i) (by omega)) x2 ho19 (Row.extE hr20 x2)) ?_))
    rintro _ w22 ⟨rfl,x21⟩
    refine c_done (n_then ?_)
    rcases Bool.eq_false_or_eq_true (p (x.kid i)) with h23 | h23
    · refine c_cond1 (vb (ej rfl rfl) h23) (c_seq (c_reg (s_move (v := .int .i64 ((i : Nat) : Int)) (ej rfl rfl) (w0 rfl) (s_assign (v := .int .i64 ((i : Nat) : Int)) (ej rfl rfl) (w0 rfl) (c_done (n_then (c_ret (r_block (r_then (r_then (r_block ?_)))))))))))
      refine r_then (ret1 (v := .int .i64 ((i : Nat) : Int)) rfl rfl rfl ?_)
      refine ⟨_,rfl,?_,(Ext.trans x2 x21)⟩
      (refine congrArg (Value.int .i64) (Eq.symm (posB_at i4 (kid_there (x := x) (j := i) (by omega)) (by assumption))))
    refine c_cond0 (vb (ej rfl rfl) h23) (c_skip (n_block (n_then (c_reg (s_add (r := ((i + 1 : Nat) : Int)) (ej rfl e8) ev_c (by omega) (by omega) (w0 rfl) (s_move (v := .int .i64 ((i + 1 : Nat) : Int)) (ej rfl rfl) (w0 rfl) (c_done ?_)))))))
    exact ⟨(i + 1),_,rfl,⟨(Ext.trans x2 x21),(kids_stepF i4 (kid_there (by omega)) (by assumption)),e5,e6,e7,rfl⟩,(show x.kids.length - (i + 1) < x.kids.length - i by omega)⟩
  refine c_cond0 (vb (ej rfl rfl) (decide_eq_false h9)) (c_exit (e_then (e_then (e_hit (n_then (c_seq (c_reg (s_assign (v := .int .i64 (-1)) ev_c (w0 rfl) (c_done (n_then (c_ret ?_)))))))))))
  refine ret1 (v := .int .i64 (-1)) rfl rfl rfl ?_
  refine ⟨_,rfl,?_,x2⟩
  (refine congrArg (Value.int .i64) (Eq.symm (posB_none (by assumption) i4)))
theorem s_ContainsFuncE (x : Ex) (A : Option Addr) (c : Nat) (g : Nat) (w : World) (p : Ex → Bool) (hl : x.kids.length ≤ 140737488351232) (hr : Row RE 6 w A x.kids) (hp : ∀ (j : Nat) (y : Ex) (A : Option Addr) (c : Nat) (w' : World),x.kids[j]? = some y → Ext w w' → y.okc c → Row RE 6 w' A y.kids → Rt Tryz.prog 135 #[.agg #[.int .i8 y.op,.string y.t.v,.int .i8 y.t.l.k,.int .i64 y.t.l.n,.string y.t.l.s,.slice A y.kids.length c],.pointer (some ⟨g,0,none⟩)] w' fun v w2 => v = .bool (p y) ∧ Ext w' w2) :
    Rt Tryz.prog 134 #[.slice A x.kids.length c,.func (.func 135) #[] #[.pointer (some ⟨g,0,none⟩)]] w fun v w' => v = .bool (decide (0 ≤ posB p x.kids)) ∧ Ext w w' := by
  refine enter Tryz.func134 rfl (l := [.slice A x.kids.length c,.func (.func 135) #[] #[.pointer (some ⟨g,0,none⟩)]]) rfl Tryz.ntmps134 (Nat.le_of_ble_eq_true rfl) ?_
  refine c_seq (c_reg (s_assign (v := .bool false) ev_c (w0 rfl) (c_done (n_then (c_seq (c_reg (s_move (v := .slice A x.kids.length c) (ej rfl rfl) (w0 rfl) (s_move (v := .func (.func 135) #[] #[.pointer (some ⟨g,0,none⟩)]) (ej rfl rfl) (w0 rfl) (s_call F_e146 (w0 rfl) ev_f (m2 (ej rfl rfl) (ej rfl rfl)) (args := #[.slice A x.kids.length c,.func (.func 135) #[] #[.pointer (some ⟨g,0,none⟩)]]) rfl (s_IndexFuncE x A c g _ p hl hr hp) ?_)))))))))
  rintro _ w2 ⟨rfl,x1⟩
  refine s_cmp (r := decide (0 ≤ posB p x.kids)) (ej rfl rfl) ev_c rfl (w0 rfl) (s_assign (v := .bool (decide (0 ≤ posB p x.kids))) (ej rfl rfl) (w0 rfl) (c_done (n_then (c_ret (ret1 (v := .bool (decide (0 ≤ posB p x.kids))) rfl rfl rfl ?_)))))
  refine ⟨_,rfl,?_,x1⟩
  rfl
theorem t_deep1 (d : Nat) (x : Ex) (A : Option Addr) (c : Nat) (g : Nat) (w : World) (ho : x.okc c) (hr : Row RE 6 w A x.kids) (hg : w.heap[g]? = some (.cells #[.int .i64 ((d : Nat) : Int)] 3 (0,0))) (hd : d ≤ 100) (hd0 : d ≠ 0) (ih : ∀ (x : Ex) (A : Option Addr) (c : Nat) (w : World),x.okc c → Row RE 6 w A x.kids → Rt Tryz.prog 114 #[.agg #[.int .i8 x.op,.string x.t.v,.int .i8 x.t.l.k,.int .i64 x.t.l.n,.string x.t.l.s,.slice A x.kids.length c],.int .i64 ((d - 1 : Nat) : Int)] w fun v w' => v = .bool (exB (d - 1) x) ∧ Ext w w') :
    Rt Tryz.prog 135 #[.agg #[.int .i8 x.op,.string x.t.v,.int .i8 x.t.l.k,.int .i64 x.t.l.n,.string x.t.l.s,.slice A x.kids.length c],.pointer (some ⟨g,0,none⟩)] w fun v w' => v = .bool (!exB (d - 1) x) ∧ Ext w w' := by
  refine enter Tryz.func135 rfl (l := [.agg #[.int .i8 x.op,.string x.t.v,.int .i8 x.t.l.k,.int .i64 x.t.l.n,.string x.t.l.s,.slice A x.kids.length c],.pointer (some ⟨g,0,none⟩)]) rfl Tryz.ntmps135 (Nat.le_of_ble_eq_true rfl) ?_
  have hl_ := Ex.okc.l ho
  have hc_ := Ex.okc.c ho
  refine c_seq (c_reg (s_box (v := .agg #[.int .i8 x.op,.string x.t.v,.int .i8 x.t.l.k,.int .i64 x.t.l.n,.string x.t.l.s,.slice A x.kids.length c]) (cs := #[.int .i8 x.op,.string x.t.v,.int .i8 x.t.l.k,.int .i64 x.t.l.n,.string x.t.l.s,.slice A x.kids.length c]) (w0 rfl) (ej rfl rfl) rfl ?_))
  intro w2 g1 n3
  refine s_assign (v := .bool false) ev_c (w0 rfl) (c_done (n_then (c_seq (c_reg (s_loadL (cs := [.int .i8 x.op,.string x.t.v,.int .i8 x.t.l.k,.int .i64 x.t.l.n,.string x.t.l.s,.slice A x.kids.length c]) F_m36 (ej rfl rfl) rfl rfl (blk_cells (NewB.blk n3) 0 rfl) (w0 rfl) (s_load (v := .int .i64 ((d : Nat) : Int)) F_o3 (ej rfl rfl) (cell_of_blk (i := 0) (Ext.blk (NewB.ext n3) hg) rfl) (w0 rfl) (s_sub (r := ((d - 1 : Nat) : Int)) (ej rfl rfl) ev_c (by omega) (by omega) (w0 rfl) (s_call F_e114 (w0 rfl) ev_f (m2 (ej rfl rfl) (ej rfl rfl)) (args := #[.agg #[.int .i8 x.op,.string x.t.v,.int .i8 x.t.l.k,.int .i64 x.t.l.n,.string x.t.l.s,.slice A x.kids.length c],.int .i64 ((d - 1 : Nat) : Int)]) rfl (ih x A c _ ho (Row.extE hr (NewB.ext n3))) ?_))))))))
  rintro _ w5 ⟨rfl,x4⟩
  refine s_not (b := exB (d - 1) x) (ej rfl rfl) (w0 rfl) (s_assign (v := .bool (!(exB (d - 1) x))) (ej rfl rfl) (w0 rfl) (c_done (n_then (c_ret (ret1 (v := .bool (!(exB (d - 1) x))) rfl rfl rfl ?_)))))
  refine ⟨_,rfl,?_,(Ext.trans (NewB.ext n3) x4)⟩
  rfl
theorem t_deep_step (d : Nat) (x : Ex) (A : Option Addr) (c : Nat) (w : World) (ho : x.okc c) (hr : Row RE 6 w A x.kids) (hd : d ≤ 100) (ih : d ≠ 0 → ∀ (x : Ex) (A : Option Addr) (c : Nat) (w : World),x.okc c → Row RE 6 w A x.kids → Rt Tryz.prog 114 #[.agg #[.int .i8 x.op,.string x.t.v,.int .i8 x.t.l.k,.int .i64 x.t.l.n,.string x.t.l.s,.slice A x.kids.length c],.int .i64 ((d - 1 : Nat) : Int)] w fun v w' => v = .bool (exB (d - 1) x) ∧ Ext w w') :
    Rt Tryz.prog 114 #[.agg #[.int .i8 x.op,.string x.t.v,.int .i8 x.t.l.k,.int .i64 x.t.l.n,.string x.t.l.s,.slice A x.kids.length c],.int .i64 ((d : Nat) : Int)] w fun v w' => v = .bool (exB d x) ∧ Ext w w' := by
  refine enter Tryz.func114 rfl (l := [.agg #[.int .i8 x.op,.string x.t.v,.int .i8 x.t.l.k,.int .i64 x.t.l.n,.string x.t.l.s,.slice A x.kids.length c],.int .i64 ((d : Nat) : Int)]) rfl Tryz.ntmps114 (Nat.le_of_ble_eq_true rfl) ?_
  have hl_ := Ex.okc.l ho
  have hc_ := Ex.okc.c ho
  refine c_seq (c_reg (s_box (v := .agg #[.int .i8 x.op,.string x.t.v,.int .i8 x.t.l.k,.int .i64 x.t.l.n,.string x.t.l.s,.slice A x.kids.length c]) (cs := #[.int .i8 x.op,.string x.t.v,.int .i8 x.t.l.k,.int .i64 x.t.l.n,.string x.t.l.s,.slice A x.kids.length c]) (w0 rfl) (ej rfl rfl) rfl ?_))
  intro w2 g1 n3
  refine s_box (v := .int .i64 ((d : Nat) : Int)) (cs := #[.int .i64 ((d : Nat) : Int)]) (w0 rfl) (ej rfl rfl) rfl ?_
  intro w5 g4 n6
  refine s_assign (v := .bool false) ev_c (w0 rfl) (c_done (n_then (c_seq (c_seq (c_reg (s_load (v := .int .i64 ((d : Nat) : Int)) F_o3 (ej rfl rfl) (cell_of_blk (i := 0) (NewB.blk n6) rfl) (w0 rfl) (s_cmp (r := decide (((d : Nat) : Int) = 0)) (ej rfl rfl) ev_c rfl (w0 rfl) (c_done (n_then ?_)))))))))
  by_cases h7 : ((d : Nat) : Int) = 0
  · refine c_cond1 (vb (ej rfl rfl) (decide_eq_true h7)) (c_seq (c_reg (s_assign (v := .bool false) ev_c (w0 rfl) (c_done (n_then (c_ret (r_then (ret1 (v := .bool false) rfl rfl rfl ?_))))))))
    refine ⟨_,rfl,?_,(Ext.trans (NewB.ext n3) (NewB.ext n6))⟩
    (first | (have z_ : d = 0 := by omega); subst z_; rfl | (refine congrArg Value.bool ?_; rw [exB_pos (by omega)]; simp only [*,decide_true,decide_false,if_true,if_false,Bool.and_true,Bool.true_and,Bool.false_and,Bool.and_false,Bool.not_true,Bool.not_false,Bool.false_eq_true,reduceIte,not_true_eq_false,not_false_eq_true]))
  refine c_cond0 (vb (ej rfl rfl) (decide_eq_false h7)) (c_skip (n_then (c_seq (c_seq (c_reg (s_field (off := 0) (o' := 0) F_f36_0 (ej rfl rfl) rfl (w0 rfl) (s_load (v := .int .i8 x.op) F_o28 (ej rfl rfl) (cell_of_blk (i := 0) (Ext.blk (NewB.ext n6) (NewB.blk n3)) rfl) (w0 rfl) (s_cmp (r := decide (x.op = 0)) (ej rfl rfl) ev_c rfl (w0 rfl) (c_done (n_then ?_))))))))))
  by_cases h8 : x.op = 0
  · refine c_cond1 (vb (ej rfl rfl) (decide_eq_true h8)) (c_seq (c_reg (s_field (off := 5) (o' := 5) F_f36_2 (ej rfl rfl) rfl (w0 rfl) (s_load (v := .slice A x.kids.length c) F_o34 (ej rfl rfl) (cell_of_blk (i := 5) (Ext.blk (NewB.ext n6) (NewB.blk n3)) rfl) (w0 rfl) (s_lenL F_l34 (ej rfl rfl) (w0 rfl) (s_cmp (r := decide ((x.kids.length : Int) = 0)) (ej rfl rfl) ev_c rfl (w0 rfl) ?_))))))
    by_cases h9 : (x.kids.length : Int) = 0
    · refine s_move (v := .bool true) (vb (ej rfl rfl) (decide_eq_true h9)) (w0 rfl) (s_field (off := 1) (o' := 1) F_f36_1 (ej rfl rfl) rfl (wy rfl rfl rfl rfl) (s_loadL (cs := [.string x.t.v,.int .i8 x.t.l.k,.int .i64 x.t.l.n,.string x.t.l.s]) F_m33 (ej rfl rfl) rfl rfl (blk_cells (Ext.blk (NewB.ext n6) (NewB.blk n3)) 1 rfl) (wy rfl rfl rfl rfl) (s_call F_e119 (wy rfl rfl rfl rfl) ev_f (m1 (ej rfl rfl)) (args := #[.agg #[.string x.t.v,.int .i8 x.t.l.k,.int .i64 x.t.l.n,.string x.t.l.s]]) rfl (t_solid x.t _ (Ex.okc.t ho)) ?_)))
      rintro _ w11 ⟨rfl,x10⟩
      refine s_pick1 (v := .bool (!decide (x.t.v = ⟨#[95]⟩) && tmB x.t)) (ej rfl rfl) (ej rfl rfl) (w0 rfl) (s_assign (v := .bool (!decide (x.t.v = ⟨#[95]⟩) && tmB x.t)) (ej rfl rfl) (w0 rfl) (c_done (n_then (c_ret (r_then (ret1 (v := .bool (!decide (x.t.v = ⟨#[95]⟩) && tmB x.t)) rfl rfl rfl ?_))))))
      refine ⟨_,rfl,?_,(Ext.trans (Ext.trans (NewB.ext n3) (NewB.ext n6)) x10)⟩
      (first | (have z_ : d = 0 := by omega); subst z_; rfl | (refine congrArg Value.bool ?_; rw [exB_pos (by omega)]; simp only [*,decide_true,decide_false,if_true,if_false,Bool.and_true,Bool.true_and,Bool.false_and,Bool.and_false,Bool.not_true,Bool.not_false,Bool.false_eq_true,reduceIte,not_true_eq_false,not_false_eq_true]))
    refine s_move (v := .bool false) (vb (ej rfl rfl) (decide_eq_false h9)) (w0 rfl) (s_skip (wn rfl rfl rfl rfl rfl) (s_skip (wn rfl rfl rfl rfl rfl) (s_skip (wn rfl rfl rfl rfl rfl) (s_pick0 (v := .bool false) (ej rfl rfl) ev_c (w0 rfl) (s_assign (v := .bool false) (ej rfl rfl) (w0 rfl) (c_done (n_then (c_ret (r_then (ret1 (v := .bool false) rfl rfl rfl ?_))))))))))
    refine ⟨_,rfl,?_,(Ext.trans (NewB.ext n3) (NewB.ext n6))⟩
    (first | (have z_ : d = 0 := by omega); subst z_; rfl | (refine congrArg Value.bool ?_; rw [exB_pos (by omega)]; simp only [*,decide_true,decide_false,if_true,if_false,Bool.and_true,Bool.true_and,Bool.false_and,Bool.and_false,Bool.not_true,Bool.not_false,Bool.false_eq_true,reduceIte,not_true_eq_false,not_false_eq_true]))
  refine c_cond0 (vb (ej rfl rfl) (decide_eq_false h8)) (c_skip (n_then (c_seq (c_seq (c_quiet mixed (by kernel_rfl) (q_val (v := .pointer (some ⟨g1,1,none⟩)) (w0 rfl) (fun w_ c_ => r_field (off := 1) (o' := 1) F_f36_1 (ej rfl rfl) rfl) (q_val (v := .agg #[.string x.t.v,.int .i8 x.t.l.k,.int .i64 x.t.l.n,.string x.t.l.s]) (w0 rfl) (fun w_ c_ => r_loadL (cs := [.string x.t.v,.int .i8 x.t.l.k,.int .i64 x.t.l.n,.string x.t.l.s]) F_m33 (ej rfl rfl) rfl rfl (blk_cells (Ext.blk c_ (Ext.blk (NewB.ext n6) (NewB.blk n3))) 1 rfl)) (q_call (v := .bool (zT x.t)) F_e113 (w0 rfl) ev_f (m1 (ej rfl rfl)) (args := #[.agg #[.string x.t.v,.int .i8 x.t.l.k,.int .i64 x.t.l.n,.string x.t.l.s]]) rfl (fun w_ c_ => Rt.mono (t_none x.t _) (fun v_ w2_ h_ => ⟨h_.1,Ext.trans c_ h_.2⟩)) (q_val (v := .bool (!(zT x.t))) (w0 rfl) (fun w_ c_ => r_not (b := zT x.t) (ej rfl rfl)) ?_)))))))))
  rcases Bool.eq_false_or_eq_true (zT x.t) with h12 | h12
  · refine q_val (v := .bool false) (w0 rfl) (fun w_ c_ => r_move (v := .bool false) (vb (ej rfl rfl) (nbt h12))) (q_val (v := .pointer (some ⟨g1,5,none⟩)) (wy rfl rfl rfl rfl) (fun w_ c_ => r_field (off := 5) (o' := 5) F_f36_2 (ej rfl rfl) rfl) (q_val (v := .slice A x.kids.length c) (wy rfl rfl rfl rfl) (fun w_ c_ => r_load (v := .slice A x.kids.length c) F_o34 (ej rfl rfl) (cell_of_blk (i := 5) (Ext.blk c_ (Ext.blk (NewB.ext n6) (NewB.blk n3))) rfl)) (q_val (v := .int .i64 (x.kids.length : Int)) (wy rfl rfl rfl rfl) (fun w_ c_ => r_lenL F_l34 (ej rfl rfl)) (q_val (v := .pointer (some ⟨g1,0,none⟩)) (wy rfl rfl rfl rfl) (fun w_ c_ => r_field (off := 0) (o' := 0) F_f36_0 (ej rfl rfl) rfl) (q_val (v := .int .i8 x.op) (wy rfl rfl rfl rfl) (fun w_ c_ => r_load (v := .int .i8 x.op) F_o28 (ej rfl rfl) (cell_of_blk (i := 0) (Ext.blk c_ (Ext.blk (NewB.ext n6) (NewB.blk n3))) rfl)) (q_call (v := .int .i64 (kidsN x.op)) F_e133 (wy rfl rfl rfl rfl) ev_f (m1 (ej rfl rfl)) (args := #[.int .i8 x.op]) rfl (fun w_ c_ => Rt.mono (t_arity x.op _) (fun v_ w2_ h_ => ⟨h_.1,Ext.trans c_ h_.2⟩)) (q_val (v := .bool (!decide ((x.kids.length : Int) = kidsN x.op))) (wy rfl rfl rfl rfl) (fun w_ c_ => r_cmp (r := !decide ((x.kids.length : Int) = kidsN x.op)) (ej rfl rfl) (ej rfl rfl) rfl) (q_val (v := .bool (!decide ((x.kids.length : Int) = kidsN x.op))) (w0 rfl) (fun w_ c_ => r_pick0 (v := .bool (!decide ((x.kids.length : Int) = kidsN x.op))) (ej rfl rfl) (ej rfl rfl)) (q_done ?_)))))))))
    intro w13 x14
    refine n_then ?_
    by_cases h15 : (x.kids.length : Int) = kidsN x.op
    · refine c_cond0 (vb (ej rfl rfl) (nb0 h15)) (c_skip (n_then (c_seq (c_reg (s_field (off := 5) (o' := 5) F_f36_2 (ej rfl rfl) rfl (w0 rfl) (s_load (v := .slice A x.kids.length c) F_o34 (ej rfl rfl) (cell_of_blk (i := 5) (Ext.blk x14 (Ext.blk (NewB.ext n6) (NewB.blk n3))) rfl) (w0 rfl) (s_makeFunc (vf := #[]) (vc := #[.pointer (some ⟨g4,0,none⟩)]) m0 (m1 (ej rfl rfl)) (w0 rfl) (s_call F_e134 (w0 rfl) ev_f (m2 (ej rfl rfl) (ej rfl rfl)) (args := #[.slice A x.kids.length c,.func (.func 135) #[] #[.pointer (some ⟨g4,0,none⟩)]]) rfl (s_ContainsFuncE x A c g4 _ (fun y => !exB (d - 1) y) (by omega) (Row.extE (Row.extE (Row.extE hr (NewB.ext n3)) (NewB.ext n6)) x14) (fun j_ y_ A_ c_ w_ _ x_ ho_ hr_ => t_deep1 d y_ A_ c_ g4 w_ ho_ hr_ (Ext.blk x_ (Ext.blk x14 (NewB.blk n6))) hd (by omega) (ih (by omega)))) ?_))))))))
      rintro _ w17 ⟨rfl,x16⟩
      refine s_not (b := decide (0 ≤ posB (fun y => !exB (d - 1) y) x.kids)) (ej rfl rfl) (w0 rfl) (s_assign (v := .bool (!(decide (0 ≤ posB (fun y => !exB (d - 1) y) x.kids)))) (ej rfl rfl) (w0 rfl) (c_done (n_then (c_ret (ret1 (v := .bool (!(decide (0 ≤ posB (fun y => !exB (d - 1) y) x.kids)))) rfl rfl rfl ?_)))))
      refine ⟨_,rfl,?_,(Ext.trans (Ext.trans (Ext.trans (NewB.ext n3) (NewB.ext n6)) x14) x16)⟩
      (refine congrArg Value.bool ?_; rw [posB_all,exB_pos (by omega),if_neg (by assumption)]; simp only [*,decide_true,decide_false,if_true,if_false,Bool.and_true,Bool.true_and,Bool.false_and,Bool.and_false,Bool.not_true,Bool.not_false,Bool.false_eq_true,reduceIte,not_true_eq_false,not_false_eq_true])
    refine c_cond1 (vb (ej rfl rfl) (nb1 h15)) (c_seq (c_reg (s_assign (v := .bool false) ev_c (w0 rfl) (c_done (n_then (c_ret (r_then (ret1 (v := .bool false) rfl rfl rfl ?_))))))))
    refine ⟨_,rfl,?_,(Ext.trans (Ext.trans (NewB.ext n3) (NewB.ext n6)) x14)⟩
    (first | (have z_ : d = 0 := by omega); subst z_; rfl | (refine congrArg Value.bool ?_; rw [exB_pos (by omega)]; simp only [*,decide_true,decide_false,if_true,if_false,Bool.and_true,Bool.true_and,Bool.false_and,Bool.and_false,Bool.not_true,Bool.not_false,Bool.false_eq_true,reduceIte,not_true_eq_false,not_false_eq_true]))
  refine q_val (v := .bool true) (w0 rfl) (fun w_ c_ => r_move (v := .bool true) (vb (ej rfl rfl) (nbf h12))) (q_skip (wn rfl rfl rfl rfl rfl) (q_skip (wn rfl rfl rfl rfl rfl) (q_skip (wn rfl rfl rfl rfl rfl) (q_skip (wn rfl rfl rfl rfl rfl) (q_skip (wn rfl rfl rfl rfl rfl) (q_skip (wn rfl rfl rfl rfl rfl) (q_skip (wn rfl rfl rfl rfl rfl) (q_val (v := .bool true) (w0 rfl) (fun w_ c_ => r_pick1 (v := .bool true) (ej rfl rfl) ev_c) (q_done ?_)))))))))
  intro w18 x19
  refine n_then (c_cond1 (ej rfl rfl) (c_seq (c_reg (s_assign (v := .bool false) ev_c (w0 rfl) (c_done (n_then (c_ret (r_then (ret1 (v := .bool false) rfl rfl rfl ?_)))))))))
  refine ⟨_,rfl,?_,(Ext.trans (Ext.trans (NewB.ext n3) (NewB.ext n6)) x19)⟩
  (first | (have z_ : d = 0 := by omega); subst z_; rfl | (refine congrArg Value.bool ?_; rw [exB_pos (by omega)]; simp only [*,decide_true,decide_false,if_true,if_false,Bool.and_true,Bool.true_and,Bool.false_and,Bool.and_false,Bool.not_true,Bool.not_false,Bool.false_eq_true,reduceIte,not_true_eq_false,not_false_eq_true]))
theorem t_deep : ∀ (d : Nat) (x : Ex) (A : Option Addr) (c : Nat) (w : World),d ≤ 100 → x.okc c → Row RE 6 w A x.kids → Rt Tryz.prog 114 #[.agg #[.int .i8 x.op,.string x.t.v,.int .i8 x.t.l.k,.int .i64 x.t.l.n,.string x.t.l.s,.slice A x.kids.length c],.int .i64 ((d : Nat) : Int)] w fun v w' => v = .bool (exB d x) ∧ Ext w w' := by
  intro d
  induction d with
  | zero =>
    intro x A c w hd ho hr
    exact t_deep_step 0 x A c w ho hr hd (fun h => absurd rfl h)
  | succ d ih =>
    intro x A c w hd ho hr
    exact t_deep_step (d + 1) x A c w ho hr hd (fun _ x A c w ho hr => ih x A c w (by omega) ho hr)
theorem t_CheckExpr (x : Ex) (A : Option Addr) (c : Nat) (w : World) (ho : x.okc c) (hr : Row RE 6 w A x.kids) :
    Rt Tryz.prog 76 #[.agg #[.int .i8 x.op,.string x.t.v,.int .i8 x.t.l.k,.int .i64 x.t.l.n,.string x.t.l.s,.slice A x.kids.length c]] w fun v w' => v = .int .i64 (code (exB 8 x)) ∧ Ext w w' := by
  refine enter Tryz.func76 rfl (l := [.agg #[.int .i8 x.op,.string x.t.v,.int .i8 x.t.l.k,.int .i64 x.t.l.n,.string x.t.l.s,.slice A x.kids.length c]]) rfl Tryz.ntmps76 (Nat.le_of_ble_eq_true rfl) ?_
  have hl_ := Ex.okc.l ho
  have hc_ := Ex.okc.c ho
  refine c_seq (c_reg (s_box (v := .agg #[.int .i8 x.op,.string x.t.v,.int .i8 x.t.l.k,.int .i64 x.t.l.n,.string x.t.l.s,.slice A x.kids.length c]) (cs := #[.int .i8 x.op,.string x.t.v,.int .i8 x.t.l.k,.int .i64 x.t.l.n,.string x.t.l.s,.slice A x.kids.length c]) (w0 rfl) (ej rfl rfl) rfl ?_))
  intro w2 g1 n3
  refine s_assign (v := .int .i64 0) ev_c (w0 rfl) (c_done (n_then (c_seq (c_reg (s_loadL (cs := [.int .i8 x.op,.string x.t.v,.int .i8 x.t.l.k,.int .i64 x.t.l.n,.string x.t.l.s,.slice A x.kids.length c]) F_m36 (ej rfl rfl) rfl rfl (blk_cells (NewB.blk n3) 0 rfl) (w0 rfl) (s_call F_e114 (w0 rfl) ev_f (m2 (ej rfl rfl) ev_c) (args := #[.agg #[.int .i8 x.op,.string x.t.v,.int .i8 x.t.l.k,.int .i64 x.t.l.n,.string x.t.l.s,.slice A x.kids.length c],.int .i64 8]) rfl (t_deep 8 x A c _ (by decide) ho (Row.extE hr (NewB.ext n3))) ?_))))))
  rintro _ w5 ⟨rfl,x4⟩
  refine s_call F_e64 (w0 rfl) ev_f (m1 (ej rfl rfl)) (args := #[.bool (exB 8 x)]) rfl (t_code (exB 8 x) _) ?_
  rintro _ w7 ⟨rfl,x6⟩
  refine s_assign (v := .int .i64 (code (exB 8 x))) (ej rfl rfl) (w0 rfl) (c_done (n_then (c_ret (ret1 (v := .int .i64 (code (exB 8 x))) rfl rfl rfl ?_))))
  refine ⟨_,rfl,?_,(Ext.trans (Ext.trans (NewB.ext n3) x4) x6)⟩
  rfl
end Go.Proofs.Zw

set_option linter.unusedVariables false
set_option linter.unusedSimpArgs false
namespace Go.Wk
open Go Go.RowKit Go.Lib
/-! ### a strings.Builder at the head of a block of type T (e: the bytes' type) -/
def BW (e T B : Nat) (w : World) (g : Nat) (s : ByteArray) : Prop :=
  e ≠ T ∧ B ≤ g ∧ ∃ a A c,(a = .pointer none ∨ a = .pointer (some ⟨g,0,none⟩)) ∧ w.heap[g]? = some (.cells #[a,.slice A s.size c] T (0,0)) ∧ w.ownsRow B e 1 (.slice A s.size c) s.size (strCells s)
/-- Only block g and the unfrozen rows of bytes may turn. -/
def Bld (e g : Nat) (w w' : World) : Prop := Keep (fun k => k = g ∨ ∃ cs,w.heap[k]? = some (.cells cs e (0,0))) w w'
structure Wr (e T B g : Nat) (s : ByteArray) (w w' : World) : Prop where
  bw : BW e T B w' g s
  below : Below B w w'
  bld : Bld e g w w'
section
variable {e T B g : Nat} {w w' w2 w0 : World} {s : ByteArray}
theorem BW.lt (h : BW e T B w g s) : g < w.heap.size := by
  obtain ⟨_,_,_,_,_,_,h,_⟩ := h; exact lt_of_blk h
theorem BW.ext (h : BW e T B w g s) (k : Ext w w') : BW e T B w' g s := by
  obtain ⟨h1,h2,a,A,c,h3,h4,h5⟩ := h
  exact ⟨h1,h2,a,A,c,h3,k.blk h4,own_ext k h5⟩
theorem BW.cast {s2 : ByteArray} (h : BW e T B w g s) (he : s = s2) : BW e T B w g s2 := he ▸ h
theorem BW.new {cs : Array Value} (nb : NewB w g (.cells cs T (0,0)) w') (hc : cs = #[.pointer none,.slice none 0 0]) (hT : e ≠ T) (hB : B ≤ w.heap.size) : BW e T B w' g ⟨#[]⟩ := by
  subst hc
  refine ⟨hT,by rw [nb.eq]; exact hB,_,none,0,.inl rfl,nb.blk,own_nil B e 1⟩
theorem Wr.cast {s2 : ByteArray} (h : Wr e T B g s w w') (he : s = s2) : Wr e T B g s2 w w' := he ▸ h
theorem Bld.refl : Bld e g w w := Keep.refl _ _
theorem Bld.trans (h : Bld e g w w') (k : Bld e g w' w2) : Bld e g w w2 := by
  refine Keep.then_ h k fun i hi h2 => ?_
  by_cases hs : i = g ∨ ∃ cs,w.heap[i]? = some (.cells cs e (0,0))
  · exact hs
  · rcases h2 with h2 | ⟨cs,h2⟩
    · exact .inl h2
    · rw [h.block i hi hs] at h2
      exact .inr ⟨cs,h2⟩
theorem Bld.of_ext (k : Ext w w') : Bld e g w w' := Keep.mono k (fun _ _ h => h.elim)
theorem Wr.refl (h : BW e T B w g s) : Wr e T B g s w w := ⟨h,Below.refl _ _,Bld.refl⟩
theorem Wr.then_ {s2 : ByteArray} (h : Wr e T B g s w w') (k : Wr e T B g s2 w' w2) : Wr e T B g s2 w w2 := ⟨k.bw,h.below.trans k.below,h.bld.trans k.bld⟩
theorem below_ext {B : Nat} (k : Ext w w') (hB : B ≤ w.heap.size) : Below B w w' := ⟨k.os,k.tape,k.output,k.size,fun i hi => k.block i (by omega) (fun h => h)⟩
theorem Wr.ext (h : Wr e T B g s w w') (k : Ext w' w2) (hB : B ≤ w.heap.size) : Wr e T B g s w w2 := ⟨h.bw.ext k,h.below.trans (below_ext k (Nat.le_trans hB h.below.size)),h.bld.trans (Bld.of_ext k)⟩
theorem Wr.of_ext (h : BW e T B w g s) (k : Ext w w') (hB : B ≤ w.heap.size) : Wr e T B g s w w' := (Wr.refl h).ext k hB
theorem Wr.size (h : Wr e T B g s w w') : w.heap.size ≤ w'.heap.size := h.bld.size
theorem Wr.after {B : Nat} {s : ByteArray} (h : Wr e T B g s w w') (k : Ext w0 w) (hB : B = w0.heap.size) : Ext w0 w' := by
  subst hB
  exact Ext.of_below ((Ext.below k).trans h.below)
theorem Bld.blk {i t : Nat} {cs : Array Value} {fz : Nat × Nat} (h : Bld e g w w') (hb : w.heap[i]? = some (.cells cs t fz)) (ht : t ≠ e ∨ fz ≠ (0,0)) (hg : i ≠ g) : w'.heap[i]? = some (.cells cs t fz) := by
  refine Keep.blk h hb ?_
  rintro (h1 | ⟨cs2,h1⟩)
  · exact hg h1
  · rw [hb] at h1
    injection h1 with h1
    injection h1 with _ h2 h3
    rcases ht with ht | ht
    · exact ht h2
    · exact ht h3
theorem Wr.blk {i t : Nat} {cs : Array Value} {fz : Nat × Nat} (h : Wr e T B g s w w') (hb : w.heap[i]? = some (.cells cs t fz)) (ht : t ≠ e ∨ fz ≠ (0,0)) (hg : i ≠ g) : w'.heap[i]? = some (.cells cs t fz) := Bld.blk h.bld hb ht hg
/-- What the builder's own writes turn: its block, its own row. -/
theorem Bld.own {A : Option Addr} {n c : Nat} {xs : List Value} (h : Keep (fun k => k = g ∨ some k = (Value.slice A n c).ownBlock) w w') (ho : w.ownsRow B e 1 (.slice A n c) n xs) : Bld e g w w' := by
  refine Keep.mono h fun i hi h => ?_
  rcases h with h | h
  · exact .inl h
  · rcases ho.2 with ⟨hv,_⟩ | ⟨g',cap,cur,hv,_,hh,_⟩
    · injection hv with hv; subst hv; simp [Value.ownBlock] at h
    · rw [hv] at h
      have : i = g' := by simpa [Value.ownBlock] using h
      subst this
      exact .inr ⟨cur,hh⟩
theorem below_own {A : Option Addr} {n c : Nat} {xs : List Value} (h : Keep (fun k => k = g ∨ some k = (Value.slice A n c).ownBlock) w w') (ho : w.ownsRow B e 1 (.slice A n c) n xs) (hg : B ≤ g) (hB : B ≤ w.heap.size) : Below B w w' := by
  refine ⟨h.os,h.tape,h.output,h.size,fun i hi => h.block i (by omega) ?_⟩
  rintro (h1 | h1)
  · omega
  · have := own_ge ho i h1; omega
end
theorem strCells_append (a b : ByteArray) : strCells (a ++ b) = strCells a ++ strCells b := by simp [strCells]
/-- Texts, one behind the other. -/
def catL : List ByteArray → ByteArray
  | [] => ⟨#[]⟩
  | a :: l => a ++ catL l
theorem app_nil (a : ByteArray) : a ++ (⟨#[]⟩ : ByteArray) = a := by apply Go.WideShapes.bytes_inj; simp
theorem nil_app (a : ByteArray) : (⟨#[]⟩ : ByteArray) ++ a = a := by apply Go.WideShapes.bytes_inj; simp
theorem app_assoc (a b c : ByteArray) : a ++ b ++ c = a ++ (b ++ c) := by apply Go.WideShapes.bytes_inj; simp
theorem catL_step (l : List ByteArray) (i : Nat) (hi : i < l.length) : catL (l.take (i + 1)) = catL (l.take i) ++ l[i] := by
  induction l generalizing i with
  | nil => simp at hi
  | cons a l ih =>
    cases i with
    | zero => simp [catL,app_nil,nil_app]
    | succ i =>
      simp only [List.take_succ_cons,catL,List.getElem_cons_succ]
      rw [ih i (by simpa using hi),app_assoc]
section
variable {P : Program} {ops : Array Oper} {Q : Exit → Act → World → Prop} {rest : List Oper} {n d t : Nat} {env : Nat → Value} {ds : List Deferred} {w w' : World} {v u : Value}
  {ty T : TypeId} {pos : String} {af : Array Edge} {gd : Option (Nat × Bool)} {x y z : Operand}
theorem s_eqNil {p : Option Addr} {T2 : TypeId} (h : P.underlying T = some (.pointer (P.pointee T))) (hx : (mkA n env ds).eval x = .pointer p) (hy : (mkA n env ds).eval y = .pointer none) (hw : Region.wanted ⟨some d,.binOp .eql T x y T2,ty,pos,af,gd⟩ (yielded ops (mkA n env ds).tmps) = true)
    (k : wpList P ops Q rest (mkA n (upd env d (.bool p.isNone)) ds) w) : wpList P ops Q (⟨some d,.binOp .eql T x y T2,ty,pos,af,gd⟩ :: rest) (mkA n env ds) w := by
  refine s_val hw (w' := w) (v := .bool p.isNone) ?_ k
  cases p <;> simp [execOp,hx,hy,eqGuard,run_eql_pointer_nil,h]
theorem s_neSame {a : Addr} {te : TypeId} {T2 : TypeId} (hp : P.underlying T = some (.pointer te)) (hte : (P.info? te).isSome = true) (hx : (mkA n env ds).eval x = .pointer (some a)) (hy : (mkA n env ds).eval y = .pointer (some a)) (hw : Region.wanted ⟨some d,.binOp .neq T x y T2,ty,pos,af,gd⟩ (yielded ops (mkA n env ds).tmps) = true)
    (k : wpList P ops Q rest (mkA n (upd env d (.bool false)) ds) w) : wpList P ops Q (⟨some d,.binOp .neq T x y T2,ty,pos,af,gd⟩ :: rest) (mkA n env ds) w := by
  refine s_val hw (w' := w) (v := .bool false) ?_ k
  obtain ⟨j,hte⟩ := Option.isSome_iff_exists.1 hte
  have := Go.Lib.run_neq_ptr_same (P := P) w (j := j) a hp hte
  simp [execOp,hx,hy,eqGuard,this]
theorem s_ptrConv {S2 : TypeId} {p : Value} (h : (convert T S2 p).run P w = .ok p w) (hx : (mkA n env ds).eval x = p) (hw : Region.wanted ⟨some d,.convert T S2 x,ty,pos,af,gd⟩ (yielded ops (mkA n env ds).tmps) = true)
    (k : wpList P ops Q rest (mkA n (upd env d p) ds) w) : wpList P ops Q (⟨some d,.convert T S2 x,ty,pos,af,gd⟩ :: rest) (mkA n env ds) w :=
  s_val hw (w' := w) (v := p) (by
    simp only [execOp,hx]
    rw [Sem.run_bind,h]
    rfl) k
theorem s_extern {F : FuncId} {fn : Func} {ex : Array Value → Sem Value} {p : Value} {ts : Array TypeId} (hf : P.funcs[F]? = some fn) (hname : (fn.name == "runtime.NumGoroutine") = false) (hb : fn.body.isNone = true) (hn : Extern.findNext fn = none) (he : Extern.find fn = some ex)
    (hx : (mkA n env ds).eval x = .func (.func F) #[] #[]) (hy : (mkA n env ds).eval y = p) (hr : (ex #[p]).run P w = .ok v w) (hw : Region.wanted ⟨some d,.call ⟨.value x,#[y],ts⟩,ty,pos,af,gd⟩ (yielded ops (mkA n env ds).tmps) = true)
    (k : wpList P ops Q rest (mkA n (upd env d v) ds) w) : wpList P ops Q (⟨some d,.call ⟨.value x,#[y],ts⟩,ty,pos,af,gd⟩ :: rest) (mkA n env ds) w := by
  refine s_val hw (w' := w) (v := v) ?_ k
  have h2 : (#[] : Array Value) ++ #[p] ++ #[] = #[p] := rfl
  simp only [execOp,resolve,hx,m1 hy,Deferred.ofValue,Sem.run_bind,Sem.run_pure,Result.andThen_ok,invoke]
  rw [h2,run_callFunc_extern hf hname hb hn he,hr]
  rfl
end
theorem conv_toU {P : Program} {src dst t T : TypeId} {m g : Nat} {w : World} {a b : Value} {fz : Nat × Nat} (hs : P.underlying src = some (.pointer t)) (hd : P.underlying dst = some .unsafePointer) (ht : (P.info? t).map (·.size) = some (m + 1)) (hb : w.heap[g]? = some (.cells #[a,b] T fz)) : (convert src dst (.pointer (some ⟨g,0,none⟩))).run P w = .ok (.pointer (some ⟨g,0,none⟩)) w := by
  obtain ⟨j,hj,hm⟩ := Option.map_eq_some_iff.1 ht
  exact Go.Lib.run_to_unsafe w ⟨g,0,none⟩ hs hd hj (by omega) (e := T) (cells := 2) (by simp [World.shape?,hb]) (Nat.zero_lt_succ 1)
theorem conv_ofU {P : Program} {src dst u T : TypeId} {g : Nat} {w : World} {a b : Value} {fz : Nat × Nat} (hs : P.underlying src = some .unsafePointer) (hd : P.underlying dst = some (.pointer u)) (hu : (P.info? u).isSome = true) (hb : w.heap[g]? = some (.cells #[a,b] T fz)) (hl : liesAt P P.depth T (2 / P.cellsOf T) 0 u 1 = true) : (convert src dst (.pointer (some ⟨g,0,none⟩))).run P w = .ok (.pointer (some ⟨g,0,none⟩)) w := by
  obtain ⟨j,hj⟩ := Option.isSome_iff_exists.1 hu
  exact Go.Lib.run_from_unsafe w ⟨g,0,none⟩ hs hd hj (e := T) (cells := 2) (by simp [World.shape?,hb]) hl
theorem own_wrote {e T B g n : Nat} {w w' : World} {v : Value} {xs : List Value} {cs : Array Value} {fz : Nat × Nat} {o : Obj} (ho : w.ownsRow B e 1 v n xs) (hb : w.heap[g]? = some (.cells cs T fz)) (hne : e ≠ T) (wr : Wrote w g o w') : w'.ownsRow B e 1 v n xs :=
  own_move ho fun k hk => wr.keep.block k (own_lt ho k hk) (by rintro rfl; exact own_ne ho hb hne hk)
/-- Behind a write: the builder, one more piece in it. -/
theorem BW.finish {e T B g n' c c' : Nat} {w w1 w1' w2 w3 : World} {s0 s : ByteArray} {A A' : Option Addr} {cs : Array Value} (hne : e ≠ T) (hBg : B ≤ g) (hB : B ≤ w.heap.size) (hb : w.heap[g]? = some (.cells cs T (0,0))) (ho : w.ownsRow B e 1 (.slice A s0.size c) s0.size (strCells s0))
    (wr1 : Wrote w g (.cells #[.pointer (some ⟨g,0,none⟩),.slice A s0.size c] T (0,0)) w1) (x1 : Ext w1 w1') (k : Keep (fun i => some i = (Value.slice A s0.size c).ownBlock) w1' w2) (ow : w2.ownsRow B e 1 (.slice A' n' c') n' (strCells s0 ++ strCells s)) (hn : n' = s0.size + s.size)
    (wr2 : Wrote w2 g (.cells #[.pointer (some ⟨g,0,none⟩),.slice A' n' c'] T (0,0)) w3) : Wr e T B g (s0 ++ s) w w3 := by
  subst hn
  have hg2 : w2.heap[g]? = some (.cells #[.pointer (some ⟨g,0,none⟩),.slice A s0.size c] T (0,0)) := k.blk (x1.blk wr1.blk) (own_ne (own_ext x1 (own_wrote ho hb hne wr1)) (x1.blk wr1.blk) hne)
  have ow3 := own_wrote ow hg2 hne wr2
  have h1 : Keep (fun i => i = g ∨ some i = (Value.slice A s0.size c).ownBlock) w w3 :=
    (((Keep.mono wr1.keep (fun _ _ h => Or.inl h)).ext x1).then_ k (fun _ _ h => .inr h)).then_ wr2.keep (fun _ _ h => .inl h)
  refine ⟨⟨hne,hBg,_,A',c',.inr rfl,?_,?_⟩,below_own h1 ho hBg hB,Bld.own h1 ho⟩
  · rw [ByteArray.size_append]; exact wr2.blk
  · rw [ByteArray.size_append,strCells_append]; exact ow3
section
variable {P : Program} {ops : Array Oper} {Q : Exit → Act → World → Prop} {rest : List Oper} {n d t : Nat} {env : Nat → Value} {ds : List Deferred} {w w' : World} {v u : Value}
  {ty T : TypeId} {pos : String} {af : Array Edge} {gd : Option (Nat × Bool)} {x y z : Operand}
theorem r_sliceData {a : Addr} {ln c : Nat} (hx : (mkA n env ds).eval x = .slice (some a) ln c) (hc : c ≠ 0) : (execOp (mkA n env ds).eval ⟨some d,.call ⟨.builtin .unsafeSliceData,#[x],#[T]⟩,ty,pos,af,gd⟩).run P w = .ok (.value (.pointer (some a))) w := by
  simp only [execOp,resolve,Sem.run_bind,Sem.run_pure,Result.andThen_ok,invoke,builtin,m1 hx]
  rw [run_unsafeSliceData_row w #[T] ty a ln c hc]
  rfl
theorem s_unsafeString {e B c : Nat} {b : Nat} {pt it : TypeId} {s : ByteArray} {A : Option Addr} (hp : P.underlying pt = some (.pointer e)) (hc : P.cellsOf e = 1) (ho : w.ownsRow B e 1 (.slice A s.size c) s.size (strCells s)) (h0 : s.size ≠ 0) (hA : A = some ⟨b,0,none⟩)
    (hx : (mkA n env ds).eval x = .pointer (some ⟨b,0,none⟩)) (hy : (mkA n env ds).eval y = .int .i64 s.size) (hw : Region.wanted ⟨some d,.call ⟨.builtin .unsafeString,#[x,y],#[pt,it]⟩,ty,pos,af,gd⟩ (yielded ops (mkA n env ds).tmps) = true)
    (k : ∀ w',Below B w w' → wpList P ops Q rest (mkA n (upd env d (.string s)) ds) w') : wpList P ops Q (⟨some d,.call ⟨.builtin .unsafeString,#[x,y],#[pt,it]⟩,ty,pos,af,gd⟩ :: rest) (mkA n env ds) w := by
  have hB : B ≤ b := own_ge ho b (by rw [hA]; rfl)
  obtain ⟨g,cap,cur,hv,hg,hh,h1,h2,h3,h4⟩ : ∃ g cap cur,Value.slice A s.size c = .slice (some ⟨g,0,none⟩) s.size cap ∧ B ≤ g ∧ w.heap[g]? = some (.cells cur e (0,0)) ∧ s.size ≤ cap ∧ cap ≤ maxLen ∧ cur.size = cap * 1 ∧ cur.toList.take (s.size * 1) = strCells s := by
    rcases ho.2 with ⟨_,hn⟩ | h
    · omega
    · exact h
  injection hv with hv _ hcap
  rw [hA] at hv
  have hbg : b = g := by injection hv with hv; injection hv
  subst hbg
  have hl : s.data.toList.length = s.size := Array.length_toList
  have hrun := run_unsafeString_row (P := P) w pt it ty e hp hc b cur.size (by simp [World.shape?,hh]) s.data.toList (fun h => h0 (by rw [← hl,h]; rfl)) (by omega) (by simp only [maxLen] at h2; omega) (fun j xx hj => by
    rw [add0,Nat.zero_add]
    refine cell_of_blk hh ?_
    have hj' : j < s.data.toList.length := (List.getElem?_eq_some_iff.1 hj).1
    have hs : (strCells s)[j]? = some (.int .u8 xx.toNat) := by simp only [strCells,List.getElem?_map,hj,Option.map_some]
    rw [← h4,List.getElem?_take,if_pos (by omega)] at hs
    simpa using hs)
  refine s_val hw (w' := w.freeze ⟨b,0,none⟩ s.size) (v := .string s) ?_ (k _ (below_freeze (Below.refl B w) (by exact hB) s.size))
  simp only [execOp,resolve,Sem.run_bind,Sem.run_pure,Result.andThen_ok,invoke,builtin,m2 hx hy]
  rw [hl] at hrun
  rw [hrun]
  rfl
end
theorem own_cap {w : World} {base e m n c : Nat} {A : Option Addr} {xs : List Value} (h : w.ownsRow base e m (.slice A n c) n xs) (h0 : n ≠ 0) : c ≠ 0 := by
  rcases h.2 with ⟨_,h1⟩ | ⟨g,cap,cur,hv,hg,hh,h1,h2,h3,h4⟩
  · exact absurd h1 h0
  · injection hv with _ _ hc
    omega
end Go.Wk

set_option linter.unusedVariables false
set_option linter.unusedSimpArgs false
set_option maxRecDepth 10000
namespace Go.Proofs.Zw
open Go Go.Wk Go.Proofs Go.Lib
attribute [local irreducible] Go.wpList Go.wpStill Go.wpQuiet Go.Code.wp Go.Calls
theorem F_co5 : Tryz.prog.cellsOf 5 = 1 := by kernel_rfl
theorem F_e122 : enterable Tryz.prog 122 = true := by kernel_rfl
theorem F_f95_0 : fieldAt Tryz.prog 95 0 0 = true := by kernel_rfl
theorem F_f95_1 : fieldAt Tryz.prog 95 1 1 = true := by kernel_rfl
theorem F_is95 : (Tryz.prog.info? 95).isSome = true := by kernel_rfl
theorem F_o92 : one Tryz.prog 92 = true := by kernel_rfl
theorem F_o93 : one Tryz.prog 93 = true := by kernel_rfl
theorem F_sz92 : (Tryz.prog.info? 92).map (·.size) = some 1 := by kernel_rfl
theorem F_sz93 : (Tryz.prog.info? 93).map (·.size) = some 1 := by kernel_rfl
theorem F_sz95 : (Tryz.prog.info? 95).map (·.size) = some 2 := by kernel_rfl
theorem F_ue143 : Tryz.prog.underlying 143 = some (.pointer 5) := by kernel_rfl
theorem F_ue92 : Tryz.prog.underlying 92 = some (.pointer 95) := by kernel_rfl
theorem F_up92 : Tryz.prog.underlying 92 = some (.pointer (Tryz.prog.pointee 92)) := by kernel_rfl
theorem F_uu173 : Tryz.prog.underlying 173 = some .unsafePointer := by kernel_rfl
theorem b_copyCheck_fresh (T g n c : Nat) (A : Option Addr) (w : World) (hg : w.heap[g]? = some (.cells #[.pointer none,.slice A n c] T (0,0))) (hlies : liesAt Tryz.prog Tryz.prog.depth T (2 / Tryz.prog.cellsOf T) 0 95 1 = true) :
    Rt Tryz.prog 122 #[.pointer (some ⟨g,0,none⟩)] w fun v w' => v = .tuple #[] ∧ Wrote w g (.cells #[.pointer (some ⟨g,0,none⟩),.slice A n c] T (0,0)) w' := by
  refine enter Tryz.func122 rfl (l := [.pointer (some ⟨g,0,none⟩)]) rfl Tryz.ntmps122 (Nat.le_of_ble_eq_true rfl) ?_
  refine c_seq (c_reg (s_move (v := .pointer (some ⟨g,0,none⟩)) (ej rfl rfl) (w0 rfl) (s_nilCheck (ej rfl rfl) (w0 rfl) (s_field (off := 0) (o' := 0) F_f95_0 (ej rfl rfl) rfl (w0 rfl) (s_load (v := .pointer none) F_o92 (ej rfl rfl) (cell_of_blk (i := 0) hg rfl) (w0 rfl) (s_eqNil F_up92 (ej rfl rfl) ev_c (w0 rfl) (c_done (n_then (c_cond1 (ej rfl rfl) (c_reg (s_move (v := .pointer (some ⟨g,0,none⟩)) (ej rfl rfl) (w0 rfl) ?_)))))))))))
  refine s_move (v := .pointer (some ⟨g,0,none⟩)) (ej rfl rfl) (w0 rfl) (s_ptrConv (conv_toU F_ue92 F_uu173 F_sz95 hg) (ej rfl rfl) (w0 rfl) (s_extern (ex := Extern.AbiNoEscape.same) Tryz.func141 (by kernel_rfl) (by kernel_rfl) (by kernel_rfl) (by kernel_rfl) ev_f (ej rfl rfl) (v := .pointer (some ⟨g,0,none⟩)) rfl (w0 rfl) (s_ptrConv (conv_ofU F_uu173 F_ue92 F_is95 hg hlies) (ej rfl rfl) (w0 rfl) (s_nilCheck (ej rfl rfl) (w0 rfl) (s_field (off := 0) (o' := 0) F_f95_0 (ej rfl rfl) rfl (w0 rfl) (s_store (cs' := #[.pointer (some ⟨g,0,none⟩),.slice A n c]) F_sz92 (ej rfl rfl) (ej rfl rfl) (l := [.pointer (some ⟨g,0,none⟩)]) rfl rfl rfl hg (Nat.le_of_ble_eq_true rfl) rfl (w0 rfl) ?_))))))
  intro w1 k2
  refine c_done (ret0 rfl ?_)
  exact ⟨_,rfl,rfl,k2⟩
theorem b_copyCheck_used (T g n c : Nat) (A : Option Addr) (w : World) (hg : w.heap[g]? = some (.cells #[.pointer (some ⟨g,0,none⟩),.slice A n c] T (0,0))) (hlies : liesAt Tryz.prog Tryz.prog.depth T (2 / Tryz.prog.cellsOf T) 0 95 1 = true) :
    Rt Tryz.prog 122 #[.pointer (some ⟨g,0,none⟩)] w fun v w' => v = .tuple #[] ∧ Wrote w g (.cells #[.pointer (some ⟨g,0,none⟩),.slice A n c] T (0,0)) w' := by
  refine enter Tryz.func122 rfl (l := [.pointer (some ⟨g,0,none⟩)]) rfl Tryz.ntmps122 (Nat.le_of_ble_eq_true rfl) ?_
  refine c_seq (c_reg (s_move (v := .pointer (some ⟨g,0,none⟩)) (ej rfl rfl) (w0 rfl) (s_nilCheck (ej rfl rfl) (w0 rfl) (s_field (off := 0) (o' := 0) F_f95_0 (ej rfl rfl) rfl (w0 rfl) (s_load (v := .pointer (some ⟨g,0,none⟩)) F_o92 (ej rfl rfl) (cell_of_blk (i := 0) hg rfl) (w0 rfl) (s_eqNil F_up92 (ej rfl rfl) ev_c (w0 rfl) (c_done (n_then (c_cond0 (ej rfl rfl) (c_seq (c_reg ?_)))))))))))
  refine s_move (v := .pointer (some ⟨g,0,none⟩)) (ej rfl rfl) (w0 rfl) (s_nilCheck (ej rfl rfl) (w0 rfl) (s_field (off := 0) (o' := 0) F_f95_0 (ej rfl rfl) rfl (w0 rfl) (s_load (v := .pointer (some ⟨g,0,none⟩)) F_o92 (ej rfl rfl) (cell_of_blk (i := 0) hg rfl) (w0 rfl) (s_move (v := .pointer (some ⟨g,0,none⟩)) (ej rfl rfl) (w0 rfl) (s_neSame F_ue92 F_is95 (ej rfl rfl) (ej rfl rfl) (w0 rfl) (c_done (n_then (c_cond0 (ej rfl rfl) (c_skip (ret0 rfl ?_))))))))))
  exact ⟨_,rfl,rfl,⟨rfl,hg,Keep.refl _ _⟩⟩
theorem b_copyCheck (T g n c : Nat) (A : Option Addr) (w : World) {a : Value} (ha : a = .pointer none ∨ a = .pointer (some ⟨g,0,none⟩)) (hg : w.heap[g]? = some (.cells #[a,.slice A n c] T (0,0))) (hlies : liesAt Tryz.prog Tryz.prog.depth T (2 / Tryz.prog.cellsOf T) 0 95 1 = true) :
    Rt Tryz.prog 122 #[.pointer (some ⟨g,0,none⟩)] w fun v w' => v = .tuple #[] ∧ Wrote w g (.cells #[.pointer (some ⟨g,0,none⟩),.slice A n c] T (0,0)) w' := by
  rcases ha with rfl | rfl
  · exact b_copyCheck_fresh T g n c A w hg hlies
  exact b_copyCheck_used T g n c A w hg hlies
theorem b_WriteString (T B g : Nat) (s0 s : ByteArray) (w : World) (hb : BW 5 T B w g s0) (hB : B ≤ w.heap.size) (hlies : liesAt Tryz.prog Tryz.prog.depth T (2 / Tryz.prog.cellsOf T) 0 95 1 = true) (hs : s0.size + s.size ≤ 140737488355328) :
    Rt Tryz.prog 97 #[.pointer (some ⟨g,0,none⟩),.string s] w fun v w' => v = .tuple #[.int .i64 s.size,.nilIface] ∧ Wr 5 T B g (s0 ++ s) w w' := by
  refine enter Tryz.func97 rfl (l := [.pointer (some ⟨g,0,none⟩),.string s]) rfl Tryz.ntmps97 (Nat.le_of_ble_eq_true rfl) ?_
  obtain ⟨hne,hBg,a,A,c,ha,hg,ho⟩ := hb
  refine c_seq (c_reg (s_assign (v := .int .i64 0) ev_c (w0 rfl) (s_assign (v := .nilIface) ev_c (w0 rfl) (c_done (n_then (c_seq (c_reg (s_move (v := .pointer (some ⟨g,0,none⟩)) (ej rfl rfl) (w0 rfl) (s_call F_e122 (w0 rfl) ev_f (m1 (ej rfl rfl)) (args := #[.pointer (some ⟨g,0,none⟩)]) rfl (b_copyCheck T g _ _ _ _ ha hg hlies) ?_)))))))))
  rintro _ w1 ⟨rfl,k2⟩
  have ow3 := own_wrote ho hg hne k2
  refine c_done (n_then (c_seq (c_reg (s_move (v := .pointer (some ⟨g,0,none⟩)) (ej rfl rfl) (w0 rfl) (s_move (v := .pointer (some ⟨g,0,none⟩)) (ej rfl rfl) (w0 rfl) (s_nilCheck (ej rfl rfl) (w0 rfl) (s_field (off := 1) (o' := 1) F_f95_1 (ej rfl rfl) rfl (w0 rfl) (s_load (v := .slice A s0.size c) F_o93 (ej rfl rfl) (cell_of_blk (i := 1) (Wrote.blk k2) rfl) (w0 rfl) (s_move (v := .string s) (ej rfl rfl) (w0 rfl) (s_appendS F_ul93 F_us9 F_if5 (ej rfl rfl) ow3 (ej rfl rfl) (by omega) (Nat.le_trans hB (Keep.size (Wrote.keep k2))) (w0 rfl) ?_))))))))))
  intro A6 c7 w4 ow8 k5
  refine s_nilCheck (ej rfl rfl) (w0 rfl) (s_field (off := 1) (o' := 1) F_f95_1 (ej rfl rfl) rfl (w0 rfl) (s_store (cs' := #[.pointer (some ⟨g,0,none⟩),.slice A6 (s0.size + s.size) c7]) F_sz93 (ej rfl rfl) (ej rfl rfl) (l := [.slice A6 (s0.size + s.size) c7]) rfl rfl rfl (Keep.blk k5 (Wrote.blk k2) (own_ne ow3 (Wrote.blk k2) (by first | decide | assumption))) (Nat.le_of_ble_eq_true rfl) rfl (w0 rfl) ?_))
  intro w9 k10
  refine c_done (n_then (c_seq (c_reg (s_move (v := .string s) (ej rfl rfl) (w0 rfl) (s_lenS F_us9 (ej rfl rfl) (w0 rfl) (s_assign (v := .int .i64 (s.size : Int)) (ej rfl rfl) (w0 rfl) (s_assign (v := .nilIface) ev_c (w0 rfl) (c_done (n_then (c_ret (ret2 (v := .int .i64 (s.size : Int)) (v2 := .nilIface) rfl rfl rfl rfl rfl ?_)))))))))))
  exact ⟨_,rfl,rfl,BW.finish hne hBg hB hg ho k2 (Ext.refl w1) k5 ow8 rfl k10⟩
theorem b_WriteByte (T B g : Nat) (s0 : ByteArray) (b : UInt8) (w : World) (hb : BW 5 T B w g s0) (hB : B ≤ w.heap.size) (hlies : liesAt Tryz.prog Tryz.prog.depth T (2 / Tryz.prog.cellsOf T) 0 95 1 = true) (hs : s0.size + 1 ≤ 140737488355328) :
    Rt Tryz.prog 145 #[.pointer (some ⟨g,0,none⟩),.int .u8 ((b.toNat : Nat) : Int)] w fun v w' => v = .nilIface ∧ Wr 5 T B g (s0 ++ ⟨#[b]⟩) w w' := by
  refine enter Tryz.func145 rfl (l := [.pointer (some ⟨g,0,none⟩),.int .u8 ((b.toNat : Nat) : Int)]) rfl Tryz.ntmps145 (Nat.le_of_ble_eq_true rfl) ?_
  obtain ⟨hne,hBg,a,A,c,ha,hg,ho⟩ := hb
  refine c_seq (c_reg (s_assign (v := .nilIface) ev_c (w0 rfl) (c_done (n_then (c_seq (c_reg (s_move (v := .pointer (some ⟨g,0,none⟩)) (ej rfl rfl) (w0 rfl) (s_call F_e122 (w0 rfl) ev_f (m1 (ej rfl rfl)) (args := #[.pointer (some ⟨g,0,none⟩)]) rfl (b_copyCheck T g _ _ _ _ ha hg hlies) ?_))))))))
  rintro _ w1 ⟨rfl,k2⟩
  have ow3 := own_wrote ho hg hne k2
  refine c_done (n_then (c_seq (c_reg (s_move (v := .pointer (some ⟨g,0,none⟩)) (ej rfl rfl) (w0 rfl) (s_move (v := .pointer (some ⟨g,0,none⟩)) (ej rfl rfl) (w0 rfl) (s_nilCheck (ej rfl rfl) (w0 rfl) (s_field (off := 1) (o' := 1) F_f95_1 (ej rfl rfl) rfl (w0 rfl) (s_load (v := .slice A s0.size c) F_o93 (ej rfl rfl) (cell_of_blk (i := 1) (Wrote.blk k2) rfl) (w0 rfl) (s_move (v := .int .u8 ((b.toNat : Nat) : Int)) (ej rfl rfl) (w0 rfl) (s_bslice (vs := [(0,.int .u8 ((b.toNat : Nat) : Int))]) (cs := #[.int .u8 ((b.toNat : Nat) : Int)]) (b1 (ej rfl rfl)) (bs93_1_0iu8 ((b.toNat : Nat) : Int)) (w0 rfl) ?_))))))))))
  intro w5 g4 n6
  refine s_append (m := 1) (k := 1) (news := [.int .u8 ((b.toNat : Nat) : Int)]) F_ul93 F_if5 rfl (by decide) (ej rfl rfl) (own_ext (NewB.ext n6) ow3) (ej rfl rfl) rfl (by have z_ := blk_cells (NewB.blk n6) 0 (cs := [.int .u8 ((b.toNat : Nat) : Int)]) rfl; exact z_) rfl (by omega) (by omega) (Nat.le_trans (Nat.le_trans hB (Keep.size (Wrote.keep k2))) (Keep.size (NewB.ext n6))) (w0 rfl) ?_
  intro A9 c10 w7 ow11 k8
  refine s_nilCheck (ej rfl rfl) (w0 rfl) (s_field (off := 1) (o' := 1) F_f95_1 (ej rfl rfl) rfl (w0 rfl) (s_store (cs' := #[.pointer (some ⟨g,0,none⟩),.slice A9 (s0.size + 1) c10]) F_sz93 (ej rfl rfl) (ej rfl rfl) (l := [.slice A9 (s0.size + 1) c10]) rfl rfl rfl (Keep.blk k8 (Ext.blk (NewB.ext n6) (Wrote.blk k2)) (own_ne (own_ext (NewB.ext n6) ow3) (Ext.blk (NewB.ext n6) (Wrote.blk k2)) (by first | decide | assumption))) (Nat.le_of_ble_eq_true rfl) rfl (w0 rfl) ?_))
  intro w12 k13
  refine c_done (n_then (c_seq (c_reg (s_assign (v := .nilIface) ev_c (w0 rfl) (c_done (n_then (c_ret (ret1 (v := .nilIface) rfl rfl rfl ?_))))))))
  exact ⟨_,rfl,rfl,BW.finish hne hBg hB hg ho k2 (NewB.ext n6) k8 (own_bytes ow11 (by simp [strCells])) rfl k13⟩
theorem b_String (T B g : Nat) (s0 : ByteArray) (w : World) (hb : BW 5 T B w g s0) (hB : B ≤ w.heap.size) (h0 : s0.size ≠ 0) :
    Rt Tryz.prog 55 #[.pointer (some ⟨g,0,none⟩)] w fun v w' => v = .string s0 ∧ Go.RowKit.Below B w w' := by
  refine enter Tryz.func55 rfl (l := [.pointer (some ⟨g,0,none⟩)]) rfl Tryz.ntmps55 (Nat.le_of_ble_eq_true rfl) ?_
  obtain ⟨hne,hBg,a,A,c,ha,hg,ho⟩ := hb
  obtain ⟨b_,rfl,_⟩ := own_cells ho (Nat.pos_of_ne_zero h0)
  have hcap_ := own_cap ho h0
  refine c_seq (c_reg (s_assign (v := .string (⟨#[]⟩ : ByteArray)) ev_c (w0 rfl) (c_done (n_then (c_seq (c_tail 10 mixed (by kernel_rfl) rfl rfl ?_))))))
  intro w1 x2
  refine t_val (v := .pointer (some ⟨g,0,none⟩)) (w0 rfl) (r_move (v := .pointer (some ⟨g,0,none⟩)) (ej rfl rfl)) (t_val (v := .pointer (some ⟨g,0,none⟩)) (w0 rfl) (r_nilCheck (ej rfl rfl)) (t_val (v := .pointer (some ⟨g,1,none⟩)) (w0 rfl) (r_field (off := 1) (o' := 1) F_f95_1 (ej rfl rfl) rfl) (t_val (v := .slice (some ⟨b_,0,none⟩) s0.size c) (w0 rfl) (r_load (v := .slice (some ⟨b_,0,none⟩) s0.size c) F_o93 (ej rfl rfl) (cell_of_blk (i := 1) (Ext.blk x2 hg) rfl)) (t_val (v := .pointer (some ⟨b_,0,none⟩)) (w0 rfl) (r_sliceData (a := ⟨b_,0,none⟩) (ej rfl rfl) hcap_) (t_val (v := .pointer (some ⟨g,0,none⟩)) (w0 rfl) (r_move (v := .pointer (some ⟨g,0,none⟩)) (ej rfl rfl)) (t_val (v := .pointer (some ⟨g,0,none⟩)) (w0 rfl) (r_nilCheck (ej rfl rfl)) (t_val (v := .pointer (some ⟨g,1,none⟩)) (w0 rfl) (r_field (off := 1) (o' := 1) F_f95_1 (ej rfl rfl) rfl) (t_val (v := .slice (some ⟨b_,0,none⟩) s0.size c) (w0 rfl) (r_load (v := .slice (some ⟨b_,0,none⟩) s0.size c) F_o93 (ej rfl rfl) (cell_of_blk (i := 1) (Ext.blk x2 hg) rfl)) (t_val (v := .int .i64 (s0.size : Int)) (w0 rfl) (r_lenL F_l93 (ej rfl rfl)) (t_done (s_unsafeString F_ue143 F_co5 (own_ext x2 ho) h0 rfl (ej rfl rfl) (ej rfl rfl) (w0 rfl) ?_)))))))))))
  intro w3 k4
  refine s_assign (v := .string s0) (ej rfl rfl) (w0 rfl) (c_done (n_then (c_ret (ret1 (v := .string s0) rfl rfl rfl ?_))))
  exact ⟨_,rfl,rfl,Go.RowKit.Below.trans (below_ext x2 hB) k4⟩
end Go.Proofs.Zw

set_option linter.unusedVariables false
set_option linter.unusedSimpArgs false
namespace Go.Wk
open Go Go.RowKit Go.Lib
/-! ### the tables -/
theorem var_ext {P : Program} {w w' : World} {nm : String} {cs : Array Value} (h : w.var? P nm = some cs) (k : Ext w w') : w'.var? P nm = some cs := by
  unfold World.var? at h ⊢
  obtain ⟨g,hg,h⟩ := Option.bind_eq_some_iff.1 h
  rw [hg]
  simp only [Option.bind_some]
  cases hb : w.heap[g]? with
  | none => rw [hb] at h; simp at h
  | some o => rw [hb] at h; rw [k.blk hb]; exact h
theorem var_cell {P : Program} {w : World} {nm : String} {cs : Array Value} {g i : Nat} {v : Value} (h : w.var? P nm = some cs) (hg : P.globalNamed nm = some g) (hv : cs[i]? = some v) : w.cell? ⟨g,0 + i * 1,none⟩ = some v := by
  unfold World.var? at h
  rw [hg] at h
  simp only [Option.bind_some] at h
  split at h
  · rename_i hb
    cases h
    rw [Nat.zero_add,Nat.mul_one]
    exact cell_of_blk hb hv
  · cases h
def fastO (op : Int) : Int := if op = 2 ∨ op = 3 ∨ op = 7 then 1 else if op = 4 ∨ op = 5 ∨ op = 6 then 2 else if op = 1 then 3 else 4
def relW (r : Int) : ByteArray := if r = 1 then ⟨#[61]⟩ else if r = 2 then ⟨#[33,61]⟩ else if r = 3 then ⟨#[60]⟩ else if r = 4 then ⟨#[60,61]⟩ else if r = 5 then ⟨#[62]⟩ else ⟨#[62,61]⟩
structure Tabs (P : Program) (w : World) : Prop where
  hold : w.var? P "pedigree/print.hold" = some #[.int .i64 4, .int .i64 3, .int .i64 1, .int .i64 1, .int .i64 2, .int .i64 2, .int .i64 2, .int .i64 1, .int .i64 4, .int .i64 4, .int .i64 4]
  words : w.var? P "pedigree/print.words" = some #[.string ⟨#[]⟩, .string ⟨#[]⟩, .string ⟨#[]⟩, .string ⟨#[]⟩, .string ⟨#[]⟩, .string ⟨#[]⟩, .string ⟨#[]⟩, .string ⟨#[]⟩, .string ⟨#[108, 101, 110]⟩, .string ⟨#[99, 104, 97, 114, 115]⟩, .string ⟨#[98, 97, 99, 107]⟩]
  signs : w.var? P "pedigree/print.signs" = some #[.string ⟨#[]⟩, .string ⟨#[]⟩, .string ⟨#[43]⟩, .string ⟨#[45]⟩, .string ⟨#[42]⟩, .string ⟨#[47]⟩, .string ⟨#[37]⟩, .string ⟨#[38]⟩]
  pow : TabIs P w "internal/strconv.uint64pow10" .u64 pow10Tab
theorem Tabs.ext {P : Program} {w w' : World} (h : Tabs P w) (k : Ext w w') : Tabs P w' := ⟨var_ext h.hold k,var_ext h.words k,var_ext h.signs k,var_ext h.pow k⟩
section
variable {P : Program} {w : World} {g : Nat} {op : Int}
theorem Tabs.hold_at (h : Tabs P w) (hg : P.globalNamed "pedigree/print.hold" = some g) (ho : 0 ≤ op ∧ op ≤ 10) : w.cell? ⟨g, 0 + op.toNat * 1, none⟩ = some (.int .i64 (fastO op)) := by
  refine var_cell h.hold hg ?_
  have : op = 0 ∨ op = 1 ∨ op = 2 ∨ op = 3 ∨ op = 4 ∨ op = 5 ∨ op = 6 ∨ op = 7 ∨ op = 8 ∨ op = 9 ∨ op = 10 := by omega
  rcases this with rfl | rfl | rfl | rfl | rfl | rfl | rfl | rfl | rfl | rfl | rfl <;> rfl
theorem Tabs.words_at (h : Tabs P w) (hg : P.globalNamed "pedigree/print.words" = some g) (ho : 8 ≤ op ∧ op ≤ 10) : w.cell? ⟨g, 0 + op.toNat * 1, none⟩ = some (.string (wordW op)) := by
  refine var_cell h.words hg ?_
  have : op = 8 ∨ op = 9 ∨ op = 10 := by omega
  rcases this with rfl | rfl | rfl <;> rfl
theorem Tabs.signs_at (h : Tabs P w) (hg : P.globalNamed "pedigree/print.signs" = some g) (ho : 2 ≤ op ∧ op ≤ 7) : w.cell? ⟨g, 0 + op.toNat * 1, none⟩ = some (.string (signW op)) := by
  refine var_cell h.signs hg ?_
  have : op = 2 ∨ op = 3 ∨ op = 4 ∨ op = 5 ∨ op = 6 ∨ op = 7 := by omega
  rcases this with rfl | rfl | rfl | rfl | rfl | rfl <;> rfl
end
/-- A text's bytes in a frozen block, over a builder's writes. -/
def SBf (e : Nat) (w : World) (g : Nat) (s : ByteArray) : Prop := ∃ cs m,w.heap[g]? = some (.cells cs e (m,m + 1)) ∧ ∀ j,j < s.size → cs[j]? = some (.int .u8 (byteAt s j))
theorem SBf.sb {e : Nat} {w : World} {g : Nat} {s : ByteArray} (h : SBf e w g s) : SB w g s := by
  obtain ⟨cs,m,hb,hc⟩ := h
  intro j hj
  rw [Nat.zero_add,Nat.mul_one]
  exact cell_of_blk hb (hc j hj)
theorem SBf.ext {e : Nat} {w w' : World} {g : Nat} {s : ByteArray} (h : SBf e w g s) (k : Ext w w') : SBf e w' g s := by
  obtain ⟨cs,m,hb,hc⟩ := h; exact ⟨cs,m,k.blk hb,hc⟩
theorem SBf.wr {e T B g' : Nat} {w w' : World} {g : Nat} {s s' : ByteArray} (h : SBf e w g s) (k : Wr e T B g' s' w w') (hg : g ≠ g') : SBf e w' g s := by
  obtain ⟨cs,m,h1,hc⟩ := h
  exact ⟨cs,m,k.blk h1 (.inr (by simp)) hg,hc⟩
theorem SBf.ne {e T B g' : Nat} {w : World} {g : Nat} {s s0 : ByteArray} (h : SBf e w g s) (hb : BW e T B w g' s0) : g ≠ g' := by
  obtain ⟨cs,m,h1,hc⟩ := h
  rintro rfl
  obtain ⟨hne,_,_,_,_,_,h4,_⟩ := hb
  rw [h1] at h4
  injection h4 with h4
  injection h4 with _ h4
  exact hne h4
section
variable {P : Program} {ops : Array Oper} {Q : Exit → Act → World → Prop} {rest : List Oper} {n d t : Nat} {env : Nat → Value} {ds : List Deferred} {w w' : World} {v u : Value}
  {ty T : TypeId} {pos : String} {af : Array Edge} {gd : Option (Nat × Bool)} {x y z : Operand}
/-- []byte(s), the block known to be frozen. -/
theorem s_sbytesF {S2 e : TypeId} {s : ByteArray} (hs : P.underlying T = some .string) (hd : P.underlying S2 = some (.slice e)) (he : P.underlying e = some (.int .u8)) (hx : (mkA n env ds).eval x = .string s)
    (hw : Region.wanted ⟨some d,.convert T S2 x,ty,pos,af,gd⟩ (yielded ops (mkA n env ds).tmps) = true)
    (k : ∀ w' g c,SBf e w' g s → Ext w w' → wpList P ops Q rest (mkA n (upd env d (.slice (some ⟨g,0,none⟩) s.size c)) ds) w') : wpList P ops Q (⟨some d,.convert T S2 x,ty,pos,af,gd⟩ :: rest) (mkA n env ds) w := by
  refine s_val hw (w' := bytesWorld w e s) (v := .slice (some ⟨w.heap.size,0,none⟩) s.size (grownCap w s.size 0 e)) ?_ (k _ _ _ ?_ ?_)
  · simp only [execOp,hx]
    rw [Sem.run_bind,Go.Lib.run_convert_string_bytes w T S2 e s hs hd he]
    rfl
  · refine ⟨_,_,bytesWorld_at_new w e s,fun j hj => ?_⟩
    have := bytesWorld_cell w e s j hj
    rw [World.cell?,bytesWorld_at_new] at this
    have h2 : (bytesCells w e s)[j]? = some (.int .u8 (s.data.toList.getD j 0).toNat) := by simpa using this
    rw [h2]
    congr 2
    simp [byteAt,Array.getD_eq_getD_getElem?,List.getD_eq_getElem?_getD]
  · refine ⟨rfl,rfl,rfl,?_,fun j hj _ => bytesWorld_at_old w e s j hj⟩
    rw [bytesWorld_size]; omega
end
theorem shr4 {P : Program} (m : Nat) (h : m < 256) (T : TypeId) (w : World) : (binOp .shr T (.int .u8 (m : Int)) (.int .u64 4)).run P w = .ok (.int .u8 ((m / 16 : Nat) : Int)) w := by
  have e : (min 4 IntKind.u8.bits) = 4 := rfl
  have e2 : ((m : Int)).fdiv 16 = ((m / 16 : Nat) : Int) := by rw [Int.fdiv_eq_ediv_of_nonneg _ (by omega)]; rfl
  simp [binOp,Op.shift]
  rw [e,show ((2 : Int) ^ 4) = 16 from rfl,e2]; simp
theorem and15 {P : Program} (m : Nat) (h : m < 256) (T : TypeId) (w : World) : (binOp .and T (.int .u8 (m : Int)) (.int .u8 15)).run P w = .ok (.int .u8 ((m % 16 : Nat) : Int)) w := by
  have e : IntKind.u8.bits = 8 := rfl
  have e2 : m % 256 &&& 15 = m % 16 := by
    rw [Nat.mod_eq_of_lt h]
    exact Nat.and_two_pow_sub_one_eq_mod m 4
  simp [binOp,Op.intBits,e]
  rw [e2]
  rw [conv_u8 (by omega)]; simp
section
variable {P : Program} {ops : Array Oper} {Q : Exit → Act → World → Prop} {rest : List Oper} {n d t : Nat} {env : Nat → Value} {ds : List Deferred} {w w' : World} {v u : Value}
  {ty T : TypeId} {pos : String} {af : Array Edge} {gd : Option (Nat × Bool)} {x y z : Operand}
theorem s_shr4 {m : Nat} {T2 : TypeId} (hx : (mkA n env ds).eval x = .int .u8 (m : Int)) (hy : (mkA n env ds).eval y = .int .u64 4) (hm : m < 256) (hw : Region.wanted ⟨some d,.binOp .shr T x y T2,ty,pos,af,gd⟩ (yielded ops (mkA n env ds).tmps) = true)
    (k : wpList P ops Q rest (mkA n (upd env d (.int .u8 ((m / 16 : Nat) : Int))) ds) w) : wpList P ops Q (⟨some d,.binOp .shr T x y T2,ty,pos,af,gd⟩ :: rest) (mkA n env ds) w :=
  s_val hw (w' := w) (by
    have := shr4 (P := P) m hm T w
    simp only [execOp,hx,hy,eqGuard,Sem.run_bind]
    simp [this]) k
theorem s_and15 {m : Nat} {T2 : TypeId} (hx : (mkA n env ds).eval x = .int .u8 (m : Int)) (hy : (mkA n env ds).eval y = .int .u8 15) (hm : m < 256) (hw : Region.wanted ⟨some d,.binOp .and T x y T2,ty,pos,af,gd⟩ (yielded ops (mkA n env ds).tmps) = true)
    (k : wpList P ops Q rest (mkA n (upd env d (.int .u8 ((m % 16 : Nat) : Int))) ds) w) : wpList P ops Q (⟨some d,.binOp .and T x y T2,ty,pos,af,gd⟩ :: rest) (mkA n env ds) w :=
  s_val hw (w' := w) (by
    have := and15 (P := P) m hm T w
    simp only [execOp,hx,hy,eqGuard,Sem.run_bind]
    simp [this]) k
end
theorem BW.blk {e T B g : Nat} {w : World} {s : ByteArray} (h : BW e T B w g s) : ∃ cs,w.heap[g]? = some (.cells cs T (0,0)) := by
  obtain ⟨_,_,_,_,_,_,h,_⟩ := h; exact ⟨_,h⟩
theorem catL_stepD (l : List ByteArray) (i : Nat) (hi : i < l.length) : catL (l.take (i + 1)) = catL (l.take i) ++ l.getD i ⟨#[]⟩ := by
  rw [catL_step l i hi]
  simp [List.getD_eq_getElem?_getD,hi]
theorem catL_le (l : List ByteArray) (i : Nat) (hi : i < l.length) : (catL (l.take i)).size + (l.getD i ⟨#[]⟩).size ≤ (catL l).size := by
  induction l generalizing i with
  | nil => simp at hi
  | cons a l ih =>
    cases i with
    | zero => simp only [List.take_zero,catL,ByteArray.size_append,List.getD_cons_zero,z0]; omega
    | succ i =>
      have := ih i (by simpa using hi)
      simp only [List.take_succ_cons,catL,ByteArray.size_append,List.getD_cons_succ] at this ⊢
      omega
theorem strs_cell {w : World} {b t i : Nat} {fz : Nat × Nat} {ss : List ByteArray} (h : w.heap[b]? = some (.cells (ss.map Value.string).toArray t fz)) (hi : i < ss.length) : w.cell? ⟨b,0 + i * 1,none⟩ = some (.string (ss.getD i ⟨#[]⟩)) := by
  rw [Nat.zero_add,Nat.mul_one]
  refine cell_of_blk h ?_
  simp [List.getD_eq_getElem?_getD,hi]
theorem app1 (l : List UInt8) (a : UInt8) : strL l ++ (⟨#[a]⟩ : ByteArray) = strL (l ++ [a]) := by apply Go.WideShapes.bytes_inj; simp [strL]
theorem app2 (l : List UInt8) (a b : UInt8) : strL l ++ (⟨#[a,b]⟩ : ByteArray) = strL (l ++ [a,b]) := by apply Go.WideShapes.bytes_inj; simp [strL]
theorem ext_bel {w0 w w' : World} (h : Ext w0 w) (k : Below w0.heap.size w w') : Ext w0 w' := Ext.of_below ((Ext.below h).trans k)
theorem quotB_eq (s : ByteArray) : strL (quotL s s.size) ++ (⟨#[34]⟩ : ByteArray) = quotB s := by rw [app1]; rfl
theorem strL_size (l : List UInt8) : (strL l).size = l.length := by simp [strL,ByteArray.size]
/-! no text is empty -/
theorem bytes_nil {s : ByteArray} (h : s.size = 0) : s = ⟨#[]⟩ := by
  obtain ⟨d⟩ := s
  congr 1
  exact Array.eq_empty_of_size_eq_zero h
theorem digB_ne (u : Nat) : (digB u).size ≠ 0 := by
  unfold digB
  show (decDigits u).toArray.size ≠ 0
  rw [decDigits]
  split <;> simp
theorem itoaB_ne (n : Int) : (itoaB n).size ≠ 0 := by
  unfold itoaB itoa
  have := digB_ne n.toNat
  split
  · show (_ :: _ : List UInt8).toArray.size ≠ 0; simp
  · exact this
theorem showB_ne {x : Vl} : okV x = true → (showB x).size ≠ 0 := by
  intro h
  unfold showB
  split
  · exact itoaB_ne _
  · split
    · rename_i h2
      simp only [nameB,Bool.and_eq_true,wordB,decide_eq_true_eq] at h2
      omega
    · have : (quotB x.s).size = (quotL x.s x.s.size).length + 1 := by
        show (quotL x.s x.s.size ++ [34]).toArray.size = _
        rw [List.size_toArray,List.length_append]; rfl
      omega
theorem termW_ne {t : Tm} (h : tmB t = true) : (termW t).size ≠ 0 := by
  unfold termW
  unfold tmB at h
  split
  · rename_i h0
    rw [if_pos h0] at h
    rw [if_pos h]
    exact showB_ne h
  · rename_i h0
    exact fun h1 => h0 (bytes_nil h1)
theorem exW_ne {d : Nat} {x : Ex} (h : exB d x = true) : (exW d x).size ≠ 0 := by
  obtain ⟨hd,h1,h2⟩ := exB_parts h
  rw [exW_pos hd]
  split
  · rename_i h0; exact termW_ne (h1 h0).2.2
  · split
    · simp only [ByteArray.size_append,z1]; omega
    · split
      · simp only [ByteArray.size_append,z1]; omega
      · simp only [ByteArray.size_append,z1]; omega
theorem fast_neg {x : Ex} (h : x.op = 1) : fast x = 3 := by unfold fast; simp [h]
end Go.Wk

set_option linter.unusedVariables false
set_option linter.unusedSimpArgs false
set_option maxRecDepth 10000
namespace Go.Proofs.Zw
open Go Go.Wk Go.Proofs Go.Lib
attribute [local irreducible] Go.wpList Go.wpStill Go.wpQuiet Go.Code.wp Go.Calls
theorem F_e97 : enterable Tryz.prog 97 = true := by kernel_rfl
theorem F_f97_0 : fieldAt Tryz.prog 97 0 0 = true := by kernel_rfl
theorem F_l106 : sliceT Tryz.prog 106 1 = true := by kernel_rfl
theorem p_put (T B g b : Nat) (s0 : ByteArray) (ss : List ByteArray) (w : World) (hb : BW 5 T B w g s0) (hB : B ≤ w.heap.size) (hT : 9 ≠ T) (hlies : liesAt Tryz.prog Tryz.prog.depth T (2 / Tryz.prog.cellsOf T) 0 95 1 = true) (hl : w.heap[b]? = some (.cells (ss.map Value.string).toArray 9 (0,0))) (hs : s0.size + (catL ss).size ≤ 140737488355328) (hn : ss.length ≤ 1000) :
    Rt Tryz.prog 54 #[.pointer (some ⟨g,0,none⟩),.slice (some ⟨b,0,none⟩) ss.length ss.length] w fun v w' => v = .tuple #[] ∧ Wr 5 T B g (s0 ++ catL ss) w w' := by
  refine enter Tryz.func54 rfl (l := [.pointer (some ⟨g,0,none⟩),.slice (some ⟨b,0,none⟩) ss.length ss.length]) rfl Tryz.ntmps54 (Nat.le_of_ble_eq_true rfl) ?_
  have hne_ : b ≠ g := ne_blk hl (BW.blk hb).choose_spec hT
  refine c_seq (c_reg (s_move (v := .slice (some ⟨b,0,none⟩) ss.length ss.length) (ej rfl rfl) (w0 rfl) (s_lenL F_l106 (ej rfl rfl) (w0 rfl) (s_move (v := .int .i64 0) ev_c (w0 rfl) (c_done (n_then (c_block (c_loop (α := Nat) (fun (i : Nat) env_ w_ => Wr 5 T B g (s0 ++ catL (ss.take i)) w w_ ∧ i ≤ ss.length ∧ env_ 0 = .pointer (some ⟨g,0,none⟩) ∧ env_ 6 = .slice (some ⟨b,0,none⟩) ss.length ss.length ∧ env_ 7 = .int .i64 (ss.length : Int) ∧ env_ 8 = .int .i64 ((i : Nat) : Int)) (fun i => ss.length - i) (0) ⟨(Wr.cast (Wr.refl hb) (by simp [catL,app_nil])),Nat.zero_le _,rfl,rfl,rfl,rfl⟩ ?_))))))))
  rintro i env3 w1 ⟨x2,i4,e5,e6,e7,e8⟩
  have hlt_ : i < ss.length → (catL (ss.take i)).size + (ss.getD i ⟨#[]⟩).size ≤ (catL ss).size := fun h_ => catL_le ss i h_
  refine c_seq (c_reg (s_cmp (r := decide (((i : Nat) : Int) < (ss.length : Int))) (ej rfl e8) (ej rfl e7) rfl (w0 rfl) (c_done (n_then (c_seq ?_)))))
  by_cases h9 : ((i : Nat) : Int) < (ss.length : Int)
  · refine c_cond1 (vb (ej rfl rfl) (decide_eq_true h9)) (c_skip (n_then (c_seq (c_block (c_seq (c_reg (s_indexR (j := i) F_l106 (ej rfl e6) rfl (ej rfl e8) rfl (by omega) (w0 rfl) (s_load (v := .string (ss.getD i ⟨#[]⟩)) F_o9 (ej rfl rfl) (strs_cell (Wr.blk x2 hl (Or.inl (by decide)) hne_) (by omega)) (w0 rfl) (s_assign (v := .string (ss.getD i ⟨#[]⟩)) (ej rfl rfl) (w0 rfl) (c_done (n_then ?_)))))))))))
    refine c_reg (s_move (v := .pointer (some ⟨g,0,none⟩)) (ej rfl e5) (w0 rfl) (s_nilCheck (ej rfl rfl) (w0 rfl) (s_field (off := 0) (o' := 0) F_f97_0 (ej rfl rfl) rfl (w0 rfl) (s_move (v := .string (ss.getD i ⟨#[]⟩)) (ej rfl rfl) (w0 rfl) (s_call F_e97 (w0 rfl) ev_f (m2 (ej rfl rfl) (ej rfl rfl)) (args := #[.pointer (some ⟨g,0,none⟩),.string (ss.getD i ⟨#[]⟩)]) rfl (b_WriteString T _ g (s0 ++ catL (ss.take i)) (ss.getD i ⟨#[]⟩) _ (Wr.bw x2) (Nat.le_trans hB (Wr.size x2)) hlies (by simp only [ByteArray.size_append] at *; have := hlt_ (by omega); omega)) ?_)))))
    rintro _ w10 ⟨rfl,wr11⟩
    refine c_done (n_block (n_then (c_reg (s_add (r := ((i + 1 : Nat) : Int)) (ej rfl e8) ev_c (by omega) (by omega) (w0 rfl) (s_move (v := .int .i64 ((i + 1 : Nat) : Int)) (ej rfl rfl) (w0 rfl) (c_done ?_))))))
    exact ⟨(i + 1),_,rfl,⟨(Wr.cast (Wr.then_ x2 wr11) (by rw [catL_stepD ss i (by omega),app_assoc])),by omega,e5,e6,e7,rfl⟩,(show ss.length - (i + 1) < ss.length - i by omega)⟩
  refine c_cond0 (vb (ej rfl rfl) (decide_eq_false h9)) (c_exit (e_then (e_then (e_hit (ret0 rfl ?_)))))
  exact ⟨_,rfl,rfl,Wr.cast x2 (by rw [List.take_of_length_le (by omega)])⟩
end Go.Proofs.Zw

set_option linter.unusedVariables false
set_option linter.unusedSimpArgs false
set_option maxRecDepth 10000
namespace Go.Proofs.Zw
open Go Go.Wk Go.Proofs Go.Lib
attribute [local irreducible] Go.wpList Go.wpStill Go.wpQuiet Go.Code.wp Go.Calls
theorem F_e129 : enterable Tryz.prog 129 = true := by kernel_rfl
theorem F_e130 : enterable Tryz.prog 130 = true := by kernel_rfl
theorem F_e131 : enterable Tryz.prog 131 = true := by kernel_rfl
theorem F_e145 : enterable Tryz.prog 145 = true := by kernel_rfl
theorem F_e55 : enterable Tryz.prog 55 = true := by kernel_rfl
theorem F_lies95 : liesAt Tryz.prog Tryz.prog.depth 95 (2 / Tryz.prog.cellsOf 95) 0 95 1 = true := by kernel_rfl
theorem F_z95 : (Tryz.prog.info? 95).bind (·.zero) = some (.agg #[.pointer none,.slice none 0 0]) := by kernel_rfl
theorem v_quoted (s : ByteArray) (w : World) (hs : s.size ≤ 1000000) :
    Rt Tryz.prog 131 #[.string s] w fun v w' => v = .string (quotB s) ∧ Ext w w' := by
  refine enter Tryz.func131 rfl (l := [.string s]) rfl Tryz.ntmps131 (Nat.le_of_ble_eq_true rfl) ?_
  refine c_seq (c_reg (s_assign (v := .string (⟨#[]⟩ : ByteArray)) ev_c (w0 rfl) (c_done (n_then (c_seq (c_reg (s_alloc (cs := #[.pointer none,.slice none 0 0]) (w0 rfl) F_z95 rfl ?_)))))))
  intro w2 g1 n3
  have bw_ : BW 5 95 w.heap.size w2 g1 ⟨#[]⟩ := BW.new n3 rfl (by decide) (Keep.size (Ext.refl w))
  have hB_ := Keep.size (NewB.ext n3)
  refine c_done (n_then (c_seq (c_reg (s_call F_e145 (w0 rfl) ev_f (m2 (ej rfl rfl) ev_c) (args := #[.pointer (some ⟨g1,0,none⟩),.int .u8 34]) rfl (b_WriteByte 95 _ g1 ((⟨#[]⟩ : ByteArray)) 34 _ bw_ hB_ F_lies95 (by simp only [ByteArray.size_append,strL_size,z0,z1,z2,z3,z4,z5,z6]; omega)) ?_))))
  rintro _ w4 ⟨rfl,wr5⟩
  refine c_done (n_then (c_seq (c_seq (c_reg (s_move (v := .string s) (ej rfl rfl) (w0 rfl) (s_sbytesF F_us9 F_ul93 F_ui5 (ej rfl rfl) (w0 rfl) ?_))))))
  intro w8 g6 c7 sb9 x10
  have ne_g6 := SBf.ne sb9 (BW.ext (Wr.bw wr5) x10)
  refine s_lenL F_l93 (ej rfl rfl) (w0 rfl) (s_move (v := .int .i64 0) ev_c (w0 rfl) (c_done (n_then (c_block (c_loop (α := Nat) (fun (i : Nat) env_ w_ => Wr 5 95 w.heap.size g1 (strL (quotL s i)) w2 w_ ∧ i ≤ s.size ∧ SBf 5 w_ g6 s ∧ env_ 2 = .string (⟨#[]⟩ : ByteArray) ∧ env_ 3 = .pointer (some ⟨g1,0,none⟩) ∧ env_ 8 = .slice (some ⟨g6,0,none⟩) s.size c7 ∧ env_ 9 = .int .i64 (s.size : Int) ∧ env_ 10 = .int .i64 ((i : Nat) : Int)) (fun i => s.size - i) (0) ⟨(Wr.cast (Wr.ext wr5 x10 hB_) (by rw [nil_app]; rfl)),Nat.zero_le _,sb9,rfl,rfl,rfl,rfl,rfl⟩ ?_)))))
  rintro i env13 w11 ⟨x12,i14,i15,e16,e17,e18,e19,e20⟩
  have hq_ := quotL_le s i
  have hb_ := byteAt_lt s i
  refine c_seq (c_reg (s_cmp (r := decide (((i : Nat) : Int) < (s.size : Int))) (ej rfl e20) (ej rfl e19) rfl (w0 rfl) (c_done (n_then (c_seq ?_)))))
  by_cases h21 : ((i : Nat) : Int) < (s.size : Int)
  · refine c_cond1 (vb (ej rfl rfl) (decide_eq_true h21)) (c_skip (n_then (c_seq (c_block (c_seq (c_reg (s_indexR (j := i) F_l93 (ej rfl e18) rfl (ej rfl e20) rfl (by omega) (w0 rfl) (s_load (v := .int .u8 (byteAt s i : Int)) F_o5 (ej rfl rfl) (SBf.sb i15 i (by omega)) (w0 rfl) (s_assign (v := .int .u8 (byteAt s i : Int)) (ej rfl rfl) (w0 rfl) (c_done (n_then ?_)))))))))))
    refine c_block (c_seq (c_reg (s_move (v := .int .u8 (byteAt s i : Int)) (ej rfl rfl) (w0 rfl) (s_cmp (r := decide ((byteAt s i : Int) = 10)) (ej rfl rfl) ev_c rfl (w0 rfl) (s_assign (v := .bool (decide ((byteAt s i : Int) = 10))) (ej rfl rfl) (w0 rfl) (c_done (n_then ?_)))))))
    by_cases h22 : (byteAt s i : Int) = 10
    · refine c_cond1 (vb (ej rfl rfl) (decide_eq_true h22)) (c_reg (s_call F_e97 (w0 rfl) ev_f (m2 (ej rfl e17) ev_c) (args := #[.pointer (some ⟨g1,0,none⟩),.string (⟨#[92,110]⟩ : ByteArray)]) rfl (b_WriteString 95 _ g1 (strL (quotL s i)) (⟨#[92,110]⟩ : ByteArray) _ (Wr.bw x12) (Nat.le_trans hB_ (Wr.size x12)) F_lies95 (by simp only [ByteArray.size_append,strL_size,z0,z1,z2,z3,z4,z5,z6]; omega)) ?_))
      rintro _ w23 ⟨rfl,wr24⟩
      refine c_done (n_block (n_block (n_then (c_reg (s_add (r := ((i + 1 : Nat) : Int)) (ej rfl e20) ev_c (by omega) (by omega) (w0 rfl) (s_move (v := .int .i64 ((i + 1 : Nat) : Int)) (ej rfl rfl) (w0 rfl) (c_done ?_)))))))
      exact ⟨(i + 1),_,rfl,⟨(Wr.cast (Wr.then_ x12 wr24) (by simp only [app1,app2]; rw [quotL_step s i (by omega) (l := [92,110]) (by unfold encB; have e_ : (s.data.getD i 0).toNat = byteAt s i := rfl; rw [e_]; (repeat' split) <;> first | rfl | omega | (exfalso; omega))]; try simp)),by omega,(SBf.wr i15 wr24 ne_g6),e16,e17,e18,e19,rfl⟩,(show s.size - (i + 1) < s.size - i by omega)⟩
    refine c_cond0 (vb (ej rfl rfl) (decide_eq_false h22)) (c_seq (c_seq (c_reg (s_move (v := .int .u8 (byteAt s i : Int)) (ej rfl rfl) (w0 rfl) (s_cmp (r := decide ((byteAt s i : Int) = 34)) (ej rfl rfl) ev_c rfl (w0 rfl) (s_assign (v := .bool (decide ((byteAt s i : Int) = 34))) (ej rfl rfl) (w0 rfl) (c_done (n_then ?_))))))))
    by_cases h25 : (byteAt s i : Int) = 34
    · refine c_cond1 (vb (ej rfl rfl) (decide_eq_true h25)) (c_skip (n_then (c_cond1 (vb (ej rfl rfl) (decide_eq_true h25)) (c_seq (c_reg (s_call F_e145 (w0 rfl) ev_f (m2 (ej rfl e17) ev_c) (args := #[.pointer (some ⟨g1,0,none⟩),.int .u8 92]) rfl (b_WriteByte 95 _ g1 (strL (quotL s i)) 92 _ (Wr.bw x12) (Nat.le_trans hB_ (Wr.size x12)) F_lies95 (by simp only [ByteArray.size_append,strL_size,z0,z1,z2,z3,z4,z5,z6]; omega)) ?_))))))
      rintro _ w26 ⟨rfl,wr27⟩
      refine c_done (n_then (c_reg (s_move (v := .int .u8 (byteAt s i : Int)) (ej rfl rfl) (w0 rfl) (s_call F_e145 (w0 rfl) ev_f (m2 (ej rfl e17) (ej rfl rfl)) (args := #[.pointer (some ⟨g1,0,none⟩),.int .u8 (byteAt s i : Int)]) rfl (b_WriteByte 95 _ g1 (strL (quotL s i) ++ (⟨#[92]⟩ : ByteArray)) (s.data.getD i 0) _ (Wr.bw wr27) (Nat.le_trans (Nat.le_trans hB_ (Wr.size x12)) (Wr.size wr27)) F_lies95 (by simp only [ByteArray.size_append,strL_size,z0,z1,z2,z3,z4,z5,z6]; omega)) ?_))))
      rintro _ w28 ⟨rfl,wr29⟩
      refine c_done (n_block (n_block (n_then (c_reg (s_add (r := ((i + 1 : Nat) : Int)) (ej rfl e20) ev_c (by omega) (by omega) (w0 rfl) (s_move (v := .int .i64 ((i + 1 : Nat) : Int)) (ej rfl rfl) (w0 rfl) (c_done ?_)))))))
      exact ⟨(i + 1),_,rfl,⟨(Wr.cast (Wr.then_ (Wr.then_ x12 wr27) wr29) (by simp only [app1,app2]; rw [quotL_step s i (by omega) (l := [92,(s.data.getD i 0)]) (by unfold encB; have e_ : (s.data.getD i 0).toNat = byteAt s i := rfl; rw [e_]; (repeat' split) <;> first | rfl | omega | (exfalso; omega))]; try simp)),by omega,(SBf.wr (SBf.wr i15 wr27 ne_g6) wr29 ne_g6),e16,e17,e18,e19,rfl⟩,(show s.size - (i + 1) < s.size - i by omega)⟩
    refine c_cond0 (vb (ej rfl rfl) (decide_eq_false h25)) (c_reg (s_move (v := .int .u8 (byteAt s i : Int)) (ej rfl rfl) (w0 rfl) (s_cmp (r := decide ((byteAt s i : Int) = 92)) (ej rfl rfl) ev_c rfl (w0 rfl) (s_assign (v := .bool (decide ((byteAt s i : Int) = 92))) (ej rfl rfl) (w0 rfl) (c_done (n_then ?_))))))
    by_cases h30 : (byteAt s i : Int) = 92
    · refine c_cond1 (vb (ej rfl rfl) (decide_eq_true h30)) (c_seq (c_reg (s_call F_e145 (w0 rfl) ev_f (m2 (ej rfl e17) ev_c) (args := #[.pointer (some ⟨g1,0,none⟩),.int .u8 92]) rfl (b_WriteByte 95 _ g1 (strL (quotL s i)) 92 _ (Wr.bw x12) (Nat.le_trans hB_ (Wr.size x12)) F_lies95 (by simp only [ByteArray.size_append,strL_size,z0,z1,z2,z3,z4,z5,z6]; omega)) ?_)))
      rintro _ w31 ⟨rfl,wr32⟩
      refine c_done (n_then (c_reg (s_move (v := .int .u8 (byteAt s i : Int)) (ej rfl rfl) (w0 rfl) (s_call F_e145 (w0 rfl) ev_f (m2 (ej rfl e17) (ej rfl rfl)) (args := #[.pointer (some ⟨g1,0,none⟩),.int .u8 (byteAt s i : Int)]) rfl (b_WriteByte 95 _ g1 (strL (quotL s i) ++ (⟨#[92]⟩ : ByteArray)) (s.data.getD i 0) _ (Wr.bw wr32) (Nat.le_trans (Nat.le_trans hB_ (Wr.size x12)) (Wr.size wr32)) F_lies95 (by simp only [ByteArray.size_append,strL_size,z0,z1,z2,z3,z4,z5,z6]; omega)) ?_))))
      rintro _ w33 ⟨rfl,wr34⟩
      refine c_done (n_block (n_block (n_then (c_reg (s_add (r := ((i + 1 : Nat) : Int)) (ej rfl e20) ev_c (by omega) (by omega) (w0 rfl) (s_move (v := .int .i64 ((i + 1 : Nat) : Int)) (ej rfl rfl) (w0 rfl) (c_done ?_)))))))
      exact ⟨(i + 1),_,rfl,⟨(Wr.cast (Wr.then_ (Wr.then_ x12 wr32) wr34) (by simp only [app1,app2]; rw [quotL_step s i (by omega) (l := [92,(s.data.getD i 0)]) (by unfold encB; have e_ : (s.data.getD i 0).toNat = byteAt s i := rfl; rw [e_]; (repeat' split) <;> first | rfl | omega | (exfalso; omega))]; try simp)),by omega,(SBf.wr (SBf.wr i15 wr32 ne_g6) wr34 ne_g6),e16,e17,e18,e19,rfl⟩,(show s.size - (i + 1) < s.size - i by omega)⟩
    refine c_cond0 (vb (ej rfl rfl) (decide_eq_false h30)) (c_seq (c_reg (s_move (v := .int .u8 (byteAt s i : Int)) (ej rfl rfl) (w0 rfl) (s_cmp (r := decide ((byteAt s i : Int) < 32)) (ej rfl rfl) ev_c rfl (w0 rfl) ?_))))
    by_cases h35 : (byteAt s i : Int) < 32
    · refine s_move (v := .bool true) (vb (ej rfl rfl) (decide_eq_true h35)) (w0 rfl) (s_skip (wn rfl rfl rfl rfl rfl) (s_skip (wn rfl rfl rfl rfl rfl) (s_pick1 (v := .bool true) (ej rfl rfl) ev_c (w0 rfl) (s_assign (v := .bool true) (ej rfl rfl) (w0 rfl) (c_done (n_then (c_cond1 (ej rfl rfl) (c_seq (c_reg (s_call F_e97 (w0 rfl) ev_f (m2 (ej rfl e17) ev_c) (args := #[.pointer (some ⟨g1,0,none⟩),.string (⟨#[92,120]⟩ : ByteArray)]) rfl (b_WriteString 95 _ g1 (strL (quotL s i)) (⟨#[92,120]⟩ : ByteArray) _ (Wr.bw x12) (Nat.le_trans hB_ (Wr.size x12)) F_lies95 (by simp only [ByteArray.size_append,strL_size,z0,z1,z2,z3,z4,z5,z6]; omega)) ?_))))))))))
      rintro _ w36 ⟨rfl,wr37⟩
      refine c_done (n_then (c_seq (c_reg (s_move (v := .int .u8 (byteAt s i : Int)) (ej rfl rfl) (w0 rfl) (s_shr4 (m := byteAt s i) (ej rfl rfl) ev_c (by omega) (w0 rfl) (s_byte (j := (byteAt s i) / 16) F_us9 ev_c (ej rfl rfl) rfl (Nat.lt_of_lt_of_le (show (byteAt s i) / 16 < 16 by omega) (by decide)) (w0 rfl) (s_call F_e145 (w0 rfl) ev_f (m2 (ej rfl e17) (ej rfl rfl)) (args := #[.pointer (some ⟨g1,0,none⟩),.int .u8 (byteAt (⟨#[48,49,50,51,52,53,54,55,56,57,97,98,99,100,101,102]⟩ : ByteArray) ((byteAt s i) / 16) : Int)]) rfl (b_WriteByte 95 _ g1 (strL (quotL s i) ++ (⟨#[92,120]⟩ : ByteArray)) ((⟨#[48,49,50,51,52,53,54,55,56,57,97,98,99,100,101,102]⟩ : ByteArray).data.getD ((byteAt s i) / 16) 0) _ (Wr.bw wr37) (Nat.le_trans (Nat.le_trans hB_ (Wr.size x12)) (Wr.size wr37)) F_lies95 (by simp only [ByteArray.size_append,strL_size,z0,z1,z2,z3,z4,z5,z6]; omega)) ?_)))))))
      rintro _ w38 ⟨rfl,wr39⟩
      refine c_done (n_then (c_reg (s_move (v := .int .u8 (byteAt s i : Int)) (ej rfl rfl) (w0 rfl) (s_and15 (m := byteAt s i) (ej rfl rfl) ev_c (by omega) (w0 rfl) (s_byte (j := (byteAt s i) % 16) F_us9 ev_c (ej rfl rfl) rfl (Nat.lt_of_lt_of_le (show (byteAt s i) % 16 < 16 by omega) (by decide)) (w0 rfl) (s_call F_e145 (w0 rfl) ev_f (m2 (ej rfl e17) (ej rfl rfl)) (args := #[.pointer (some ⟨g1,0,none⟩),.int .u8 (byteAt (⟨#[48,49,50,51,52,53,54,55,56,57,97,98,99,100,101,102]⟩ : ByteArray) ((byteAt s i) % 16) : Int)]) rfl (b_WriteByte 95 _ g1 (strL (quotL s i) ++ (⟨#[92,120]⟩ : ByteArray) ++ (⟨#[((⟨#[48,49,50,51,52,53,54,55,56,57,97,98,99,100,101,102]⟩ : ByteArray).data.getD ((byteAt s i) / 16) 0)]⟩ : ByteArray)) ((⟨#[48,49,50,51,52,53,54,55,56,57,97,98,99,100,101,102]⟩ : ByteArray).data.getD ((byteAt s i) % 16) 0) _ (Wr.bw wr39) (Nat.le_trans (Nat.le_trans (Nat.le_trans hB_ (Wr.size x12)) (Wr.size wr37)) (Wr.size wr39)) F_lies95 (by simp only [ByteArray.size_append,strL_size,z0,z1,z2,z3,z4,z5,z6]; omega)) ?_))))))
      rintro _ w40 ⟨rfl,wr41⟩
      refine c_done (n_block (n_block (n_then (c_reg (s_add (r := ((i + 1 : Nat) : Int)) (ej rfl e20) ev_c (by omega) (by omega) (w0 rfl) (s_move (v := .int .i64 ((i + 1 : Nat) : Int)) (ej rfl rfl) (w0 rfl) (c_done ?_)))))))
      exact ⟨(i + 1),_,rfl,⟨(Wr.cast (Wr.then_ (Wr.then_ (Wr.then_ x12 wr37) wr39) wr41) (by simp only [app1,app2]; rw [quotL_step s i (by omega) (l := [92,120,((⟨#[48,49,50,51,52,53,54,55,56,57,97,98,99,100,101,102]⟩ : ByteArray).data.getD ((byteAt s i) / 16) 0),((⟨#[48,49,50,51,52,53,54,55,56,57,97,98,99,100,101,102]⟩ : ByteArray).data.getD ((byteAt s i) % 16) 0)]) (by unfold encB; have e_ : (s.data.getD i 0).toNat = byteAt s i := rfl; rw [e_]; (repeat' split) <;> first | rfl | omega | (exfalso; omega))]; try simp)),by omega,(SBf.wr (SBf.wr (SBf.wr i15 wr37 ne_g6) wr39 ne_g6) wr41 ne_g6),e16,e17,e18,e19,rfl⟩,(show s.size - (i + 1) < s.size - i by omega)⟩
    refine s_move (v := .bool false) (vb (ej rfl rfl) (decide_eq_false h35)) (w0 rfl) (s_move (v := .int .u8 (byteAt s i : Int)) (ej rfl rfl) (wy rfl rfl rfl rfl) (s_cmp (r := decide (126 < (byteAt s i : Int))) (ej rfl rfl) ev_c rfl (wy rfl rfl rfl rfl) (s_pick0 (v := .bool (decide (126 < (byteAt s i : Int)))) (ej rfl rfl) (ej rfl rfl) (w0 rfl) (s_assign (v := .bool (decide (126 < (byteAt s i : Int)))) (ej rfl rfl) (w0 rfl) (c_done (n_then ?_))))))
    by_cases h42 : 126 < (byteAt s i : Int)
    · refine c_cond1 (vb (ej rfl rfl) (decide_eq_true h42)) (c_seq (c_reg (s_call F_e97 (w0 rfl) ev_f (m2 (ej rfl e17) ev_c) (args := #[.pointer (some ⟨g1,0,none⟩),.string (⟨#[92,120]⟩ : ByteArray)]) rfl (b_WriteString 95 _ g1 (strL (quotL s i)) (⟨#[92,120]⟩ : ByteArray) _ (Wr.bw x12) (Nat.le_trans hB_ (Wr.size x12)) F_lies95 (by simp only [ByteArray.size_append,strL_size,z0,z1,z2,z3,z4,z5,z6]; omega)) ?_)))
      rintro _ w43 ⟨rfl,wr44⟩
      refine c_done (n_then (c_seq (c_reg (s_move (v := .int .u8 (byteAt s i : Int)) (ej rfl rfl) (w0 rfl) (s_shr4 (m := byteAt s i) (ej rfl rfl) ev_c (by omega) (w0 rfl) (s_byte (j := (byteAt s i) / 16) F_us9 ev_c (ej rfl rfl) rfl (Nat.lt_of_lt_of_le (show (byteAt s i) / 16 < 16 by omega) (by decide)) (w0 rfl) (s_call F_e145 (w0 rfl) ev_f (m2 (ej rfl e17) (ej rfl rfl)) (args := #[.pointer (some ⟨g1,0,none⟩),.int .u8 (byteAt (⟨#[48,49,50,51,52,53,54,55,56,57,97,98,99,100,101,102]⟩ : ByteArray) ((byteAt s i) / 16) : Int)]) rfl (b_WriteByte 95 _ g1 (strL (quotL s i) ++ (⟨#[92,120]⟩ : ByteArray)) ((⟨#[48,49,50,51,52,53,54,55,56,57,97,98,99,100,101,102]⟩ : ByteArray).data.getD ((byteAt s i) / 16) 0) _ (Wr.bw wr44) (Nat.le_trans (Nat.le_trans hB_ (Wr.size x12)) (Wr.size wr44)) F_lies95 (by simp only [ByteArray.size_append,strL_size,z0,z1,z2,z3,z4,z5,z6]; omega)) ?_)))))))
      rintro _ w45 ⟨rfl,wr46⟩
      refine c_done (n_then (c_reg (s_move (v := .int .u8 (byteAt s i : Int)) (ej rfl rfl) (w0 rfl) (s_and15 (m := byteAt s i) (ej rfl rfl) ev_c (by omega) (w0 rfl) (s_byte (j := (byteAt s i) % 16) F_us9 ev_c (ej rfl rfl) rfl (Nat.lt_of_lt_of_le (show (byteAt s i) % 16 < 16 by omega) (by decide)) (w0 rfl) (s_call F_e145 (w0 rfl) ev_f (m2 (ej rfl e17) (ej rfl rfl)) (args := #[.pointer (some ⟨g1,0,none⟩),.int .u8 (byteAt (⟨#[48,49,50,51,52,53,54,55,56,57,97,98,99,100,101,102]⟩ : ByteArray) ((byteAt s i) % 16) : Int)]) rfl (b_WriteByte 95 _ g1 (strL (quotL s i) ++ (⟨#[92,120]⟩ : ByteArray) ++ (⟨#[((⟨#[48,49,50,51,52,53,54,55,56,57,97,98,99,100,101,102]⟩ : ByteArray).data.getD ((byteAt s i) / 16) 0)]⟩ : ByteArray)) ((⟨#[48,49,50,51,52,53,54,55,56,57,97,98,99,100,101,102]⟩ : ByteArray).data.getD ((byteAt s i) % 16) 0) _ (Wr.bw wr46) (Nat.le_trans (Nat.le_trans (Nat.le_trans hB_ (Wr.size x12)) (Wr.size wr44)) (Wr.size wr46)) F_lies95 (by simp only [ByteArray.size_append,strL_size,z0,z1,z2,z3,z4,z5,z6]; omega)) ?_))))))
      rintro _ w47 ⟨rfl,wr48⟩
      refine c_done (n_block (n_block (n_then (c_reg (s_add (r := ((i + 1 : Nat) : Int)) (ej rfl e20) ev_c (by omega) (by omega) (w0 rfl) (s_move (v := .int .i64 ((i + 1 : Nat) : Int)) (ej rfl rfl) (w0 rfl) (c_done ?_)))))))
      exact ⟨(i + 1),_,rfl,⟨(Wr.cast (Wr.then_ (Wr.then_ (Wr.then_ x12 wr44) wr46) wr48) (by simp only [app1,app2]; rw [quotL_step s i (by omega) (l := [92,120,((⟨#[48,49,50,51,52,53,54,55,56,57,97,98,99,100,101,102]⟩ : ByteArray).data.getD ((byteAt s i) / 16) 0),((⟨#[48,49,50,51,52,53,54,55,56,57,97,98,99,100,101,102]⟩ : ByteArray).data.getD ((byteAt s i) % 16) 0)]) (by unfold encB; have e_ : (s.data.getD i 0).toNat = byteAt s i := rfl; rw [e_]; (repeat' split) <;> first | rfl | omega | (exfalso; omega))]; try simp)),by omega,(SBf.wr (SBf.wr (SBf.wr i15 wr44 ne_g6) wr46 ne_g6) wr48 ne_g6),e16,e17,e18,e19,rfl⟩,(show s.size - (i + 1) < s.size - i by omega)⟩
    refine c_cond0 (vb (ej rfl rfl) (decide_eq_false h42)) (c_reg (s_move (v := .int .u8 (byteAt s i : Int)) (ej rfl rfl) (w0 rfl) (s_call F_e145 (w0 rfl) ev_f (m2 (ej rfl e17) (ej rfl rfl)) (args := #[.pointer (some ⟨g1,0,none⟩),.int .u8 (byteAt s i : Int)]) rfl (b_WriteByte 95 _ g1 (strL (quotL s i)) (s.data.getD i 0) _ (Wr.bw x12) (Nat.le_trans hB_ (Wr.size x12)) F_lies95 (by simp only [ByteArray.size_append,strL_size,z0,z1,z2,z3,z4,z5,z6]; omega)) ?_)))
    rintro _ w49 ⟨rfl,wr50⟩
    refine c_done (n_block (n_block (n_then (c_reg (s_add (r := ((i + 1 : Nat) : Int)) (ej rfl e20) ev_c (by omega) (by omega) (w0 rfl) (s_move (v := .int .i64 ((i + 1 : Nat) : Int)) (ej rfl rfl) (w0 rfl) (c_done ?_)))))))
    exact ⟨(i + 1),_,rfl,⟨(Wr.cast (Wr.then_ x12 wr50) (by simp only [app1,app2]; rw [quotL_step s i (by omega) (l := [(s.data.getD i 0)]) (by unfold encB; have e_ : (s.data.getD i 0).toNat = byteAt s i := rfl; rw [e_]; (repeat' split) <;> first | rfl | omega | (exfalso; omega))]; try simp)),by omega,(SBf.wr i15 wr50 ne_g6),e16,e17,e18,e19,rfl⟩,(show s.size - (i + 1) < s.size - i by omega)⟩
  refine c_cond0 (vb (ej rfl rfl) (decide_eq_false h21)) (c_exit (e_then (e_then (e_hit (n_then (c_seq (c_reg (s_call F_e145 (w0 rfl) ev_f (m2 (ej rfl e17) ev_c) (args := #[.pointer (some ⟨g1,0,none⟩),.int .u8 34]) rfl (b_WriteByte 95 _ g1 (strL (quotL s i)) 34 _ (Wr.bw x12) (Nat.le_trans hB_ (Wr.size x12)) F_lies95 (by simp only [ByteArray.size_append,strL_size,z0,z1,z2,z3,z4,z5,z6]; omega)) ?_))))))))
  rintro _ w51 ⟨rfl,wr52⟩
  refine c_done (n_then (c_seq (c_reg (s_call F_e55 (w0 rfl) ev_f (m1 (ej rfl e17)) (args := #[.pointer (some ⟨g1,0,none⟩)]) rfl (b_String 95 _ g1 (strL (quotL s i) ++ (⟨#[34]⟩ : ByteArray)) _ (Wr.bw wr52) (Nat.le_trans (Nat.le_trans hB_ (Wr.size x12)) (Wr.size wr52)) (by simp only [ByteArray.size_append,z1]; omega)) ?_))))
  rintro _ w53 ⟨rfl,bl54⟩
  refine s_assign (v := .string (strL (quotL s i) ++ (⟨#[34]⟩ : ByteArray))) (ej rfl rfl) (w0 rfl) (c_done (n_then (c_ret (ret1 (v := .string (strL (quotL s i) ++ (⟨#[34]⟩ : ByteArray))) rfl rfl rfl ?_))))
  refine ⟨_,rfl,?_,(ext_bel (Wr.after wr52 (Wr.after x12 (NewB.ext n3) rfl) rfl) bl54)⟩
  (have e_ : i = s.size := by omega); subst e_; exact congrArg Value.string (quotB_eq s)
theorem v_FormatInt (n : Int) (w : World) (tb : Tabs Tryz.prog w) (h : -9223372036854775808 ≤ n ∧ n ≤ 9223372036854775807) : Rt Tryz.prog 129 #[.int .i64 n,.int .i64 10] w fun v w' => v = .string (itoaB n) ∧ Ext w w' := by
  refine Calls.mono (Tryz.strconv_FormatInt_10 n h.1 h.2 w tb.pow) ?_
  rintro e w' ⟨rfl,k,os,h⟩
  exact ⟨_,rfl,rfl,ext_grow h⟩
theorem v_Show (x : Vl) (w : World) (hx : x.wf) (tb : Tabs Tryz.prog w) :
    Rt Tryz.prog 106 #[.agg #[.int .i8 x.k,.int .i64 x.n,.string x.s]] w fun v w' => v = .tuple #[.string (if okV x then showB x else ⟨#[]⟩),.int .i64 (if okV x then 0 else 10 : Int)] ∧ Ext w w' := by
  refine enter Tryz.func106 rfl (l := [.agg #[.int .i8 x.k,.int .i64 x.n,.string x.s]]) rfl Tryz.ntmps106 (Nat.le_of_ble_eq_true rfl) ?_
  refine c_seq (c_reg (s_box (v := .agg #[.int .i8 x.k,.int .i64 x.n,.string x.s]) (cs := #[.int .i8 x.k,.int .i64 x.n,.string x.s]) (w0 rfl) (ej rfl rfl) rfl ?_))
  intro w2 g1 n3
  refine s_assign (v := .string (⟨#[]⟩ : ByteArray)) ev_c (w0 rfl) (s_assign (v := .int .i64 0) ev_c (w0 rfl) (c_done (n_then (c_seq (c_seq (c_reg (s_loadL (cs := [.int .i8 x.k,.int .i64 x.n,.string x.s]) F_m31 (ej rfl rfl) rfl rfl (blk_cells (NewB.blk n3) 0 rfl) (w0 rfl) (s_call F_e105 (w0 rfl) ev_f (m1 (ej rfl rfl)) (args := #[.agg #[.int .i8 x.k,.int .i64 x.n,.string x.s]]) rfl (v_Check x _) ?_))))))))
  rintro _ w5 ⟨rfl,x4⟩
  refine s_assign (v := .int .i64 (if okV x then 0 else 10 : Int)) (ej rfl rfl) (w0 rfl) (c_done (n_then (c_seq (c_reg (s_move (v := .int .i64 (if okV x then 0 else 10 : Int)) (ej rfl rfl) (w0 rfl) (s_cmp (r := !(okV x)) (ej rfl rfl) ev_c (ci_tn (b := (okV x)) (by decide)) (w0 rfl) (c_done (n_then ?_))))))))
  rcases Bool.eq_false_or_eq_true (okV x) with h6 | h6
  · refine c_cond0 (vb (ej rfl rfl) (nbt h6)) (c_skip (n_then (c_seq (c_seq (c_reg (s_field (off := 0) (o' := 0) F_f31_0 (ej rfl rfl) rfl (w0 rfl) (s_load (v := .int .i8 x.k) F_o29 (ej rfl rfl) (cell_of_blk (i := 0) (Ext.blk x4 (NewB.blk n3)) rfl) (w0 rfl) (s_cmp (r := decide (x.k = 1)) (ej rfl rfl) ev_c rfl (w0 rfl) (c_done (n_then ?_))))))))))
    by_cases h7 : x.k = 1
    · refine c_cond1 (vb (ej rfl rfl) (decide_eq_true h7)) (c_seq (c_reg (s_field (off := 1) (o' := 1) F_f31_1 (ej rfl rfl) rfl (w0 rfl) (s_load (v := .int .i64 x.n) F_o2 (ej rfl rfl) (cell_of_blk (i := 1) (Ext.blk x4 (NewB.blk n3)) rfl) (w0 rfl) (s_call F_e129 (w0 rfl) ev_f (m2 (ej rfl rfl) ev_c) (args := #[.int .i64 x.n,.int .i64 10]) rfl (v_FormatInt x.n _ (Tabs.ext tb (Ext.trans (NewB.ext n3) x4)) (Vl.wf.n hx)) ?_)))))
      rintro _ w9 ⟨rfl,x8⟩
      refine s_assign (v := .string (itoaB x.n)) (ej rfl rfl) (w0 rfl) (s_assign (v := .int .i64 0) ev_c (w0 rfl) (c_done (n_then (c_ret (r_then (ret2 (v := .string (itoaB x.n)) (v2 := .int .i64 0) rfl rfl rfl rfl rfl ?_))))))
      refine ⟨_,rfl,?_,(Ext.trans (Ext.trans (NewB.ext n3) x4) x8)⟩
      (simp [showB, *])
    refine c_cond0 (vb (ej rfl rfl) (decide_eq_false h7)) (c_skip (n_then (c_seq (c_seq (c_reg (s_field (off := 2) (o' := 2) F_f31_2 (ej rfl rfl) rfl (w0 rfl) (s_load (v := .string x.s) F_o9 (ej rfl rfl) (cell_of_blk (i := 2) (Ext.blk x4 (NewB.blk n3)) rfl) (w0 rfl) (s_call F_e130 (w0 rfl) ev_f (m1 (ej rfl rfl)) (args := #[.string x.s]) rfl (v_name x.s _ (Vl.wf.s hx)) ?_))))))))
    rintro _ w11 ⟨rfl,x10⟩
    refine c_done (n_then ?_)
    rcases Bool.eq_false_or_eq_true (nameB x.s) with h12 | h12
    · refine c_cond1 (vb (ej rfl rfl) h12) (c_seq (c_reg (s_field (off := 2) (o' := 2) F_f31_2 (ej rfl rfl) rfl (w0 rfl) (s_load (v := .string x.s) F_o9 (ej rfl rfl) (cell_of_blk (i := 2) (Ext.blk x10 (Ext.blk x4 (NewB.blk n3))) rfl) (w0 rfl) (s_assign (v := .string x.s) (ej rfl rfl) (w0 rfl) (s_assign (v := .int .i64 0) ev_c (w0 rfl) (c_done (n_then (c_ret (r_then (ret2 (v := .string x.s) (v2 := .int .i64 0) rfl rfl rfl rfl rfl ?_)))))))))))
      refine ⟨_,rfl,?_,(Ext.trans (Ext.trans (NewB.ext n3) x4) x10)⟩
      (simp [showB, *])
    refine c_cond0 (vb (ej rfl rfl) h12) (c_skip (n_then (c_seq (c_reg (s_field (off := 2) (o' := 2) F_f31_2 (ej rfl rfl) rfl (w0 rfl) (s_load (v := .string x.s) F_o9 (ej rfl rfl) (cell_of_blk (i := 2) (Ext.blk x10 (Ext.blk x4 (NewB.blk n3))) rfl) (w0 rfl) (s_call F_e131 (w0 rfl) ev_f (m1 (ej rfl rfl)) (args := #[.string x.s]) rfl (v_quoted x.s _ (by have z_ := okV_s (x := x) (by assumption); omega)) ?_)))))))
    rintro _ w14 ⟨rfl,x13⟩
    refine s_assign (v := .string (quotB x.s)) (ej rfl rfl) (w0 rfl) (s_assign (v := .int .i64 0) ev_c (w0 rfl) (c_done (n_then (c_ret (ret2 (v := .string (quotB x.s)) (v2 := .int .i64 0) rfl rfl rfl rfl rfl ?_)))))
    refine ⟨_,rfl,?_,(Ext.trans (Ext.trans (Ext.trans (NewB.ext n3) x4) x10) x13)⟩
    (simp [showB, *])
  refine c_cond1 (vb (ej rfl rfl) (nbf h6)) (c_seq (c_reg (s_move (v := .int .i64 (if okV x then 0 else 10 : Int)) (ej rfl rfl) (w0 rfl) (s_assign (v := .string (⟨#[]⟩ : ByteArray)) ev_c (w0 rfl) (s_assign (v := .int .i64 (if okV x then 0 else 10 : Int)) (ej rfl rfl) (w0 rfl) (c_done (n_then (c_ret (r_then (ret2 (v := .string (⟨#[]⟩ : ByteArray)) (v2 := .int .i64 (if okV x then 0 else 10 : Int)) rfl rfl rfl rfl rfl ?_))))))))))
  refine ⟨_,rfl,?_,(Ext.trans (NewB.ext n3) x4)⟩
  (simp [showB, *])
end Go.Proofs.Zw
