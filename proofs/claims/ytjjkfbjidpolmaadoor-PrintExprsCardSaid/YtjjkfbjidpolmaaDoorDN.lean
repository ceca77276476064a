/- YtjjkfbjidpolmaaDoorDN: part of the proof of this seat, by an AI agent: walks of the functions that the law reaches. No condition of its own but those that its theorems state. -/
import Derived.Test.YtjjkfbjidpolmaaDoorDM
import Derived.Test.YtjjkfbjidpolmaaDoorWkV
set_option linter.unusedVariables false
set_option linter.unusedSimpArgs false
set_option maxRecDepth 10000
namespace Go.Proofs.Dw
open Go Go.Wk Go.Proofs Go.Lib
attribute [local irreducible] Go.wpList Go.wpStill Go.wpQuiet Go.Code.wp Go.Calls
theorem F_e101 : enterable Tryd.prog 101 = true := by kernel_rfl
theorem F_e73 : enterable Tryd.prog 73 = true := by kernel_rfl
theorem bd28_0s : ∀ (a0 : ByteArray), ∀ w : World, (Instr.build 28 [(0, .string a0)].toArray).run Tryd.prog w = .ok (.agg #[.string a0, .int .i8 0, .int .i64 0, .string (⟨#[]⟩ : ByteArray)]) w := by
  intros
  kernel_rfl
theorem bd31_0ii8_1s_1ii8_1ii64_1s : ∀ (a0 : Int) (a1 : ByteArray) (a2 : Int) (a3 : Int) (a4 : ByteArray), ∀ w : World, (Instr.build 31 [(0, .int .i8 a0), (1, .agg #[.string a1, .int .i8 a2, .int .i64 a3, .string a4])].toArray).run Tryd.prog w = .ok (.agg #[.int .i8 a0, .string a1, .int .i8 a2, .int .i64 a3, .string a4, .slice none 0 0]) w := by
  intros
  kernel_rfl
theorem eqs28 (a0 : ByteArray) (a1 : Int) (a2 : Int) (a3 : ByteArray) (a b : Operand) (w : World) : (do eqGuard .eql 28 a b (.agg #[.string a0, .int .i8 a1, .int .i64 a2, .string a3]) (.agg #[.string a0, .int .i8 a1, .int .i64 a2, .string a3]); binOp .eql 28 (.agg #[.string a0, .int .i8 a1, .int .i64 a2, .string a3]) (.agg #[.string a0, .int .i8 a1, .int .i64 a2, .string a3]) : Sem Value).run Tryd.prog w = .ok (.bool true) w := by
  have hu := Tryd.underlying28
  go_simp
theorem v_Itoa (n : Int) (w : World) (tb : Tabs Tryd.prog w) (h : -9223372036854775808 ≤ n ∧ n ≤ 9223372036854775807) : Rt Tryd.prog 101 #[.int .i64 n] w fun v w' => v = .string (itoaB n) ∧ Ext w w' := by
  refine Calls.mono (Tryd.strconv_Itoa n h.1 h.2 w tb.pow) ?_
  rintro e w' ⟨rfl, k, os, h⟩
  exact ⟨_, rfl, rfl, ext_grow h⟩
set_option maxHeartbeats 4000000 in
theorem l_word (n : Int) (w : World) (tb : Tabs Tryd.prog w) (hn : 0 ≤ n ∧ n ≤ 1000000) :
    Rt Tryd.prog 73 #[.int .i64 n] w fun v w' => v = .string ((⟨#[35]⟩ : ByteArray) ++ itoaB n) ∧ Ext w w' := by
  refine enter Tryd.func73 rfl (l := [.int .i64 n]) rfl Tryd.ntmps73 (Nat.le_of_ble_eq_true rfl) ?_
  refine c_seq ?_
  refine c_reg ?_
  refine s_assign (v := .string (⟨#[]⟩ : ByteArray)) ev_c (w0 rfl) ?_
  refine c_done ?_
  refine n_then ?_
  refine c_seq ?_
  refine c_reg ?_
  refine s_move (v := .int .i64 n) (ev_t rfl rfl) (w0 rfl) ?_
  refine s_call F_e101 (w0 rfl) ev_f (m1 (ev_t rfl rfl)) (args := #[.int .i64 n]) rfl (v_Itoa n _ (Tabs.ext tb (Ext.refl w)) (by omega)) ?_
  rintro _ w2 ⟨rfl, x1⟩
  refine s_cat ev_c (ev_t rfl rfl) (by have z_ := itoaB_size (n := n) (by omega); simp only [z1]; omega) (w0 rfl) ?_
  refine s_assign (v := .string ((⟨#[35]⟩ : ByteArray) ++ (itoaB n))) (ev_t rfl rfl) (w0 rfl) ?_
  refine c_done ?_
  refine n_then ?_
  refine c_ret ?_
  refine ret1 (v := .string ((⟨#[35]⟩ : ByteArray) ++ (itoaB n))) rfl rfl rfl ?_
  refine ⟨_, rfl, ?_, x1⟩
  rfl
set_option maxHeartbeats 4000000 in
theorem l_markExpr (n : Int) (w : World) (tb : Tabs Tryd.prog w) (hn : 0 ≤ n ∧ n ≤ 1000000) :
    Rt Tryd.prog 42 #[.int .i64 n] w fun v w' => v = .agg #[.int .i8 99, .string ((⟨#[35]⟩ : ByteArray) ++ itoaB n), .int .i8 0, .int .i64 0, .string (⟨#[]⟩ : ByteArray), .slice none 0 0] ∧ Ext w w' := by
  refine enter Tryd.func42 rfl (l := [.int .i64 n]) rfl Tryd.ntmps42 (Nat.le_of_ble_eq_true rfl) ?_
  refine c_seq ?_
  refine c_reg ?_
  refine s_alloc (cs := #[.int .i8 0, .string (⟨#[]⟩ : ByteArray), .int .i8 0, .int .i64 0, .string (⟨#[]⟩ : ByteArray), .slice none 0 0]) (w0 rfl) F_z31 rfl ?_
  intro w2 g1 n3
  refine c_done ?_
  refine n_then ?_
  refine c_seq ?_
  refine c_reg ?_
  refine s_move (v := .int .i64 n) (ev_t rfl rfl) (w0 rfl) ?_
  refine s_call F_e73 (w0 rfl) ev_f (m1 (ev_t rfl rfl)) (args := #[.int .i64 n]) rfl (l_word n _ (Tabs.ext tb (NewB.ext n3)) (by omega)) ?_
  rintro _ w5 ⟨rfl, x4⟩
  refine s_build (v := .agg #[.string ((⟨#[35]⟩ : ByteArray) ++ itoaB n), .int .i8 0, .int .i64 0, .string (⟨#[]⟩ : ByteArray)]) (vs := [(0, .string ((⟨#[35]⟩ : ByteArray) ++ itoaB n))]) (b1 (ev_t rfl rfl)) (bd28_0s ((⟨#[35]⟩ : ByteArray) ++ itoaB n)) (w0 rfl) ?_
  refine s_build (v := .agg #[.int .i8 99, .string ((⟨#[35]⟩ : ByteArray) ++ itoaB n), .int .i8 0, .int .i64 0, .string (⟨#[]⟩ : ByteArray), .slice none 0 0]) (vs := [(0, .int .i8 99), (1, .agg #[.string ((⟨#[35]⟩ : ByteArray) ++ itoaB n), .int .i8 0, .int .i64 0, .string (⟨#[]⟩ : ByteArray)])]) (b2 ev_c (ev_t rfl rfl)) (bd31_0ii8_1s_1ii8_1ii64_1s 99 ((⟨#[35]⟩ : ByteArray) ++ itoaB n) 0 0 (⟨#[]⟩ : ByteArray)) (w0 rfl) ?_
  refine s_store (cs' := #[.int .i8 99, .string ((⟨#[35]⟩ : ByteArray) ++ itoaB n), .int .i8 0, .int .i64 0, .string (⟨#[]⟩ : ByteArray), .slice none 0 0]) F_sz31 (ev_t rfl rfl) (ev_t rfl rfl) (l := [.int .i8 99, .string ((⟨#[35]⟩ : ByteArray) ++ itoaB n), .int .i8 0, .int .i64 0, .string (⟨#[]⟩ : ByteArray), .slice none 0 0]) rfl rfl rfl (Ext.blk x4 (NewB.blk n3)) (Nat.le_of_ble_eq_true rfl) rfl (w0 rfl) ?_
  intro w6 k7
  refine c_done ?_
  refine n_then ?_
  refine c_ret ?_
  refine retC (cs := [.int .i8 99, .string ((⟨#[35]⟩ : ByteArray) ++ itoaB n), .int .i8 0, .int .i64 0, .string (⟨#[]⟩ : ByteArray), .slice none 0 0]) (ca := #[.int .i8 99, .string ((⟨#[35]⟩ : ByteArray) ++ itoaB n), .int .i8 0, .int .i64 0, .string (⟨#[]⟩ : ByteArray), .slice none 0 0]) rfl rfl rfl F_m31 rfl rfl (blk_cells (Wrote.blk k7) 0 (cs := [.int .i8 99, .string ((⟨#[35]⟩ : ByteArray) ++ itoaB n), .int .i8 0, .int .i64 0, .string (⟨#[]⟩ : ByteArray), .slice none 0 0]) rfl) ?_
  refine ⟨_, rfl, ?_, (Keep.then_ (Ext.trans (NewB.ext n3) x4) (Wrote.keep k7) (fun i_ hi_ h_ => by have a_ := NewB.eq n3; have b_ := Keep.size (Ext.refl w); omega))⟩
  rfl
set_option maxHeartbeats 4000000 in
theorem l_isExpr (n : Int) (w : World) (tb : Tabs Tryd.prog w) (hn : 0 ≤ n ∧ n ≤ 1000000) :
    Rt Tryd.prog 53 #[.agg #[.int .i8 99, .string ((⟨#[35]⟩ : ByteArray) ++ itoaB n), .int .i8 0, .int .i64 0, .string (⟨#[]⟩ : ByteArray), .slice none 0 0], .int .i64 n] w fun v w' => v = .bool true ∧ Ext w w' := by
  refine enter Tryd.func53 rfl (l := [.agg #[.int .i8 99, .string ((⟨#[35]⟩ : ByteArray) ++ itoaB n), .int .i8 0, .int .i64 0, .string (⟨#[]⟩ : ByteArray), .slice none 0 0], .int .i64 n]) rfl Tryd.ntmps53 (Nat.le_of_ble_eq_true rfl) ?_
  refine c_seq ?_
  refine c_reg ?_
  refine s_box (v := .agg #[.int .i8 99, .string ((⟨#[35]⟩ : ByteArray) ++ itoaB n), .int .i8 0, .int .i64 0, .string (⟨#[]⟩ : ByteArray), .slice none 0 0]) (cs := #[.int .i8 99, .string ((⟨#[35]⟩ : ByteArray) ++ itoaB n), .int .i8 0, .int .i64 0, .string (⟨#[]⟩ : ByteArray), .slice none 0 0]) (w0 rfl) (ev_t rfl rfl) rfl ?_
  intro w2 g1 n3
  refine s_assign (v := .bool false) ev_c (w0 rfl) ?_
  refine c_done ?_
  refine n_then ?_
  refine c_seq ?_
  refine c_quiet mixed (by kernel_rfl) ?_
  refine q_val (v := .pointer (some ⟨g1, 0, none⟩)) (w0 rfl) (fun w_ c_ => r_field (off := 0) (o' := 0) F_f31_0 (ev_t rfl rfl) rfl) ?_
  refine q_val (v := .int .i8 99) (w0 rfl) (fun w_ c_ => r_load (v := .int .i8 99) F_o23 (ev_t rfl rfl) (cell_of_blk (i := 0) (Ext.blk c_ (NewB.blk n3)) rfl)) ?_
  refine q_val (v := .bool true) (w0 rfl) (fun w_ c_ => r_cmp (r := true) (ev_t rfl rfl) ev_c rfl) ?_
  refine q_val (v := .bool true) (w0 rfl) (fun w_ c_ => r_move (v := .bool true) (ev_t rfl rfl)) ?_
  refine q_val (v := .pointer (some ⟨g1, 1, none⟩)) (wy rfl rfl rfl rfl) (fun w_ c_ => r_field (off := 1) (o' := 1) F_f31_1 (ev_t rfl rfl) rfl) ?_
  refine q_val (v := .agg #[.string ((⟨#[35]⟩ : ByteArray) ++ itoaB n), .int .i8 0, .int .i64 0, .string (⟨#[]⟩ : ByteArray)]) (wy rfl rfl rfl rfl) (fun w_ c_ => r_loadL (cs := [.string ((⟨#[35]⟩ : ByteArray) ++ itoaB n), .int .i8 0, .int .i64 0, .string (⟨#[]⟩ : ByteArray)]) (ca := #[.string ((⟨#[35]⟩ : ByteArray) ++ itoaB n), .int .i8 0, .int .i64 0, .string (⟨#[]⟩ : ByteArray)]) F_m28 (ev_t rfl rfl) rfl rfl (blk_cells (Ext.blk c_ (NewB.blk n3)) 1 (cs := [.string ((⟨#[35]⟩ : ByteArray) ++ itoaB n), .int .i8 0, .int .i64 0, .string (⟨#[]⟩ : ByteArray)]) rfl)) ?_
  refine q_val (v := .int .i64 n) (wy rfl rfl rfl rfl) (fun w_ c_ => r_move (v := .int .i64 n) (ev_t rfl rfl)) ?_
  refine q_call (v := .string ((⟨#[35]⟩ : ByteArray) ++ itoaB n)) F_e73 (wy rfl rfl rfl rfl) ev_f (m1 (ev_t rfl rfl)) (args := #[.int .i64 n]) rfl (fun w_ c_ => Rt.mono (l_word n _ (Tabs.ext tb (Ext.trans (NewB.ext n3) c_)) (by omega)) (fun v_ w2_ h_ => ⟨h_.1, Ext.trans c_ h_.2⟩)) ?_
  refine q_val (v := .agg #[.string ((⟨#[35]⟩ : ByteArray) ++ itoaB n), .int .i8 0, .int .i64 0, .string (⟨#[]⟩ : ByteArray)]) (wy rfl rfl rfl rfl) (fun w_ c_ => r_build (v := .agg #[.string ((⟨#[35]⟩ : ByteArray) ++ itoaB n), .int .i8 0, .int .i64 0, .string (⟨#[]⟩ : ByteArray)]) (vs := [(0, .string ((⟨#[35]⟩ : ByteArray) ++ itoaB n))]) (b1 (ev_t rfl rfl)) (bd28_0s ((⟨#[35]⟩ : ByteArray) ++ itoaB n))) ?_
  refine q_val (v := .bool true) (wy rfl rfl rfl rfl) (fun w_ c_ => r_cmpG (r := true) (ev_t rfl rfl) (ev_t rfl rfl) ((fun w_ => eqs28 ((⟨#[35]⟩ : ByteArray) ++ itoaB n) 0 0 (⟨#[]⟩ : ByteArray) _ _ w_))) ?_
  refine q_val (v := .bool true) (w0 rfl) (fun w_ c_ => r_pick1 (v := .bool true) (ev_t rfl rfl) (ev_t rfl rfl)) ?_
  refine q_val (v := .bool true) (w0 rfl) (fun w_ c_ => r_move (v := .bool true) (ev_t rfl rfl)) ?_
  refine q_val (v := .pointer (some ⟨g1, 5, none⟩)) (wy rfl rfl rfl rfl) (fun w_ c_ => r_field (off := 5) (o' := 5) F_f31_2 (ev_t rfl rfl) rfl) ?_
  refine q_val (v := .slice none 0 0) (wy rfl rfl rfl rfl) (fun w_ c_ => r_load (v := .slice none 0 0) F_o29 (ev_t rfl rfl) (cell_of_blk (i := 5) (Ext.blk c_ (NewB.blk n3)) rfl)) ?_
  refine q_val (v := .int .i64 0) (wy rfl rfl rfl rfl) (fun w_ c_ => r_lenL F_l29 (ev_t rfl rfl)) ?_
  refine q_val (v := .bool true) (wy rfl rfl rfl rfl) (fun w_ c_ => r_cmp (r := true) (ev_t rfl rfl) ev_c rfl) ?_
  refine q_val (v := .bool true) (w0 rfl) (fun w_ c_ => r_pick1 (v := .bool true) (ev_t rfl rfl) (ev_t rfl rfl)) ?_
  refine q_val (v := .bool true) (w0 rfl) (fun w_ c_ => r_assign (v := .bool true) (ev_t rfl rfl)) ?_
  refine q_done ?_
  intro w4 x5
  refine n_then ?_
  refine c_ret ?_
  refine ret1 (v := .bool true) rfl rfl rfl ?_
  refine ⟨_, rfl, ?_, (Ext.trans (NewB.ext n3) x5)⟩
  rfl
end Go.Proofs.Dw
