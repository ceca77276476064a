/- YtjjkfbjidpolmaaGreatDoorPE: part of the proof of this seat, by an AI agent: walks of the functions that the law reaches; walks of the functions that the law reaches; walks of the functions that the law reaches. No condition of its own but those that its theorems state. -/
import Derived.Test.YtjjkfbjidpolmaaGreatDoorPD
set_option maxHeartbeats 4000000
set_option linter.unusedVariables false
set_option linter.unusedSimpArgs false
set_option maxRecDepth 10000
namespace Go.Proofs.Zw
open Go Go.Wk Go.Proofs Go.Lib
attribute [local irreducible] Go.wpList Go.wpStill Go.wpQuiet Go.Code.wp Go.Calls
theorem F_e44 : enterable Tryz.prog 44 = true := by kernel_rfl
theorem F_e45 : enterable Tryz.prog 45 = true := by kernel_rfl
theorem F_e51 : enterable Tryz.prog 51 = true := by kernel_rfl
theorem F_e52 : enterable Tryz.prog 52 = true := by kernel_rfl
theorem F_e85 : enterable Tryz.prog 85 = true := by kernel_rfl
theorem F_e86 : enterable Tryz.prog 86 = true := by kernel_rfl
theorem F_e93 : enterable Tryz.prog 93 = true := by kernel_rfl
theorem F_e94 : enterable Tryz.prog 94 = true := by kernel_rfl
theorem F_e95 : enterable Tryz.prog 95 = true := by kernel_rfl
theorem F_f53_0 : fieldAt Tryz.prog 53 0 0 = true := by kernel_rfl
theorem F_iE40 : (Tryz.prog.info? (Tryz.prog.elem 40)).isSome = true := by kernel_rfl
theorem F_iE51 : (Tryz.prog.info? (Tryz.prog.elem 51)).isSome = true := by kernel_rfl
theorem F_if129 : (Tryz.prog.info? 129).map (fun i => (i.zero,i.size,i.bytes)) = some (some (.agg #[.int .i8 0,.string (⟨#[]⟩ : ByteArray),.int .i8 0,.int .i64 0,.string (⟨#[]⟩ : ByteArray)]),5,56) := by kernel_rfl
theorem F_if38 : (Tryz.prog.info? 38).map (fun i => (i.zero,i.size,i.bytes)) = some (some (.agg #[.int .i8 0,.string (⟨#[]⟩ : ByteArray),.slice none 0 0,.int .i8 0,.int .i8 0,.string (⟨#[]⟩ : ByteArray),.int .i8 0,.int .i64 0,.string (⟨#[]⟩ : ByteArray),.slice none 0 0,.int .i8 0,.string (⟨#[]⟩ : ByteArray),.int .i8 0,.int .i64 0,.string (⟨#[]⟩ : ByteArray),.slice none 0 0]),16,216) := by kernel_rfl
theorem F_m129 : many Tryz.prog 129 5 = true := by kernel_rfl
theorem F_m53 : many Tryz.prog 53 3 = true := by kernel_rfl
theorem F_sz129 : (Tryz.prog.info? 129).map (·.size) = some 5 := by kernel_rfl
theorem F_sz40 : (Tryz.prog.info? 40).map (·.size) = some 1 := by kernel_rfl
theorem F_sz51 : (Tryz.prog.info? 51).map (·.size) = some 1 := by kernel_rfl
theorem F_sz53 : (Tryz.prog.info? 53).map (·.size) = some 3 := by kernel_rfl
theorem F_uE40 : Tryz.prog.underlying 40 = some (.slice (Tryz.prog.elem 40)) := by kernel_rfl
theorem F_uE51 : Tryz.prog.underlying 51 = some (.slice (Tryz.prog.elem 51)) := by kernel_rfl
theorem F_ul40 : Tryz.prog.underlying 40 = some (.slice 38) := by kernel_rfl
theorem F_ul51 : Tryz.prog.underlying 51 = some (.slice 129) := by kernel_rfl
theorem F_z129 : (Tryz.prog.info? 129).bind (·.zero) = some (.agg #[.int .i8 0,.string (⟨#[]⟩ : ByteArray),.int .i8 0,.int .i64 0,.string (⟨#[]⟩ : ByteArray)]) := by kernel_rfl
theorem F_z53 : (Tryz.prog.info? 53).bind (·.zero) = some (.agg #[.string (⟨#[]⟩ : ByteArray),.slice none 0 0,.slice none 0 0]) := by kernel_rfl
theorem bd129_1s_1ii8_1ii64_1s : ∀ (a0 : ByteArray) (a1 : Int) (a2 : Int) (a3 : ByteArray),∀ w : World,(Instr.build 129 [(1,.agg #[.string a0,.int .i8 a1,.int .i64 a2,.string a3])].toArray).run Tryz.prog w = .ok (.agg #[.int .i8 0,.string a0,.int .i8 a1,.int .i64 a2,.string a3]) w := by
  intros
  kernel_rfl
theorem bd24_0s : ∀ (a0 : ByteArray),∀ w : World,(Instr.build 24 [(0,.string a0)].toArray).run Tryz.prog w = .ok (.agg #[.string a0,.slice none 0 0]) w := by
  intros
  kernel_rfl
theorem bd38_0ii8_1s_1s : ∀ (a0 : Int) (a1 : ByteArray) (a2 : Option Addr) (a2n a2c : Nat),∀ w : World,(Instr.build 38 [(0,.int .i8 a0),(1,.agg #[.string a1,.slice a2 a2n a2c])].toArray).run Tryz.prog w = .ok (.agg #[.int .i8 a0,.string a1,.slice a2 a2n a2c,.int .i8 0,.int .i8 0,.string (⟨#[]⟩ : ByteArray),.int .i8 0,.int .i64 0,.string (⟨#[]⟩ : ByteArray),.slice none 0 0,.int .i8 0,.string (⟨#[]⟩ : ByteArray),.int .i8 0,.int .i64 0,.string (⟨#[]⟩ : ByteArray),.slice none 0 0]) w := by
  intros
  kernel_rfl
theorem eqn129 (a0 : Int) (a1 : ByteArray) (a2 : Int) (a3 : Int) (a4 : ByteArray) (a b : Operand) (w : World) : (do eqGuard .neq 129 a b (.agg #[.int .i8 a0,.string a1,.int .i8 a2,.int .i64 a3,.string a4]) (.agg #[.int .i8 a0,.string a1,.int .i8 a2,.int .i64 a3,.string a4]); binOp .neq 129 (.agg #[.int .i8 a0,.string a1,.int .i8 a2,.int .i64 a3,.string a4]) (.agg #[.int .i8 a0,.string a1,.int .i8 a2,.int .i64 a3,.string a4]) : Sem Value).run Tryz.prog w = .ok (.bool false) w := by
  have hu := Tryz.underlying129
  go_simp
theorem eqs129 (a0 : Int) (a1 : ByteArray) (a2 : Int) (a3 : Int) (a4 : ByteArray) (a b : Operand) (w : World) : (do eqGuard .eql 129 a b (.agg #[.int .i8 a0,.string a1,.int .i8 a2,.int .i64 a3,.string a4]) (.agg #[.int .i8 a0,.string a1,.int .i8 a2,.int .i64 a3,.string a4]); binOp .eql 129 (.agg #[.int .i8 a0,.string a1,.int .i8 a2,.int .i64 a3,.string a4]) (.agg #[.int .i8 a0,.string a1,.int .i8 a2,.int .i64 a3,.string a4]) : Sem Value).run Tryz.prog w = .ok (.bool true) w := by
  have hu := Tryz.underlying129
  go_simp
theorem l_markArg (n : Int) (w : World) (tb : Tabs Tryz.prog w) (hn : 0 ≤ n ∧ n ≤ 1000000) :
    Rt Tryz.prog 85 #[.int .i64 n] w fun v w' => v = .agg #[.int .i8 0,.string ((⟨#[35]⟩ : ByteArray) ++ itoaB n),.int .i8 0,.int .i64 0,.string (⟨#[]⟩ : ByteArray)] ∧ Ext w w' := by
  refine enter Tryz.func85 rfl (l := [.int .i64 n]) rfl Tryz.ntmps85 (Nat.le_of_ble_eq_true rfl) ?_
  refine c_seq (c_reg (s_alloc (cs := #[.int .i8 0,.string (⟨#[]⟩ : ByteArray),.int .i8 0,.int .i64 0,.string (⟨#[]⟩ : ByteArray)]) (w0 rfl) F_z129 rfl ?_))
  intro w2 g1 n3
  refine c_done (n_then (c_seq (c_reg (s_move (v := .int .i64 n) (ej rfl rfl) (w0 rfl) (s_call F_e96 (w0 rfl) ev_f (m1 (ej rfl rfl)) (args := #[.int .i64 n]) rfl (l_word n _ (Tabs.ext tb (NewB.ext n3)) (by omega)) ?_)))))
  rintro _ w5 ⟨rfl,x4⟩
  refine s_build (v := .agg #[.string ((⟨#[35]⟩ : ByteArray) ++ itoaB n),.int .i8 0,.int .i64 0,.string (⟨#[]⟩ : ByteArray)]) (vs := [(0,.string ((⟨#[35]⟩ : ByteArray) ++ itoaB n))]) (b1 (ej rfl rfl)) (bd33_0s ((⟨#[35]⟩ : ByteArray) ++ itoaB n)) (w0 rfl) (s_build (v := .agg #[.int .i8 0,.string ((⟨#[35]⟩ : ByteArray) ++ itoaB n),.int .i8 0,.int .i64 0,.string (⟨#[]⟩ : ByteArray)]) (vs := [(1,.agg #[.string ((⟨#[35]⟩ : ByteArray) ++ itoaB n),.int .i8 0,.int .i64 0,.string (⟨#[]⟩ : ByteArray)])]) (b1 (ej rfl rfl)) (bd129_1s_1ii8_1ii64_1s ((⟨#[35]⟩ : ByteArray) ++ itoaB n) 0 0 (⟨#[]⟩ : ByteArray)) (w0 rfl) (s_store (cs' := #[.int .i8 0,.string ((⟨#[35]⟩ : ByteArray) ++ itoaB n),.int .i8 0,.int .i64 0,.string (⟨#[]⟩ : ByteArray)]) F_sz129 (ej rfl rfl) (ej rfl rfl) (l := [.int .i8 0,.string ((⟨#[35]⟩ : ByteArray) ++ itoaB n),.int .i8 0,.int .i64 0,.string (⟨#[]⟩ : ByteArray)]) rfl rfl rfl (Ext.blk x4 (NewB.blk n3)) (Nat.le_of_ble_eq_true rfl) rfl (w0 rfl) ?_))
  intro w6 k7
  refine c_done (n_then (c_ret (retC (cs := [.int .i8 0,.string ((⟨#[35]⟩ : ByteArray) ++ itoaB n),.int .i8 0,.int .i64 0,.string (⟨#[]⟩ : ByteArray)]) (ca := #[.int .i8 0,.string ((⟨#[35]⟩ : ByteArray) ++ itoaB n),.int .i8 0,.int .i64 0,.string (⟨#[]⟩ : ByteArray)]) rfl rfl rfl F_m129 rfl rfl (blk_cells (Wrote.blk k7) 0 (cs := [.int .i8 0,.string ((⟨#[35]⟩ : ByteArray) ++ itoaB n),.int .i8 0,.int .i64 0,.string (⟨#[]⟩ : ByteArray)]) rfl) ?_)))
  refine ⟨_,rfl,?_,(Keep.then_ (Ext.trans (NewB.ext n3) x4) (Wrote.keep k7) (fun i_ hi_ h_ => by have a_ := NewB.eq n3; have b_ := Keep.size (Ext.refl w); omega))⟩
  rfl
theorem l_isArg (n : Int) (w : World) (tb : Tabs Tryz.prog w) (hn : 0 ≤ n ∧ n ≤ 1000000) :
    Rt Tryz.prog 94 #[.agg #[.int .i8 0,.string ((⟨#[35]⟩ : ByteArray) ++ itoaB n),.int .i8 0,.int .i64 0,.string (⟨#[]⟩ : ByteArray)],.int .i64 n] w fun v w' => v = .bool true ∧ Ext w w' := by
  refine enter Tryz.func94 rfl (l := [.agg #[.int .i8 0,.string ((⟨#[35]⟩ : ByteArray) ++ itoaB n),.int .i8 0,.int .i64 0,.string (⟨#[]⟩ : ByteArray)],.int .i64 n]) rfl Tryz.ntmps94 (Nat.le_of_ble_eq_true rfl) ?_
  refine c_seq (c_reg (s_box (v := .agg #[.int .i8 0,.string ((⟨#[35]⟩ : ByteArray) ++ itoaB n),.int .i8 0,.int .i64 0,.string (⟨#[]⟩ : ByteArray)]) (cs := #[.int .i8 0,.string ((⟨#[35]⟩ : ByteArray) ++ itoaB n),.int .i8 0,.int .i64 0,.string (⟨#[]⟩ : ByteArray)]) (w0 rfl) (ej rfl rfl) rfl ?_))
  intro w2 g1 n3
  refine s_assign (v := .bool false) ev_c (w0 rfl) (c_done (n_then (c_seq (c_quiet mixed (by kernel_rfl) (q_val (v := .agg #[.int .i8 0,.string ((⟨#[35]⟩ : ByteArray) ++ itoaB n),.int .i8 0,.int .i64 0,.string (⟨#[]⟩ : ByteArray)]) (w0 rfl) (fun w_ c_ => r_loadL (cs := [.int .i8 0,.string ((⟨#[35]⟩ : ByteArray) ++ itoaB n),.int .i8 0,.int .i64 0,.string (⟨#[]⟩ : ByteArray)]) F_m129 (ej rfl rfl) rfl rfl (blk_cells (Ext.blk c_ (NewB.blk n3)) 0 rfl)) (q_val (v := .int .i64 n) (w0 rfl) (fun w_ c_ => r_move (v := .int .i64 n) (ej rfl rfl)) (q_call (v := .string ((⟨#[35]⟩ : ByteArray) ++ itoaB n)) F_e96 (w0 rfl) ev_f (m1 (ej rfl rfl)) (args := #[.int .i64 n]) rfl (fun w_ c_ => Rt.mono (l_word n _ (Tabs.ext tb (Ext.trans (NewB.ext n3) c_)) (by omega)) (fun v_ w2_ h_ => ⟨h_.1,Ext.trans c_ h_.2⟩)) (q_val (v := .agg #[.string ((⟨#[35]⟩ : ByteArray) ++ itoaB n),.int .i8 0,.int .i64 0,.string (⟨#[]⟩ : ByteArray)]) (w0 rfl) (fun w_ c_ => r_build (v := .agg #[.string ((⟨#[35]⟩ : ByteArray) ++ itoaB n),.int .i8 0,.int .i64 0,.string (⟨#[]⟩ : ByteArray)]) (vs := [(0,.string ((⟨#[35]⟩ : ByteArray) ++ itoaB n))]) (b1 (ej rfl rfl)) (bd33_0s ((⟨#[35]⟩ : ByteArray) ++ itoaB n))) (q_val (v := .agg #[.int .i8 0,.string ((⟨#[35]⟩ : ByteArray) ++ itoaB n),.int .i8 0,.int .i64 0,.string (⟨#[]⟩ : ByteArray)]) (w0 rfl) (fun w_ c_ => r_build (v := .agg #[.int .i8 0,.string ((⟨#[35]⟩ : ByteArray) ++ itoaB n),.int .i8 0,.int .i64 0,.string (⟨#[]⟩ : ByteArray)]) (vs := [(1,.agg #[.string ((⟨#[35]⟩ : ByteArray) ++ itoaB n),.int .i8 0,.int .i64 0,.string (⟨#[]⟩ : ByteArray)])]) (b1 (ej rfl rfl)) (bd129_1s_1ii8_1ii64_1s ((⟨#[35]⟩ : ByteArray) ++ itoaB n) 0 0 (⟨#[]⟩ : ByteArray))) (q_val (v := .bool true) (w0 rfl) (fun w_ c_ => r_cmpG (r := true) (ej rfl rfl) (ej rfl rfl) ((fun w_ => eqs129 0 ((⟨#[35]⟩ : ByteArray) ++ itoaB n) 0 0 (⟨#[]⟩ : ByteArray) _ _ w_))) (q_val (v := .bool true) (w0 rfl) (fun w_ c_ => r_assign (v := .bool true) (ej rfl rfl)) ?_)))))))))))
  refine q_done ?_
  intro w4 x5
  refine n_then (c_ret (ret1 (v := .bool true) rfl rfl rfl ?_))
  refine ⟨_,rfl,?_,(Ext.trans (NewB.ext n3) x5)⟩
  rfl
theorem l_SameArgs (l : List Ag) (A A2 : Option Addr) (c c2 : Nat) (w : World) (hl : l.length * 8 ≤ 140737488351232) (hr : Row RG 5 w A l) (hr2 : Row RG 5 w A2 l) :
    Rt Tryz.prog 93 #[.slice A l.length c,.slice A2 l.length c2] w fun v w' => v = .bool true ∧ Ext w w' := by
  refine enter Tryz.func93 rfl (l := [.slice A l.length c,.slice A2 l.length c2]) rfl Tryz.ntmps93 (Nat.le_of_ble_eq_true rfl) ?_
  refine c_seq (c_reg (s_assign (v := .bool false) ev_c (w0 rfl) (c_done (n_then (c_seq (c_seq (c_reg (s_move (v := .slice A l.length c) (ej rfl rfl) (w0 rfl) (s_lenL F_l51 (ej rfl rfl) (w0 rfl) (s_move (v := .slice A2 l.length c2) (ej rfl rfl) (w0 rfl) (s_lenL F_l51 (ej rfl rfl) (w0 rfl) ?_)))))))))))
  refine s_cmp (r := false) (ej rfl rfl) (ej rfl rfl) (cmpI_selfn _) (w0 rfl) (c_done (n_then (c_cond0 (ej rfl rfl) (c_skip (n_then (c_seq (c_seq (c_reg (s_assign (v := .int .i64 0) ev_c (w0 rfl) (c_done (n_then ?_)))))))))))
  refine c_block (c_loop (α := Nat) (fun (i : Nat) env_ w_ => Ext w w_ ∧ i ≤ l.length ∧ env_ 0 = .slice A l.length c ∧ env_ 1 = .slice A2 l.length c2 ∧ env_ 5 = .int .i64 ((i : Nat) : Int)) (fun i => l.length - i) (0) ⟨Ext.refl _,Nat.zero_le _,rfl,rfl,rfl⟩ ?_)
  rintro i env3 w1 ⟨x2,i4,e5,e6,e7⟩
  refine c_seq (c_seq (c_reg (s_move (v := .int .i64 ((i : Nat) : Int)) (ej rfl e7) (w0 rfl) (s_move (v := .slice A l.length c) (ej rfl e5) (w0 rfl) (s_lenL F_l51 (ej rfl rfl) (w0 rfl) (s_cmp (r := decide (((i : Nat) : Int) < (l.length : Int))) (ej rfl rfl) (ej rfl rfl) rfl (w0 rfl) (c_done (n_then ?_))))))))
  by_cases h8 : ((i : Nat) : Int) < (l.length : Int)
  · refine c_cond1 (vb (ej rfl rfl) (decide_eq_true h8)) (c_skip (n_then (c_seq (c_block (c_seq (c_quiet mixed (by kernel_rfl) (q_val (v := .slice A l.length c) (w0 rfl) (fun w_ c_ => r_move (v := .slice A l.length c) (ej rfl e5)) (q_val (v := .int .i64 ((i : Nat) : Int)) (w0 rfl) (fun w_ c_ => r_move (v := .int .i64 ((i : Nat) : Int)) (ej rfl e7)) ?_))))))))
    obtain ⟨b9,o10,x11,csx11,hA12,hx13,hR14,hc15⟩ := Row.at_ hr i (by omega)
    obtain rfl := agAt_of hx13
    obtain ⟨rfl,wf16⟩ := hR14
    refine q_val (v := .pointer (some ⟨b9,o10 + i * 5,none⟩)) (w0 rfl) (fun w_ c_ => r_indexR (j := i) F_l51 (ej rfl rfl) hA12 (ej rfl rfl) rfl (by omega)) (q_val (v := .agg #[.int .i8 ((agAt l i).k),.string ((agAt l i).t.v),.int .i8 ((agAt l i).t.l.k),.int .i64 ((agAt l i).t.l.n),.string ((agAt l i).t.l.s)]) (w0 rfl) (fun w_ c_ => r_loadL (cs := [.int .i8 ((agAt l i).k),.string ((agAt l i).t.v),.int .i8 ((agAt l i).t.l.k),.int .i64 ((agAt l i).t.l.n),.string ((agAt l i).t.l.s)]) F_m129 (ej rfl rfl) rfl rfl (sub_cells (cells_ext c_ (cells_ext x2 hc15)) 0 rfl)) (q_val (v := .slice A2 l.length c2) (w0 rfl) (fun w_ c_ => r_move (v := .slice A2 l.length c2) (ej rfl e6)) (q_val (v := .int .i64 ((i : Nat) : Int)) (w0 rfl) (fun w_ c_ => r_move (v := .int .i64 ((i : Nat) : Int)) (ej rfl e7)) ?_)))
    obtain ⟨b17,o18,x19,csx19,hA20,hx21,hR22,hc23⟩ := Row.at_ hr2 i (by omega)
    obtain rfl := agAt_of hx21
    obtain ⟨rfl,wf24⟩ := hR22
    refine q_val (v := .pointer (some ⟨b17,o18 + i * 5,none⟩)) (w0 rfl) (fun w_ c_ => r_indexR (j := i) F_l51 (ej rfl rfl) hA20 (ej rfl rfl) rfl (by omega)) (q_val (v := .agg #[.int .i8 ((agAt l i).k),.string ((agAt l i).t.v),.int .i8 ((agAt l i).t.l.k),.int .i64 ((agAt l i).t.l.n),.string ((agAt l i).t.l.s)]) (w0 rfl) (fun w_ c_ => r_loadL (cs := [.int .i8 ((agAt l i).k),.string ((agAt l i).t.v),.int .i8 ((agAt l i).t.l.k),.int .i64 ((agAt l i).t.l.n),.string ((agAt l i).t.l.s)]) F_m129 (ej rfl rfl) rfl rfl (sub_cells (cells_ext c_ (cells_ext x2 hc23)) 0 rfl)) (q_val (v := .bool false) (w0 rfl) (fun w_ c_ => r_cmpG (r := false) (ej rfl rfl) (ej rfl rfl) ((fun w_ => eqn129 ((agAt l i).k) ((agAt l i).t.v) ((agAt l i).t.l.k) ((agAt l i).t.l.n) ((agAt l i).t.l.s) _ _ w_))) (q_done ?_)))
    intro w25 x26
    refine n_then (c_cond0 (ej rfl rfl) (c_skip (n_block (n_then (c_reg (s_move (v := .int .i64 ((i : Nat) : Int)) (ej rfl e7) (w0 rfl) (s_add (r := ((i + 1 : Nat) : Int)) (ej rfl rfl) ev_c (by omega) (by omega) (w0 rfl) (s_assign (v := .int .i64 ((i + 1 : Nat) : Int)) (ej rfl rfl) (w0 rfl) (c_done ?_)))))))))
    exact ⟨(i + 1),_,rfl,⟨(Ext.trans x2 x26),by omega,e5,e6,rfl⟩,(show l.length - (i + 1) < l.length - i by omega)⟩
  refine c_cond0 (vb (ej rfl rfl) (decide_eq_false h8)) (c_exit (e_then (e_then (e_hit (n_then (c_seq (c_reg (s_assign (v := .bool true) ev_c (w0 rfl) (c_done (n_then (c_ret ?_)))))))))))
  refine ret1 (v := .bool true) rfl rfl rfl ?_
  refine ⟨_,rfl,?_,x2⟩
  rfl
theorem l_TwinArgs (l : List Ag) (A : Option Addr) (c : Nat) (w : World) (hl : l.length * 56 ≤ 140737488351232) (hr : Row RG 5 w A l) (tb : Tabs Tryz.prog w) :
    Rt Tryz.prog 44 #[.slice A l.length c] w fun v w' => ∃ b,v = .slice (some ⟨b,0,none⟩) l.length (l.length + 1) ∧ TwG QG markG 5 w.heap.size w' b l ∧ Ext w w' := by
  refine enter Tryz.func44 rfl (l := [.slice A l.length c]) rfl Tryz.ntmps44 (Nat.le_of_ble_eq_true rfl) ?_
  refine c_seq (c_reg (s_assign (v := .slice none 0 0) ev_c (w0 rfl) (c_done (n_then (c_seq (c_reg (s_move (v := .slice A l.length c) (ej rfl rfl) (w0 rfl) (s_lenL F_l51 (ej rfl rfl) (w0 rfl) (s_add (r := ((l.length + 1 : Nat) : Int)) (ej rfl rfl) ev_c (by omega) (by omega) (w0 rfl) (s_make (k := l.length + 1) F_ul51 F_if129 (ej rfl rfl) (ej rfl rfl) (by omega) (by omega) (w0 rfl) ?_))))))))))
  intro w1 g2 cs3 hs4 n5
  have ge_g2 : w.heap.size ≤ g2 := by have a_ := NewB.eq n5; have b_ := Keep.size (Ext.refl w); omega
  have fl_g2 : Fill (EG QG markG (g2 + 1) l) 5 129 w1 g2 (l.length + 1) 0 := Fill.start n5 hs4
  refine s_assign (v := .slice (some ⟨g2,0,none⟩) (l.length + 1) (l.length + 1)) (ej rfl rfl) (w0 rfl) (c_done (n_then (c_seq (c_seq (c_reg (s_assign (v := .int .i64 0) ev_c (w0 rfl) (c_done (n_then (c_block (c_loop (α := Nat) (fun (i : Nat) env_ w_ => Ext w w_ ∧ i ≤ l.length ∧ Fill (EG QG markG (g2 + 1) l) 5 129 w_ g2 (l.length + 1) i ∧ env_ 0 = .slice A l.length c ∧ env_ 2 = .slice none 0 0 ∧ env_ 3 = .slice (some ⟨g2,0,none⟩) (l.length + 1) (l.length + 1) ∧ env_ 4 = .int .i64 ((i : Nat) : Int)) (fun i => l.length - i) (0) ⟨(NewB.ext n5),Nat.zero_le _,fl_g2,rfl,rfl,rfl,rfl⟩ ?_))))))))))
  rintro i env8 w6 ⟨x7,i9,i10,e11,e12,e13,e14⟩
  refine c_seq (c_seq (c_reg (s_move (v := .int .i64 ((i : Nat) : Int)) (ej rfl e14) (w0 rfl) (s_move (v := .slice A l.length c) (ej rfl e11) (w0 rfl) (s_lenL F_l51 (ej rfl rfl) (w0 rfl) (s_cmp (r := decide (((i : Nat) : Int) < (l.length : Int))) (ej rfl rfl) (ej rfl rfl) rfl (w0 rfl) (c_done (n_then ?_))))))))
  by_cases h15 : ((i : Nat) : Int) < (l.length : Int)
  · refine c_cond1 (vb (ej rfl rfl) (decide_eq_true h15)) (c_skip (n_then (c_seq (c_block (c_reg (s_move (v := .slice (some ⟨g2,0,none⟩) (l.length + 1) (l.length + 1)) (ej rfl e13) (w0 rfl) (s_move (v := .int .i64 ((i : Nat) : Int)) (ej rfl e14) (w0 rfl) (s_move (v := .slice A l.length c) (ej rfl e11) (w0 rfl) (s_move (v := .int .i64 ((i : Nat) : Int)) (ej rfl e14) (w0 rfl) ?_)))))))))
    obtain ⟨b16,o17,x18,csx18,hA19,hx20,hR21,hc22⟩ := Row.at_ hr i (by omega)
    obtain rfl := agAt_of hx20
    obtain ⟨rfl,wf23⟩ := hR21
    refine s_indexR (j := i) F_l51 (ej rfl rfl) hA19 (ej rfl rfl) rfl (by omega) (w0 rfl) (s_loadL (cs := [.int .i8 ((agAt l i).k),.string ((agAt l i).t.v),.int .i8 ((agAt l i).t.l.k),.int .i64 ((agAt l i).t.l.n),.string ((agAt l i).t.l.s)]) F_m129 (ej rfl rfl) rfl rfl (sub_cells (cells_ext x7 hc22) 0 rfl) (w0 rfl) (s_indexR (j := i) F_l51 (ej rfl rfl) rfl (ej rfl rfl) rfl (by omega) (w0 rfl) ?_))
    have ee27 : EG QG markG (g2 + 1) l w6 i [.int .i8 ((agAt l i).k),.string ((agAt l i).t.v),.int .i8 ((agAt l i).t.l.k),.int .i64 ((agAt l i).t.l.n),.string ((agAt l i).t.l.s)] := EG.of (agAt_there (by omega)) ⟨rfl,wf23⟩
    refine s_storeF (i := i) (l := [.int .i8 ((agAt l i).k),.string ((agAt l i).t.v),.int .i8 ((agAt l i).t.l.k),.int .i64 ((agAt l i).t.l.n),.string ((agAt l i).t.l.s)]) (Fill.cast i10 (by omega)) (by omega) F_sz129 (ej rfl rfl) (ej rfl rfl) rfl rfl rfl (fun w_ k_ => ⟨fun j_ l_ _ h_ => EG.keep okG h_ k_ (fun i_ q_ => by omega),EG.keep okG ee27 k_ (fun i_ q_ => by omega)⟩) (w0 rfl) ?_
    intro w24 fl25 k26
    refine c_done (n_block (n_then (c_reg (s_move (v := .int .i64 ((i : Nat) : Int)) (ej rfl e14) (w0 rfl) (s_add (r := ((i + 1 : Nat) : Int)) (ej rfl rfl) ev_c (by omega) (by omega) (w0 rfl) (s_assign (v := .int .i64 ((i + 1 : Nat) : Int)) (ej rfl rfl) (w0 rfl) (c_done ?_)))))))
    exact ⟨(i + 1),_,rfl,⟨(Keep.then_ x7 k26 (fun i_ hi_ h_ => by have a_ := ge_g2; omega)),by omega,fl25,e11,e12,e13,rfl⟩,(show l.length - (i + 1) < l.length - i by omega)⟩
  refine c_cond0 (vb (ej rfl rfl) (decide_eq_false h15)) (c_exit (e_then (e_then (e_hit (n_then (c_seq (c_reg (s_move (v := .slice (some ⟨g2,0,none⟩) (l.length + 1) (l.length + 1)) (ej rfl e13) (w0 rfl) (s_move (v := .slice A l.length c) (ej rfl e11) (w0 rfl) (s_lenL F_l51 (ej rfl rfl) (w0 rfl) (s_call F_e85 (w0 rfl) ev_f (m1 ev_c) (args := #[.int .i64 777777]) rfl (l_markArg 777777 _ (Tabs.ext tb x7) (by omega)) ?_)))))))))))
  rintro _ w29 ⟨rfl,x28⟩
  refine s_indexR (j := l.length) F_l51 (ej rfl rfl) rfl (ej rfl rfl) rfl (by omega) (w0 rfl) ?_
  have ee33 : EG QG markG (g2 + 1) l w29 l.length [.int .i8 0,.string ((⟨#[35]⟩ : ByteArray) ++ itoaB 777777),.int .i8 0,.int .i64 0,.string (⟨#[]⟩ : ByteArray)] := EG.mark
  refine s_storeF (i := l.length) (l := [.int .i8 0,.string ((⟨#[35]⟩ : ByteArray) ++ itoaB 777777),.int .i8 0,.int .i64 0,.string (⟨#[]⟩ : ByteArray)]) (Fill.cast (Fill.ext i10 x28 (fun j_ l_ h_ => EG.keep okG h_ x28 (fun _ h_ => h_.elim))) (by omega)) (by omega) F_sz129 (ej rfl rfl) (ej rfl rfl) rfl rfl rfl (fun w_ k_ => ⟨fun j_ l_ _ h_ => EG.keep okG h_ k_ (fun i_ q_ => by omega),EG.keep okG ee33 k_ (fun i_ q_ => by omega)⟩) (w0 rfl) ?_
  intro w30 fl31 k32
  refine c_done (n_then (c_seq (c_reg (s_move (v := .slice (some ⟨g2,0,none⟩) (l.length + 1) (l.length + 1)) (ej rfl e13) (w0 rfl) (s_move (v := .slice A l.length c) (ej rfl e11) (w0 rfl) (s_lenL F_l51 (ej rfl rfl) (w0 rfl) (s_sliceH (h := l.length) F_uE51 F_iE51 (ej rfl rfl) (ej rfl rfl) (by omega) (w0 rfl) (s_assign (v := .slice (some ⟨g2,0,none⟩) l.length (l.length + 1)) (ej rfl rfl) (w0 rfl) (c_done (n_then (c_ret ?_)))))))))))
  refine ret1 (v := .slice (some ⟨g2,0,none⟩) l.length (l.length + 1)) rfl rfl rfl ?_
  exact ⟨_,rfl,g2,rfl,TwG.of_fill okG (Fill.cast fl31 (by omega)) (by omega) (by omega),(Keep.then_ (Ext.trans x7 x28) k32 (fun i_ hi_ h_ => by have a_ := ge_g2; omega))⟩
theorem l_LeftArgs (l : List Ag) (A : Option Addr) (c b lo : Nat) (w : World) (hl : l.length * 56 ≤ 140737488351232) (tw : TwG QG markG 5 lo w b l) (hr : Row RG 5 w A l) (tb : Tabs Tryz.prog w) :
    Rt Tryz.prog 51 #[.slice (some ⟨b,0,none⟩) l.length (l.length + 1),.slice A l.length c] w fun v w' => v = .bool true ∧ Ext w w' := by
  refine enter Tryz.func51 rfl (l := [.slice (some ⟨b,0,none⟩) l.length (l.length + 1),.slice A l.length c]) rfl Tryz.ntmps51 (Nat.le_of_ble_eq_true rfl) ?_
  refine c_seq (c_reg (s_assign (v := .bool false) ev_c (w0 rfl) (c_done (n_then (c_seq (c_reg (s_move (v := .slice (some ⟨b,0,none⟩) l.length (l.length + 1)) (ej rfl rfl) (w0 rfl) (s_move (v := .slice A l.length c) (ej rfl rfl) (w0 rfl) (s_call F_e93 (w0 rfl) ev_f (m2 (ej rfl rfl) (ej rfl rfl)) (args := #[.slice (some ⟨b,0,none⟩) l.length (l.length + 1),.slice A l.length c]) rfl (l_SameArgs l (some ⟨b,0,none⟩) A (l.length + 1) c _ (by omega) (TwG.rowsG tw) hr) ?_)))))))))
  rintro _ w2 ⟨rfl,x1⟩
  refine s_move (v := .bool true) (ej rfl rfl) (w0 rfl) (s_move (v := .slice (some ⟨b,0,none⟩) l.length (l.length + 1)) (ej rfl rfl) (wy rfl rfl rfl rfl) (s_move (v := .slice A l.length c) (ej rfl rfl) (wy rfl rfl rfl rfl) (s_lenL F_l51 (ej rfl rfl) (wy rfl rfl rfl rfl) (s_add (r := ((l.length + 1 : Nat) : Int)) (ej rfl rfl) ev_c (by omega) (by omega) (wy rfl rfl rfl rfl) (s_sliceH (h := l.length + 1) F_uE51 F_iE51 (ej rfl rfl) (ej rfl rfl) (by omega) (wy rfl rfl rfl rfl) (s_move (v := .slice A l.length c) (ej rfl rfl) (wy rfl rfl rfl rfl) (s_lenL F_l51 (ej rfl rfl) (wy rfl rfl rfl rfl) (s_indexR (j := l.length) F_l51 (ej rfl rfl) rfl (ej rfl rfl) rfl (by omega) (wy rfl rfl rfl rfl) (s_loadL (cs := [.int .i8 0,.string ((⟨#[35]⟩ : ByteArray) ++ itoaB 777777),.int .i8 0,.int .i64 0,.string (⟨#[]⟩ : ByteArray)]) F_m129 (ej rfl rfl) rfl rfl (sub_cells (cells_ext x1 (TwG.mark tw)) 0 rfl) (wy rfl rfl rfl rfl) (s_call F_e94 (wy rfl rfl rfl rfl) ev_f (m2 (ej rfl rfl) ev_c) (args := #[.agg #[.int .i8 0,.string ((⟨#[35]⟩ : ByteArray) ++ itoaB 777777),.int .i8 0,.int .i64 0,.string (⟨#[]⟩ : ByteArray)],.int .i64 777777]) rfl (l_isArg 777777 _ (Tabs.ext tb x1) (by omega)) ?_))))))))))
  rintro _ w4 ⟨rfl,x3⟩
  refine s_pick1 (v := .bool true) (ej rfl rfl) (ej rfl rfl) (w0 rfl) (s_assign (v := .bool true) (ej rfl rfl) (w0 rfl) (c_done (n_then (c_ret (ret1 (v := .bool true) rfl rfl rfl ?_)))))
  refine ⟨_,rfl,?_,(Ext.trans x1 x3)⟩
  rfl
theorem l_markLiteral (n : Int) (w : World) (tb : Tabs Tryz.prog w) (hn : 0 ≤ n ∧ n ≤ 1000000) :
    Rt Tryz.prog 86 #[.int .i64 n] w fun v w' => v = .agg #[.int .i8 99,.string ((⟨#[35]⟩ : ByteArray) ++ itoaB n),.slice none 0 0,.int .i8 0,.int .i8 0,.string (⟨#[]⟩ : ByteArray),.int .i8 0,.int .i64 0,.string (⟨#[]⟩ : ByteArray),.slice none 0 0,.int .i8 0,.string (⟨#[]⟩ : ByteArray),.int .i8 0,.int .i64 0,.string (⟨#[]⟩ : ByteArray),.slice none 0 0] ∧ Ext w w' := by
  refine enter Tryz.func86 rfl (l := [.int .i64 n]) rfl Tryz.ntmps86 (Nat.le_of_ble_eq_true rfl) ?_
  refine c_seq (c_reg (s_alloc (cs := #[.int .i8 0,.string (⟨#[]⟩ : ByteArray),.slice none 0 0,.int .i8 0,.int .i8 0,.string (⟨#[]⟩ : ByteArray),.int .i8 0,.int .i64 0,.string (⟨#[]⟩ : ByteArray),.slice none 0 0,.int .i8 0,.string (⟨#[]⟩ : ByteArray),.int .i8 0,.int .i64 0,.string (⟨#[]⟩ : ByteArray),.slice none 0 0]) (w0 rfl) F_z38 rfl ?_))
  intro w2 g1 n3
  refine c_done (n_then (c_seq (c_reg (s_move (v := .int .i64 n) (ej rfl rfl) (w0 rfl) (s_call F_e96 (w0 rfl) ev_f (m1 (ej rfl rfl)) (args := #[.int .i64 n]) rfl (l_word n _ (Tabs.ext tb (NewB.ext n3)) (by omega)) ?_)))))
  rintro _ w5 ⟨rfl,x4⟩
  refine s_build (v := .agg #[.string ((⟨#[35]⟩ : ByteArray) ++ itoaB n),.slice none 0 0]) (vs := [(0,.string ((⟨#[35]⟩ : ByteArray) ++ itoaB n))]) (b1 (ej rfl rfl)) (bd24_0s ((⟨#[35]⟩ : ByteArray) ++ itoaB n)) (w0 rfl) (s_build (v := .agg #[.int .i8 99,.string ((⟨#[35]⟩ : ByteArray) ++ itoaB n),.slice none 0 0,.int .i8 0,.int .i8 0,.string (⟨#[]⟩ : ByteArray),.int .i8 0,.int .i64 0,.string (⟨#[]⟩ : ByteArray),.slice none 0 0,.int .i8 0,.string (⟨#[]⟩ : ByteArray),.int .i8 0,.int .i64 0,.string (⟨#[]⟩ : ByteArray),.slice none 0 0]) (vs := [(0,.int .i8 99),(1,.agg #[.string ((⟨#[35]⟩ : ByteArray) ++ itoaB n),.slice none 0 0])]) (b2 ev_c (ej rfl rfl)) (bd38_0ii8_1s_1s 99 ((⟨#[35]⟩ : ByteArray) ++ itoaB n) none 0 0) (w0 rfl) (s_store (cs' := #[.int .i8 99,.string ((⟨#[35]⟩ : ByteArray) ++ itoaB n),.slice none 0 0,.int .i8 0,.int .i8 0,.string (⟨#[]⟩ : ByteArray),.int .i8 0,.int .i64 0,.string (⟨#[]⟩ : ByteArray),.slice none 0 0,.int .i8 0,.string (⟨#[]⟩ : ByteArray),.int .i8 0,.int .i64 0,.string (⟨#[]⟩ : ByteArray),.slice none 0 0]) F_sz38 (ej rfl rfl) (ej rfl rfl) (l := [.int .i8 99,.string ((⟨#[35]⟩ : ByteArray) ++ itoaB n),.slice none 0 0,.int .i8 0,.int .i8 0,.string (⟨#[]⟩ : ByteArray),.int .i8 0,.int .i64 0,.string (⟨#[]⟩ : ByteArray),.slice none 0 0,.int .i8 0,.string (⟨#[]⟩ : ByteArray),.int .i8 0,.int .i64 0,.string (⟨#[]⟩ : ByteArray),.slice none 0 0]) rfl rfl rfl (Ext.blk x4 (NewB.blk n3)) (Nat.le_of_ble_eq_true rfl) rfl (w0 rfl) ?_))
  intro w6 k7
  refine c_done (n_then (c_ret (retC (cs := [.int .i8 99,.string ((⟨#[35]⟩ : ByteArray) ++ itoaB n),.slice none 0 0,.int .i8 0,.int .i8 0,.string (⟨#[]⟩ : ByteArray),.int .i8 0,.int .i64 0,.string (⟨#[]⟩ : ByteArray),.slice none 0 0,.int .i8 0,.string (⟨#[]⟩ : ByteArray),.int .i8 0,.int .i64 0,.string (⟨#[]⟩ : ByteArray),.slice none 0 0]) (ca := #[.int .i8 99,.string ((⟨#[35]⟩ : ByteArray) ++ itoaB n),.slice none 0 0,.int .i8 0,.int .i8 0,.string (⟨#[]⟩ : ByteArray),.int .i8 0,.int .i64 0,.string (⟨#[]⟩ : ByteArray),.slice none 0 0,.int .i8 0,.string (⟨#[]⟩ : ByteArray),.int .i8 0,.int .i64 0,.string (⟨#[]⟩ : ByteArray),.slice none 0 0]) rfl rfl rfl F_m38 rfl rfl (blk_cells (Wrote.blk k7) 0 (cs := [.int .i8 99,.string ((⟨#[35]⟩ : ByteArray) ++ itoaB n),.slice none 0 0,.int .i8 0,.int .i8 0,.string (⟨#[]⟩ : ByteArray),.int .i8 0,.int .i64 0,.string (⟨#[]⟩ : ByteArray),.slice none 0 0,.int .i8 0,.string (⟨#[]⟩ : ByteArray),.int .i8 0,.int .i64 0,.string (⟨#[]⟩ : ByteArray),.slice none 0 0]) rfl) ?_)))
  refine ⟨_,rfl,?_,(Keep.then_ (Ext.trans (NewB.ext n3) x4) (Wrote.keep k7) (fun i_ hi_ h_ => by have a_ := NewB.eq n3; have b_ := Keep.size (Ext.refl w); omega))⟩
  rfl
theorem l_isLiteral (n : Int) (w : World) (tb : Tabs Tryz.prog w) (hn : 0 ≤ n ∧ n ≤ 1000000) :
    Rt Tryz.prog 95 #[.agg #[.int .i8 99,.string ((⟨#[35]⟩ : ByteArray) ++ itoaB n),.slice none 0 0,.int .i8 0,.int .i8 0,.string (⟨#[]⟩ : ByteArray),.int .i8 0,.int .i64 0,.string (⟨#[]⟩ : ByteArray),.slice none 0 0,.int .i8 0,.string (⟨#[]⟩ : ByteArray),.int .i8 0,.int .i64 0,.string (⟨#[]⟩ : ByteArray),.slice none 0 0],.int .i64 n] w fun v w' => v = .bool true ∧ Ext w w' := by
  refine enter Tryz.func95 rfl (l := [.agg #[.int .i8 99,.string ((⟨#[35]⟩ : ByteArray) ++ itoaB n),.slice none 0 0,.int .i8 0,.int .i8 0,.string (⟨#[]⟩ : ByteArray),.int .i8 0,.int .i64 0,.string (⟨#[]⟩ : ByteArray),.slice none 0 0,.int .i8 0,.string (⟨#[]⟩ : ByteArray),.int .i8 0,.int .i64 0,.string (⟨#[]⟩ : ByteArray),.slice none 0 0],.int .i64 n]) rfl Tryz.ntmps95 (Nat.le_of_ble_eq_true rfl) ?_
  refine c_seq (c_reg (s_box (v := .agg #[.int .i8 99,.string ((⟨#[35]⟩ : ByteArray) ++ itoaB n),.slice none 0 0,.int .i8 0,.int .i8 0,.string (⟨#[]⟩ : ByteArray),.int .i8 0,.int .i64 0,.string (⟨#[]⟩ : ByteArray),.slice none 0 0,.int .i8 0,.string (⟨#[]⟩ : ByteArray),.int .i8 0,.int .i64 0,.string (⟨#[]⟩ : ByteArray),.slice none 0 0]) (cs := #[.int .i8 99,.string ((⟨#[35]⟩ : ByteArray) ++ itoaB n),.slice none 0 0,.int .i8 0,.int .i8 0,.string (⟨#[]⟩ : ByteArray),.int .i8 0,.int .i64 0,.string (⟨#[]⟩ : ByteArray),.slice none 0 0,.int .i8 0,.string (⟨#[]⟩ : ByteArray),.int .i8 0,.int .i64 0,.string (⟨#[]⟩ : ByteArray),.slice none 0 0]) (w0 rfl) (ej rfl rfl) rfl ?_))
  intro w2 g1 n3
  refine s_assign (v := .bool false) ev_c (w0 rfl) (c_done (n_then (c_seq (c_quiet mixed (by kernel_rfl) (q_val (v := .pointer (some ⟨g1,0,none⟩)) (w0 rfl) (fun w_ c_ => r_field (off := 0) (o' := 0) F_f38_0 (ej rfl rfl) rfl) (q_val (v := .int .i8 99) (w0 rfl) (fun w_ c_ => r_load (v := .int .i8 99) F_o26 (ej rfl rfl) (cell_of_blk (i := 0) (Ext.blk c_ (NewB.blk n3)) rfl)) (q_val (v := .bool true) (w0 rfl) (fun w_ c_ => r_cmp (r := true) (ej rfl rfl) ev_c rfl) (q_val (v := .bool true) (w0 rfl) (fun w_ c_ => r_move (v := .bool true) (ej rfl rfl)) (q_val (v := .pointer (some ⟨g1,1,none⟩)) (wy rfl rfl rfl rfl) (fun w_ c_ => r_field (off := 1) (o' := 1) F_f38_1 (ej rfl rfl) rfl) (q_val (v := .pointer (some ⟨g1,1,none⟩)) (wy rfl rfl rfl rfl) (fun w_ c_ => r_field (off := 0) (o' := 1) F_f24_0 (ej rfl rfl) rfl) (q_val (v := .string ((⟨#[35]⟩ : ByteArray) ++ itoaB n)) (wy rfl rfl rfl rfl) (fun w_ c_ => r_load (v := .string ((⟨#[35]⟩ : ByteArray) ++ itoaB n)) F_o9 (ej rfl rfl) (cell_of_blk (i := 1) (Ext.blk c_ (NewB.blk n3)) rfl)) ?_)))))))))))
  refine q_val (v := .int .i64 n) (wy rfl rfl rfl rfl) (fun w_ c_ => r_move (v := .int .i64 n) (ej rfl rfl)) (q_call (v := .string ((⟨#[35]⟩ : ByteArray) ++ itoaB n)) F_e96 (wy rfl rfl rfl rfl) ev_f (m1 (ej rfl rfl)) (args := #[.int .i64 n]) rfl (fun w_ c_ => Rt.mono (l_word n _ (Tabs.ext tb (Ext.trans (NewB.ext n3) c_)) (by omega)) (fun v_ w2_ h_ => ⟨h_.1,Ext.trans c_ h_.2⟩)) (q_val (v := .bool true) (wy rfl rfl rfl rfl) (fun w_ c_ => r_cmpS (r := true) (ej rfl rfl) (ej rfl rfl) (cmpS_self _)) (q_val (v := .bool true) (w0 rfl) (fun w_ c_ => r_pick1 (v := .bool true) (ej rfl rfl) (ej rfl rfl)) (q_val (v := .bool true) (w0 rfl) (fun w_ c_ => r_move (v := .bool true) (ej rfl rfl)) (q_val (v := .pointer (some ⟨g1,1,none⟩)) (wy rfl rfl rfl rfl) (fun w_ c_ => r_field (off := 1) (o' := 1) F_f38_1 (ej rfl rfl) rfl) (q_val (v := .pointer (some ⟨g1,2,none⟩)) (wy rfl rfl rfl rfl) (fun w_ c_ => r_field (off := 1) (o' := 2) F_f24_1 (ej rfl rfl) rfl) (q_val (v := .slice none 0 0) (wy rfl rfl rfl rfl) (fun w_ c_ => r_load (v := .slice none 0 0) F_o22 (ej rfl rfl) (cell_of_blk (i := 2) (Ext.blk c_ (NewB.blk n3)) rfl)) (q_val (v := .int .i64 0) (wy rfl rfl rfl rfl) (fun w_ c_ => r_lenL F_l22 (ej rfl rfl)) (q_val (v := .bool true) (wy rfl rfl rfl rfl) (fun w_ c_ => r_cmp (r := true) (ej rfl rfl) ev_c rfl) (q_val (v := .bool true) (w0 rfl) (fun w_ c_ => r_pick1 (v := .bool true) (ej rfl rfl) (ej rfl rfl)) (q_val (v := .bool true) (w0 rfl) (fun w_ c_ => r_assign (v := .bool true) (ej rfl rfl)) ?_)))))))))))
  refine q_done ?_
  intro w4 x5
  refine n_then (c_ret (ret1 (v := .bool true) rfl rfl rfl ?_))
  refine ⟨_,rfl,?_,(Ext.trans (NewB.ext n3) x5)⟩
  rfl
theorem l_TwinLiterals (l : List Lt) (A : Option Addr) (c : Nat) (w : World) (hl : l.length * 216 ≤ 140737488351232) (hr : Row RL 16 w A l) (tb : Tabs Tryz.prog w) :
    Rt Tryz.prog 45 #[.slice A l.length c] w fun v w' => ∃ b,v = .slice (some ⟨b,0,none⟩) l.length (l.length + 1) ∧ TwG QL markL 16 w.heap.size w' b l ∧ Ext w w' := by
  refine enter Tryz.func45 rfl (l := [.slice A l.length c]) rfl Tryz.ntmps45 (Nat.le_of_ble_eq_true rfl) ?_
  refine c_seq (c_reg (s_assign (v := .slice none 0 0) ev_c (w0 rfl) (c_done (n_then (c_seq (c_reg (s_move (v := .slice A l.length c) (ej rfl rfl) (w0 rfl) (s_lenL F_l40 (ej rfl rfl) (w0 rfl) (s_add (r := ((l.length + 1 : Nat) : Int)) (ej rfl rfl) ev_c (by omega) (by omega) (w0 rfl) (s_make (k := l.length + 1) F_ul40 F_if38 (ej rfl rfl) (ej rfl rfl) (by omega) (by omega) (w0 rfl) ?_))))))))))
  intro w1 g2 cs3 hs4 n5
  have ge_g2 : w.heap.size ≤ g2 := by have a_ := NewB.eq n5; have b_ := Keep.size (Ext.refl w); omega
  have fl_g2 : Fill (EG QL markL (g2 + 1) l) 16 38 w1 g2 (l.length + 1) 0 := Fill.start n5 hs4
  refine s_assign (v := .slice (some ⟨g2,0,none⟩) (l.length + 1) (l.length + 1)) (ej rfl rfl) (w0 rfl) (c_done (n_then (c_seq (c_seq (c_reg (s_assign (v := .int .i64 0) ev_c (w0 rfl) (c_done (n_then (c_block (c_loop (α := Nat) (fun (i : Nat) env_ w_ => Ext w w_ ∧ i ≤ l.length ∧ Fill (EG QL markL (g2 + 1) l) 16 38 w_ g2 (l.length + 1) i ∧ env_ 0 = .slice A l.length c ∧ env_ 2 = .slice none 0 0 ∧ env_ 3 = .slice (some ⟨g2,0,none⟩) (l.length + 1) (l.length + 1) ∧ env_ 4 = .int .i64 ((i : Nat) : Int)) (fun i => l.length - i) (0) ⟨(NewB.ext n5),Nat.zero_le _,fl_g2,rfl,rfl,rfl,rfl⟩ ?_))))))))))
  rintro i env8 w6 ⟨x7,i9,i10,e11,e12,e13,e14⟩
  refine c_seq (c_seq (c_reg (s_move (v := .int .i64 ((i : Nat) : Int)) (ej rfl e14) (w0 rfl) (s_move (v := .slice A l.length c) (ej rfl e11) (w0 rfl) (s_lenL F_l40 (ej rfl rfl) (w0 rfl) (s_cmp (r := decide (((i : Nat) : Int) < (l.length : Int))) (ej rfl rfl) (ej rfl rfl) rfl (w0 rfl) (c_done (n_then ?_))))))))
  by_cases h15 : ((i : Nat) : Int) < (l.length : Int)
  · refine c_cond1 (vb (ej rfl rfl) (decide_eq_true h15)) (c_skip (n_then (c_seq (c_block (c_reg (s_move (v := .slice (some ⟨g2,0,none⟩) (l.length + 1) (l.length + 1)) (ej rfl e13) (w0 rfl) (s_move (v := .int .i64 ((i : Nat) : Int)) (ej rfl e14) (w0 rfl) (s_move (v := .slice A l.length c) (ej rfl e11) (w0 rfl) (s_move (v := .int .i64 ((i : Nat) : Int)) (ej rfl e14) (w0 rfl) ?_)))))))))
    obtain ⟨b16,o17,x18,csx18,hA19,hx20,hR21,hc22⟩ := Row.at_ hr i (by omega)
    obtain rfl := ltAt_of hx20
    obtain ⟨Aa23,A24,A25,ca26,c27,c28,rfl,ho29,ra30,r31,r32⟩ := hR21
    have q33_a := Lt.okc.a ho29
    have q33_e1 := Lt.okc.e1 ho29
    have q33_e2 := Lt.okc.e2 ho29
    have := Ex.okc.l q33_e1
    have := Ex.okc.l q33_e2
    have := Ex.okc.c q33_e1
    have := Ex.okc.c q33_e2
    have := At.okc.l q33_a
    have := At.okc.c q33_a
    have := At.okc.p q33_a
    refine s_indexR (j := i) F_l40 (ej rfl rfl) hA19 (ej rfl rfl) rfl (by omega) (w0 rfl) (s_loadL (cs := [.int .i8 ((ltAt l i).k),.string ((ltAt l i).a.p),.slice Aa23 ((ltAt l i).a.args.length) ca26,.int .i8 ((ltAt l i).r),.int .i8 ((ltAt l i).e1.op),.string ((ltAt l i).e1.t.v),.int .i8 ((ltAt l i).e1.t.l.k),.int .i64 ((ltAt l i).e1.t.l.n),.string ((ltAt l i).e1.t.l.s),.slice A24 ((ltAt l i).e1.kids.length) c27,.int .i8 ((ltAt l i).e2.op),.string ((ltAt l i).e2.t.v),.int .i8 ((ltAt l i).e2.t.l.k),.int .i64 ((ltAt l i).e2.t.l.n),.string ((ltAt l i).e2.t.l.s),.slice A25 ((ltAt l i).e2.kids.length) c28]) F_m38 (ej rfl rfl) rfl rfl (sub_cells (cells_ext x7 hc22) 0 rfl) (w0 rfl) (s_call F_e8 (w0 rfl) ev_f (m1 (ej rfl rfl)) (args := #[.agg #[.int .i8 ((ltAt l i).k),.string ((ltAt l i).a.p),.slice Aa23 ((ltAt l i).a.args.length) ca26,.int .i8 ((ltAt l i).r),.int .i8 ((ltAt l i).e1.op),.string ((ltAt l i).e1.t.v),.int .i8 ((ltAt l i).e1.t.l.k),.int .i64 ((ltAt l i).e1.t.l.n),.string ((ltAt l i).e1.t.l.s),.slice A24 ((ltAt l i).e1.kids.length) c27,.int .i8 ((ltAt l i).e2.op),.string ((ltAt l i).e2.t.v),.int .i8 ((ltAt l i).e2.t.l.k),.int .i64 ((ltAt l i).e2.t.l.n),.string ((ltAt l i).e2.t.l.s),.slice A25 ((ltAt l i).e2.kids.length) c28]]) rfl (l_TwinLiteral (ltAt l i) Aa23 A24 A25 ca26 c27 c28 _ ho29 (Row.extT ra30 x7) (Row.extE r31 x7) (Row.extE r32 x7) (Tabs.ext tb x7)) ?_))
    rintro _ w37 ⟨b34,b35,b36,rfl,tw39,tw40,tw41,x38⟩
    have okt42 : Lt.okc (ltAt l i) ((ltAt l i).a.args.length + 1) ((ltAt l i).e1.kids.length + 1) ((ltAt l i).e2.kids.length + 1) := Lt.okc.twin ho29
    have q43_a := Lt.okc.a okt42
    have q43_e1 := Lt.okc.e1 okt42
    have q43_e2 := Lt.okc.e2 okt42
    have := Ex.okc.l q43_e1
    have := Ex.okc.l q43_e2
    have := Ex.okc.c q43_e1
    have := Ex.okc.c q43_e2
    have := At.okc.l q43_a
    have := At.okc.c q43_a
    have := At.okc.p q43_a
    refine s_indexR (j := i) F_l40 (ej rfl rfl) rfl (ej rfl rfl) rfl (by omega) (w0 rfl) ?_
    have ee47 : EG QL markL (g2 + 1) l w37 i [.int .i8 ((ltAt l i).k),.string ((ltAt l i).a.p),.slice (some ⟨b34,0,none⟩) ((ltAt l i).a.args.length) ((ltAt l i).a.args.length + 1),.int .i8 ((ltAt l i).r),.int .i8 ((ltAt l i).e1.op),.string ((ltAt l i).e1.t.v),.int .i8 ((ltAt l i).e1.t.l.k),.int .i64 ((ltAt l i).e1.t.l.n),.string ((ltAt l i).e1.t.l.s),.slice (some ⟨b35,0,none⟩) ((ltAt l i).e1.kids.length) ((ltAt l i).e1.kids.length + 1),.int .i8 ((ltAt l i).e2.op),.string ((ltAt l i).e2.t.v),.int .i8 ((ltAt l i).e2.t.l.k),.int .i64 ((ltAt l i).e2.t.l.n),.string ((ltAt l i).e2.t.l.s),.slice (some ⟨b36,0,none⟩) ((ltAt l i).e2.kids.length) ((ltAt l i).e2.kids.length + 1)] := EG.of (ltAt_there (by omega)) (okL.mono (⟨b34,b35,b36,rfl,okt42,tw39,tw40,tw41⟩ : QL _ _ _ _) (by have a_ := Fill.lt i10; omega))
    refine s_storeF (i := i) (l := [.int .i8 ((ltAt l i).k),.string ((ltAt l i).a.p),.slice (some ⟨b34,0,none⟩) ((ltAt l i).a.args.length) ((ltAt l i).a.args.length + 1),.int .i8 ((ltAt l i).r),.int .i8 ((ltAt l i).e1.op),.string ((ltAt l i).e1.t.v),.int .i8 ((ltAt l i).e1.t.l.k),.int .i64 ((ltAt l i).e1.t.l.n),.string ((ltAt l i).e1.t.l.s),.slice (some ⟨b35,0,none⟩) ((ltAt l i).e1.kids.length) ((ltAt l i).e1.kids.length + 1),.int .i8 ((ltAt l i).e2.op),.string ((ltAt l i).e2.t.v),.int .i8 ((ltAt l i).e2.t.l.k),.int .i64 ((ltAt l i).e2.t.l.n),.string ((ltAt l i).e2.t.l.s),.slice (some ⟨b36,0,none⟩) ((ltAt l i).e2.kids.length) ((ltAt l i).e2.kids.length + 1)]) (Fill.cast (Fill.ext i10 x38 (fun j_ l_ h_ => EG.keep okL h_ x38 (fun _ h_ => h_.elim))) (by omega)) (by omega) F_sz38 (ej rfl rfl) (ej rfl rfl) rfl rfl rfl (fun w_ k_ => ⟨fun j_ l_ _ h_ => EG.keep okL h_ k_ (fun i_ q_ => by omega),EG.keep okL ee47 k_ (fun i_ q_ => by omega)⟩) (w0 rfl) ?_
    intro w44 fl45 k46
    refine c_done (n_block (n_then (c_reg (s_move (v := .int .i64 ((i : Nat) : Int)) (ej rfl e14) (w0 rfl) (s_add (r := ((i + 1 : Nat) : Int)) (ej rfl rfl) ev_c (by omega) (by omega) (w0 rfl) (s_assign (v := .int .i64 ((i + 1 : Nat) : Int)) (ej rfl rfl) (w0 rfl) (c_done ?_)))))))
    exact ⟨(i + 1),_,rfl,⟨(Keep.then_ (Ext.trans x7 x38) k46 (fun i_ hi_ h_ => by have a_ := ge_g2; omega)),by omega,fl45,e11,e12,e13,rfl⟩,(show l.length - (i + 1) < l.length - i by omega)⟩
  refine c_cond0 (vb (ej rfl rfl) (decide_eq_false h15)) (c_exit (e_then (e_then (e_hit (n_then (c_seq (c_reg (s_move (v := .slice (some ⟨g2,0,none⟩) (l.length + 1) (l.length + 1)) (ej rfl e13) (w0 rfl) (s_move (v := .slice A l.length c) (ej rfl e11) (w0 rfl) (s_lenL F_l40 (ej rfl rfl) (w0 rfl) (s_call F_e86 (w0 rfl) ev_f (m1 ev_c) (args := #[.int .i64 777777]) rfl (l_markLiteral 777777 _ (Tabs.ext tb x7) (by omega)) ?_)))))))))))
  rintro _ w49 ⟨rfl,x48⟩
  refine s_indexR (j := l.length) F_l40 (ej rfl rfl) rfl (ej rfl rfl) rfl (by omega) (w0 rfl) ?_
  have ee53 : EG QL markL (g2 + 1) l w49 l.length [.int .i8 99,.string ((⟨#[35]⟩ : ByteArray) ++ itoaB 777777),.slice none 0 0,.int .i8 0,.int .i8 0,.string (⟨#[]⟩ : ByteArray),.int .i8 0,.int .i64 0,.string (⟨#[]⟩ : ByteArray),.slice none 0 0,.int .i8 0,.string (⟨#[]⟩ : ByteArray),.int .i8 0,.int .i64 0,.string (⟨#[]⟩ : ByteArray),.slice none 0 0] := EG.mark
  refine s_storeF (i := l.length) (l := [.int .i8 99,.string ((⟨#[35]⟩ : ByteArray) ++ itoaB 777777),.slice none 0 0,.int .i8 0,.int .i8 0,.string (⟨#[]⟩ : ByteArray),.int .i8 0,.int .i64 0,.string (⟨#[]⟩ : ByteArray),.slice none 0 0,.int .i8 0,.string (⟨#[]⟩ : ByteArray),.int .i8 0,.int .i64 0,.string (⟨#[]⟩ : ByteArray),.slice none 0 0]) (Fill.cast (Fill.ext i10 x48 (fun j_ l_ h_ => EG.keep okL h_ x48 (fun _ h_ => h_.elim))) (by omega)) (by omega) F_sz38 (ej rfl rfl) (ej rfl rfl) rfl rfl rfl (fun w_ k_ => ⟨fun j_ l_ _ h_ => EG.keep okL h_ k_ (fun i_ q_ => by omega),EG.keep okL ee53 k_ (fun i_ q_ => by omega)⟩) (w0 rfl) ?_
  intro w50 fl51 k52
  refine c_done (n_then (c_seq (c_reg (s_move (v := .slice (some ⟨g2,0,none⟩) (l.length + 1) (l.length + 1)) (ej rfl e13) (w0 rfl) (s_move (v := .slice A l.length c) (ej rfl e11) (w0 rfl) (s_lenL F_l40 (ej rfl rfl) (w0 rfl) (s_sliceH (h := l.length) F_uE40 F_iE40 (ej rfl rfl) (ej rfl rfl) (by omega) (w0 rfl) (s_assign (v := .slice (some ⟨g2,0,none⟩) l.length (l.length + 1)) (ej rfl rfl) (w0 rfl) (c_done (n_then (c_ret ?_)))))))))))
  refine ret1 (v := .slice (some ⟨g2,0,none⟩) l.length (l.length + 1)) rfl rfl rfl ?_
  exact ⟨_,rfl,g2,rfl,TwG.of_fill okL (Fill.cast fl51 (by omega)) (by omega) (by omega),(Keep.then_ (Ext.trans x7 x48) k52 (fun i_ hi_ h_ => by have a_ := ge_g2; omega))⟩
theorem l_LeftLiterals (l : List Lt) (A : Option Addr) (c b lo : Nat) (w : World) (hl : l.length * 216 ≤ 140737488351232) (tw : TwG QL markL 16 lo w b l) (hr : Row RL 16 w A l) (tb : Tabs Tryz.prog w) :
    Rt Tryz.prog 52 #[.slice (some ⟨b,0,none⟩) l.length (l.length + 1),.slice A l.length c] w fun v w' => v = .bool true ∧ Ext w w' := by
  refine enter Tryz.func52 rfl (l := [.slice (some ⟨b,0,none⟩) l.length (l.length + 1),.slice A l.length c]) rfl Tryz.ntmps52 (Nat.le_of_ble_eq_true rfl) ?_
  refine c_seq (c_reg (s_assign (v := .bool false) ev_c (w0 rfl) (c_done (n_then (c_seq (c_seq (c_reg (s_move (v := .slice (some ⟨b,0,none⟩) l.length (l.length + 1)) (ej rfl rfl) (w0 rfl) (s_lenL F_l40 (ej rfl rfl) (w0 rfl) (s_move (v := .slice A l.length c) (ej rfl rfl) (w0 rfl) (s_lenL F_l40 (ej rfl rfl) (w0 rfl) ?_)))))))))))
  refine s_cmp (r := false) (ej rfl rfl) (ej rfl rfl) (cmpI_selfn _) (w0 rfl) (c_done (n_then (c_cond0 (ej rfl rfl) (c_skip (n_then (c_seq (c_seq (c_reg (s_assign (v := .int .i64 0) ev_c (w0 rfl) (c_done (n_then ?_)))))))))))
  refine c_block (c_loop (α := Nat) (fun (i : Nat) env_ w_ => Ext w w_ ∧ i ≤ l.length ∧ env_ 0 = .slice (some ⟨b,0,none⟩) l.length (l.length + 1) ∧ env_ 1 = .slice A l.length c ∧ env_ 5 = .int .i64 ((i : Nat) : Int)) (fun i => l.length - i) (0) ⟨Ext.refl _,Nat.zero_le _,rfl,rfl,rfl⟩ ?_)
  rintro i env3 w1 ⟨x2,i4,e5,e6,e7⟩
  refine c_seq (c_seq (c_reg (s_move (v := .int .i64 ((i : Nat) : Int)) (ej rfl e7) (w0 rfl) (s_move (v := .slice A l.length c) (ej rfl e6) (w0 rfl) (s_lenL F_l40 (ej rfl rfl) (w0 rfl) (s_cmp (r := decide (((i : Nat) : Int) < (l.length : Int))) (ej rfl rfl) (ej rfl rfl) rfl (w0 rfl) (c_done (n_then ?_))))))))
  by_cases h8 : ((i : Nat) : Int) < (l.length : Int)
  · refine c_cond1 (vb (ej rfl rfl) (decide_eq_true h8)) (c_skip (n_then (c_seq (c_block (c_seq (c_quiet mixed (by kernel_rfl) (q_val (v := .slice (some ⟨b,0,none⟩) l.length (l.length + 1)) (w0 rfl) (fun w_ c_ => r_move (v := .slice (some ⟨b,0,none⟩) l.length (l.length + 1)) (ej rfl e5)) (q_val (v := .int .i64 ((i : Nat) : Int)) (w0 rfl) (fun w_ c_ => r_move (v := .int .i64 ((i : Nat) : Int)) (ej rfl e7)) ?_))))))))
    obtain ⟨_,hq9,hc10⟩ := TwG.row tw i (ltAt l i) (ltAt_there (by omega))
    obtain ⟨b11,b12,b13,rfl,ho17,tw14,tw15,tw16⟩ := hq9
    have q18_a := Lt.okc.a ho17
    have q18_e1 := Lt.okc.e1 ho17
    have q18_e2 := Lt.okc.e2 ho17
    have := Ex.okc.l q18_e1
    have := Ex.okc.l q18_e2
    have := Ex.okc.c q18_e1
    have := Ex.okc.c q18_e2
    have := At.okc.l q18_a
    have := At.okc.c q18_a
    have := At.okc.p q18_a
    refine q_val (v := .pointer (some ⟨b,0 + i * 16,none⟩)) (w0 rfl) (fun w_ c_ => r_indexR (j := i) F_l40 (ej rfl rfl) rfl (ej rfl rfl) rfl (by omega)) (q_val (v := .agg #[.int .i8 ((ltAt l i).k),.string ((ltAt l i).a.p),.slice (some ⟨b11,0,none⟩) ((ltAt l i).a.args.length) ((ltAt l i).a.args.length + 1),.int .i8 ((ltAt l i).r),.int .i8 ((ltAt l i).e1.op),.string ((ltAt l i).e1.t.v),.int .i8 ((ltAt l i).e1.t.l.k),.int .i64 ((ltAt l i).e1.t.l.n),.string ((ltAt l i).e1.t.l.s),.slice (some ⟨b12,0,none⟩) ((ltAt l i).e1.kids.length) ((ltAt l i).e1.kids.length + 1),.int .i8 ((ltAt l i).e2.op),.string ((ltAt l i).e2.t.v),.int .i8 ((ltAt l i).e2.t.l.k),.int .i64 ((ltAt l i).e2.t.l.n),.string ((ltAt l i).e2.t.l.s),.slice (some ⟨b13,0,none⟩) ((ltAt l i).e2.kids.length) ((ltAt l i).e2.kids.length + 1)]) (w0 rfl) (fun w_ c_ => r_loadL (cs := [.int .i8 ((ltAt l i).k),.string ((ltAt l i).a.p),.slice (some ⟨b11,0,none⟩) ((ltAt l i).a.args.length) ((ltAt l i).a.args.length + 1),.int .i8 ((ltAt l i).r),.int .i8 ((ltAt l i).e1.op),.string ((ltAt l i).e1.t.v),.int .i8 ((ltAt l i).e1.t.l.k),.int .i64 ((ltAt l i).e1.t.l.n),.string ((ltAt l i).e1.t.l.s),.slice (some ⟨b12,0,none⟩) ((ltAt l i).e1.kids.length) ((ltAt l i).e1.kids.length + 1),.int .i8 ((ltAt l i).e2.op),.string ((ltAt l i).e2.t.v),.int .i8 ((ltAt l i).e2.t.l.k),.int .i64 ((ltAt l i).e2.t.l.n),.string ((ltAt l i).e2.t.l.s),.slice (some ⟨b13,0,none⟩) ((ltAt l i).e2.kids.length) ((ltAt l i).e2.kids.length + 1)]) F_m38 (ej rfl rfl) rfl rfl (sub_cells (cells_ext c_ (cells_ext x2 hc10)) 0 rfl)) (q_val (v := .slice A l.length c) (w0 rfl) (fun w_ c_ => r_move (v := .slice A l.length c) (ej rfl e6)) (q_val (v := .int .i64 ((i : Nat) : Int)) (w0 rfl) (fun w_ c_ => r_move (v := .int .i64 ((i : Nat) : Int)) (ej rfl e7)) ?_)))
    obtain ⟨b19,o20,x21,csx21,hA22,hx23,hR24,hc25⟩ := Row.at_ hr i (by omega)
    obtain rfl := ltAt_of hx23
    obtain ⟨Aa26,A27,A28,ca29,c30,c31,rfl,ho32,ra33,r34,r35⟩ := hR24
    have q36_a := Lt.okc.a ho32
    have q36_e1 := Lt.okc.e1 ho32
    have q36_e2 := Lt.okc.e2 ho32
    have := Ex.okc.l q36_e1
    have := Ex.okc.l q36_e2
    have := Ex.okc.c q36_e1
    have := Ex.okc.c q36_e2
    have := At.okc.l q36_a
    have := At.okc.c q36_a
    have := At.okc.p q36_a
    refine q_val (v := .pointer (some ⟨b19,o20 + i * 16,none⟩)) (w0 rfl) (fun w_ c_ => r_indexR (j := i) F_l40 (ej rfl rfl) hA22 (ej rfl rfl) rfl (by omega)) (q_val (v := .agg #[.int .i8 ((ltAt l i).k),.string ((ltAt l i).a.p),.slice Aa26 ((ltAt l i).a.args.length) ca29,.int .i8 ((ltAt l i).r),.int .i8 ((ltAt l i).e1.op),.string ((ltAt l i).e1.t.v),.int .i8 ((ltAt l i).e1.t.l.k),.int .i64 ((ltAt l i).e1.t.l.n),.string ((ltAt l i).e1.t.l.s),.slice A27 ((ltAt l i).e1.kids.length) c30,.int .i8 ((ltAt l i).e2.op),.string ((ltAt l i).e2.t.v),.int .i8 ((ltAt l i).e2.t.l.k),.int .i64 ((ltAt l i).e2.t.l.n),.string ((ltAt l i).e2.t.l.s),.slice A28 ((ltAt l i).e2.kids.length) c31]) (w0 rfl) (fun w_ c_ => r_loadL (cs := [.int .i8 ((ltAt l i).k),.string ((ltAt l i).a.p),.slice Aa26 ((ltAt l i).a.args.length) ca29,.int .i8 ((ltAt l i).r),.int .i8 ((ltAt l i).e1.op),.string ((ltAt l i).e1.t.v),.int .i8 ((ltAt l i).e1.t.l.k),.int .i64 ((ltAt l i).e1.t.l.n),.string ((ltAt l i).e1.t.l.s),.slice A27 ((ltAt l i).e1.kids.length) c30,.int .i8 ((ltAt l i).e2.op),.string ((ltAt l i).e2.t.v),.int .i8 ((ltAt l i).e2.t.l.k),.int .i64 ((ltAt l i).e2.t.l.n),.string ((ltAt l i).e2.t.l.s),.slice A28 ((ltAt l i).e2.kids.length) c31]) F_m38 (ej rfl rfl) rfl rfl (sub_cells (cells_ext c_ (cells_ext x2 hc25)) 0 rfl)) (q_call (v := .bool true) F_e16 (w0 rfl) ev_f (m2 (ej rfl rfl) (ej rfl rfl)) (args := #[.agg #[.int .i8 ((ltAt l i).k),.string ((ltAt l i).a.p),.slice (some ⟨b11,0,none⟩) ((ltAt l i).a.args.length) ((ltAt l i).a.args.length + 1),.int .i8 ((ltAt l i).r),.int .i8 ((ltAt l i).e1.op),.string ((ltAt l i).e1.t.v),.int .i8 ((ltAt l i).e1.t.l.k),.int .i64 ((ltAt l i).e1.t.l.n),.string ((ltAt l i).e1.t.l.s),.slice (some ⟨b12,0,none⟩) ((ltAt l i).e1.kids.length) ((ltAt l i).e1.kids.length + 1),.int .i8 ((ltAt l i).e2.op),.string ((ltAt l i).e2.t.v),.int .i8 ((ltAt l i).e2.t.l.k),.int .i64 ((ltAt l i).e2.t.l.n),.string ((ltAt l i).e2.t.l.s),.slice (some ⟨b13,0,none⟩) ((ltAt l i).e2.kids.length) ((ltAt l i).e2.kids.length + 1)],.agg #[.int .i8 ((ltAt l i).k),.string ((ltAt l i).a.p),.slice Aa26 ((ltAt l i).a.args.length) ca29,.int .i8 ((ltAt l i).r),.int .i8 ((ltAt l i).e1.op),.string ((ltAt l i).e1.t.v),.int .i8 ((ltAt l i).e1.t.l.k),.int .i64 ((ltAt l i).e1.t.l.n),.string ((ltAt l i).e1.t.l.s),.slice A27 ((ltAt l i).e1.kids.length) c30,.int .i8 ((ltAt l i).e2.op),.string ((ltAt l i).e2.t.v),.int .i8 ((ltAt l i).e2.t.l.k),.int .i64 ((ltAt l i).e2.t.l.n),.string ((ltAt l i).e2.t.l.s),.slice A28 ((ltAt l i).e2.kids.length) c31]]) rfl (fun w_ c_ => Rt.mono (l_LeftLiteral (ltAt l i) Aa26 A27 A28 ca29 c30 c31 b11 b12 b13 _ _ ho32 (Row.extT (Row.extT ra33 x2) c_) (Row.extE (Row.extE r34 x2) c_) (Row.extE (Row.extE r35 x2) c_) (TwG.ext okT (TwG.ext okT tw14 x2) c_) (TwE.ext (TwE.ext tw15 x2) c_) (TwE.ext (TwE.ext tw16 x2) c_) (Tabs.ext tb (Ext.trans x2 c_))) (fun v_ w2_ h_ => ⟨h_.1,Ext.trans c_ h_.2⟩)) (q_val (v := .bool false) (w0 rfl) (fun w_ c_ => r_not (b := true) (ej rfl rfl)) (q_done ?_))))
    intro w37 x38
    refine n_then (c_cond0 (ej rfl rfl) (c_skip (n_block (n_then (c_reg (s_move (v := .int .i64 ((i : Nat) : Int)) (ej rfl e7) (w0 rfl) (s_add (r := ((i + 1 : Nat) : Int)) (ej rfl rfl) ev_c (by omega) (by omega) (w0 rfl) (s_assign (v := .int .i64 ((i + 1 : Nat) : Int)) (ej rfl rfl) (w0 rfl) (c_done ?_)))))))))
    exact ⟨(i + 1),_,rfl,⟨(Ext.trans x2 x38),by omega,e5,e6,rfl⟩,(show l.length - (i + 1) < l.length - i by omega)⟩
  refine c_cond0 (vb (ej rfl rfl) (decide_eq_false h8)) (c_exit (e_then (e_then (e_hit (n_then (c_seq (c_reg (s_move (v := .slice (some ⟨b,0,none⟩) l.length (l.length + 1)) (ej rfl e5) (w0 rfl) (s_move (v := .slice A l.length c) (ej rfl e6) (w0 rfl) (s_lenL F_l40 (ej rfl rfl) (w0 rfl) (s_add (r := ((l.length + 1 : Nat) : Int)) (ej rfl rfl) ev_c (by omega) (by omega) (w0 rfl) ?_)))))))))))
  refine s_sliceH (h := l.length + 1) F_uE40 F_iE40 (ej rfl rfl) (ej rfl rfl) (by omega) (w0 rfl) (s_move (v := .slice A l.length c) (ej rfl e6) (w0 rfl) (s_lenL F_l40 (ej rfl rfl) (w0 rfl) (s_indexR (j := l.length) F_l40 (ej rfl rfl) rfl (ej rfl rfl) rfl (by omega) (w0 rfl) (s_loadL (cs := [.int .i8 99,.string ((⟨#[35]⟩ : ByteArray) ++ itoaB 777777),.slice none 0 0,.int .i8 0,.int .i8 0,.string (⟨#[]⟩ : ByteArray),.int .i8 0,.int .i64 0,.string (⟨#[]⟩ : ByteArray),.slice none 0 0,.int .i8 0,.string (⟨#[]⟩ : ByteArray),.int .i8 0,.int .i64 0,.string (⟨#[]⟩ : ByteArray),.slice none 0 0]) F_m38 (ej rfl rfl) rfl rfl (sub_cells (cells_ext x2 (TwG.mark tw)) 0 rfl) (w0 rfl) (s_call F_e95 (w0 rfl) ev_f (m2 (ej rfl rfl) ev_c) (args := #[.agg #[.int .i8 99,.string ((⟨#[35]⟩ : ByteArray) ++ itoaB 777777),.slice none 0 0,.int .i8 0,.int .i8 0,.string (⟨#[]⟩ : ByteArray),.int .i8 0,.int .i64 0,.string (⟨#[]⟩ : ByteArray),.slice none 0 0,.int .i8 0,.string (⟨#[]⟩ : ByteArray),.int .i8 0,.int .i64 0,.string (⟨#[]⟩ : ByteArray),.slice none 0 0],.int .i64 777777]) rfl (l_isLiteral 777777 _ (Tabs.ext tb x2) (by omega)) ?_)))))
  rintro _ w40 ⟨rfl,x39⟩
  refine s_assign (v := .bool true) (ej rfl rfl) (w0 rfl) (c_done (n_then (c_ret (ret1 (v := .bool true) rfl rfl rfl ?_))))
  refine ⟨_,rfl,?_,(Ext.trans x2 x39)⟩
  rfl
theorem l_TwinRule (x : Ru) (Ah Ab : Option Addr) (ch cb : Nat) (w : World) (ho : x.okc ch cb) (hrh : Row RG 5 w Ah x.head) (hrb : Row RL 16 w Ab x.body) (tb : Tabs Tryz.prog w) :
    Rt Tryz.prog 19 #[.agg #[.string x.p,.slice Ah x.head.length ch,.slice Ab x.body.length cb]] w fun v w' => ∃ bh bb,v = .agg #[.string x.p,.slice (some ⟨bh,0,none⟩) x.head.length (x.head.length + 1),.slice (some ⟨bb,0,none⟩) x.body.length (x.body.length + 1)] ∧ TwG QG markG 5 w.heap.size w' bh x.head ∧ TwG QL markL 16 w.heap.size w' bb x.body ∧ Ext w w' := by
  refine enter Tryz.func19 rfl (l := [.agg #[.string x.p,.slice Ah x.head.length ch,.slice Ab x.body.length cb]]) rfl Tryz.ntmps19 (Nat.le_of_ble_eq_true rfl) ?_
  have hpr_ := Ru.okc.p ho
  have hhl_ := Ru.okc.hl ho
  have hhc_ := Ru.okc.hc ho
  have hbl_ := Ru.okc.bl ho
  have hbc_ := Ru.okc.bc ho
  refine c_seq (c_reg (s_box (v := .agg #[.string x.p,.slice Ah x.head.length ch,.slice Ab x.body.length cb]) (cs := #[.string x.p,.slice Ah x.head.length ch,.slice Ab x.body.length cb]) (w0 rfl) (ej rfl rfl) rfl ?_))
  intro w2 g1 n3
  refine s_alloc (cs := #[.string (⟨#[]⟩ : ByteArray),.slice none 0 0,.slice none 0 0]) (w0 rfl) F_z53 rfl ?_
  intro w5 g4 n6
  refine c_done (n_then (c_seq (c_reg (s_field (off := 1) (o' := 1) F_f53_1 (ej rfl rfl) rfl (w0 rfl) (s_load (v := .slice Ah x.head.length ch) F_o51 (ej rfl rfl) (cell_of_blk (i := 1) (Ext.blk (NewB.ext n6) (NewB.blk n3)) rfl) (w0 rfl) (s_call F_e44 (w0 rfl) ev_f (m1 (ej rfl rfl)) (args := #[.slice Ah x.head.length ch]) rfl (l_TwinArgs x.head Ah ch _ (by omega) (Row.extG (Row.extG hrh (NewB.ext n3)) (NewB.ext n6)) (Tabs.ext tb (Ext.trans (NewB.ext n3) (NewB.ext n6)))) ?_))))))
  rintro _ w8 ⟨b7,rfl,tw9,x10⟩
  refine s_field (off := 1) (o' := 1) F_f53_1 (ej rfl rfl) rfl (w0 rfl) (s_store (cs' := #[.string x.p,.slice (some ⟨b7,0,none⟩) x.head.length (x.head.length + 1),.slice Ab x.body.length cb]) F_sz51 (ej rfl rfl) (ej rfl rfl) (l := [.slice (some ⟨b7,0,none⟩) x.head.length (x.head.length + 1)]) rfl rfl rfl (Ext.blk x10 (Ext.blk (NewB.ext n6) (NewB.blk n3))) (Nat.le_of_ble_eq_true rfl) rfl (w0 rfl) ?_)
  intro w11 k12
  refine c_done (n_then (c_seq (c_reg (s_field (off := 2) (o' := 2) F_f53_2 (ej rfl rfl) rfl (w0 rfl) (s_load (v := .slice Ab x.body.length cb) F_o40 (ej rfl rfl) (cell_of_blk (i := 2) (Wrote.blk k12) rfl) (w0 rfl) (s_call F_e45 (w0 rfl) ev_f (m1 (ej rfl rfl)) (args := #[.slice Ab x.body.length cb]) rfl (l_TwinLiterals x.body Ab cb _ (by omega) (Row.extL hrb (Keep.then_ (Ext.trans (Ext.trans (NewB.ext n3) (NewB.ext n6)) x10) (Wrote.keep k12) (fun i_ hi_ h_ => by have a_ := NewB.eq n3; have b_ := Keep.size (Ext.refl w); omega))) (Tabs.ext tb (Keep.then_ (Ext.trans (Ext.trans (NewB.ext n3) (NewB.ext n6)) x10) (Wrote.keep k12) (fun i_ hi_ h_ => by have a_ := NewB.eq n3; have b_ := Keep.size (Ext.refl w); omega)))) ?_))))))
  rintro _ w14 ⟨b13,rfl,tw15,x16⟩
  refine s_field (off := 2) (o' := 2) F_f53_2 (ej rfl rfl) rfl (w0 rfl) (s_store (cs' := #[.string x.p,.slice (some ⟨b7,0,none⟩) x.head.length (x.head.length + 1),.slice (some ⟨b13,0,none⟩) x.body.length (x.body.length + 1)]) F_sz40 (ej rfl rfl) (ej rfl rfl) (l := [.slice (some ⟨b13,0,none⟩) x.body.length (x.body.length + 1)]) rfl rfl rfl (Ext.blk x16 (Wrote.blk k12)) (Nat.le_of_ble_eq_true rfl) rfl (w0 rfl) ?_)
  intro w17 k18
  refine c_done (n_then (c_seq (c_reg (s_loadL (cs := [.string x.p,.slice (some ⟨b7,0,none⟩) x.head.length (x.head.length + 1),.slice (some ⟨b13,0,none⟩) x.body.length (x.body.length + 1)]) F_m53 (ej rfl rfl) rfl rfl (blk_cells (Wrote.blk k18) 0 rfl) (w0 rfl) (s_store (cs' := #[.string x.p,.slice (some ⟨b7,0,none⟩) x.head.length (x.head.length + 1),.slice (some ⟨b13,0,none⟩) x.body.length (x.body.length + 1)]) F_sz53 (ej rfl rfl) (ej rfl rfl) (l := [.string x.p,.slice (some ⟨b7,0,none⟩) x.head.length (x.head.length + 1),.slice (some ⟨b13,0,none⟩) x.body.length (x.body.length + 1)]) rfl rfl rfl (Keep.blk (Wrote.keep k18) (Ext.blk x16 (Keep.blk (Wrote.keep k12) (Ext.blk x10 (NewB.blk n6)) (by have a_ := NewB.eq n6; have b_ := lt_of_blk (NewB.blk n3); omega))) (by have a_ := NewB.eq n6; have b_ := lt_of_blk (NewB.blk n3); omega)) (Nat.le_of_ble_eq_true rfl) rfl (w0 rfl) ?_)))))
  intro w19 k20
  refine c_done (n_then (c_ret (retC (cs := [.string x.p,.slice (some ⟨b7,0,none⟩) x.head.length (x.head.length + 1),.slice (some ⟨b13,0,none⟩) x.body.length (x.body.length + 1)]) (ca := #[.string x.p,.slice (some ⟨b7,0,none⟩) x.head.length (x.head.length + 1),.slice (some ⟨b13,0,none⟩) x.body.length (x.body.length + 1)]) rfl rfl rfl F_m53 rfl rfl (blk_cells (Wrote.blk k20) 0 (cs := [.string x.p,.slice (some ⟨b7,0,none⟩) x.head.length (x.head.length + 1),.slice (some ⟨b13,0,none⟩) x.body.length (x.body.length + 1)]) rfl) ?_)))
  exact ⟨_,rfl,b7,b13,rfl,TwG.mono okG (TwG.keep okG (TwG.keep okG (TwG.ext okG (TwG.keep okG tw9 (Wrote.keep k12) (fun i_ h_ => by have a_ := NewB.eq n3; have b_ := NewB.size n3; have c_ := (Keep.size (NewB.ext n6)); omega)) x16) (Wrote.keep k18) (fun i_ h_ => by have a_ := NewB.eq n3; have b_ := NewB.size n3; have c_ := (Keep.size (NewB.ext n6)); omega)) (Wrote.keep k20) (fun i_ h_ => by have a_ := NewB.eq n6; have b_ := NewB.size n6; have c_ := (Nat.le_refl 0); omega)) (Nat.le_trans (Keep.size (NewB.ext n3)) (Keep.size (NewB.ext n6))),TwG.mono okL (TwG.keep okL (TwG.keep okL tw15 (Wrote.keep k18) (fun i_ h_ => by have a_ := NewB.eq n3; have b_ := NewB.size n3; have c_ := (Nat.le_trans (Nat.le_trans (Keep.size (NewB.ext n6)) (Keep.size x10)) (Keep.size (Wrote.keep k12))); omega)) (Wrote.keep k20) (fun i_ h_ => by have a_ := NewB.eq n6; have b_ := NewB.size n6; have c_ := (Nat.le_trans (Keep.size x10) (Keep.size (Wrote.keep k12))); omega)) (Nat.le_trans (Nat.le_trans (Nat.le_trans (Keep.size (NewB.ext n3)) (Keep.size (NewB.ext n6))) (Keep.size x10)) (Keep.size (Wrote.keep k12))),(Keep.then_ (Keep.then_ (Ext.trans (Keep.then_ (Ext.trans (Ext.trans (NewB.ext n3) (NewB.ext n6)) x10) (Wrote.keep k12) (fun i_ hi_ h_ => by have a_ := NewB.eq n3; have b_ := Keep.size (Ext.refl w); omega)) x16) (Wrote.keep k18) (fun i_ hi_ h_ => by have a_ := NewB.eq n3; have b_ := Keep.size (Ext.refl w); omega)) (Wrote.keep k20) (fun i_ hi_ h_ => by have a_ := NewB.eq n6; have b_ := Keep.size (NewB.ext n3); omega))⟩
theorem l_LeftRule (x : Ru) (Ah Ab : Option Addr) (ch cb : Nat) (bh bb lo : Nat) (w : World) (ho : x.okc ch cb) (hrh : Row RG 5 w Ah x.head) (hrb : Row RL 16 w Ab x.body) (twh : TwG QG markG 5 lo w bh x.head) (twb : TwG QL markL 16 lo w bb x.body) (tb : Tabs Tryz.prog w) :
    Rt Tryz.prog 22 #[.agg #[.string x.p,.slice (some ⟨bh,0,none⟩) x.head.length (x.head.length + 1),.slice (some ⟨bb,0,none⟩) x.body.length (x.body.length + 1)],.agg #[.string x.p,.slice Ah x.head.length ch,.slice Ab x.body.length cb]] w fun v w' => v = .bool true ∧ Ext w w' := by
  refine enter Tryz.func22 rfl (l := [.agg #[.string x.p,.slice (some ⟨bh,0,none⟩) x.head.length (x.head.length + 1),.slice (some ⟨bb,0,none⟩) x.body.length (x.body.length + 1)],.agg #[.string x.p,.slice Ah x.head.length ch,.slice Ab x.body.length cb]]) rfl Tryz.ntmps22 (Nat.le_of_ble_eq_true rfl) ?_
  have hpr_ := Ru.okc.p ho
  have hhl_ := Ru.okc.hl ho
  have hhc_ := Ru.okc.hc ho
  have hbl_ := Ru.okc.bl ho
  have hbc_ := Ru.okc.bc ho
  refine c_seq (c_reg (s_box (v := .agg #[.string x.p,.slice (some ⟨bh,0,none⟩) x.head.length (x.head.length + 1),.slice (some ⟨bb,0,none⟩) x.body.length (x.body.length + 1)]) (cs := #[.string x.p,.slice (some ⟨bh,0,none⟩) x.head.length (x.head.length + 1),.slice (some ⟨bb,0,none⟩) x.body.length (x.body.length + 1)]) (w0 rfl) (ej rfl rfl) rfl ?_))
  intro w2 g1 n3
  refine s_box (v := .agg #[.string x.p,.slice Ah x.head.length ch,.slice Ab x.body.length cb]) (cs := #[.string x.p,.slice Ah x.head.length ch,.slice Ab x.body.length cb]) (w0 rfl) (ej rfl rfl) rfl ?_
  intro w5 g4 n6
  refine s_assign (v := .bool false) ev_c (w0 rfl) (c_done (n_then (c_seq (c_reg (s_field (off := 0) (o' := 0) F_f53_0 (ej rfl rfl) rfl (w0 rfl) (s_load (v := .string x.p) F_o9 (ej rfl rfl) (cell_of_blk (i := 0) (Ext.blk (NewB.ext n6) (NewB.blk n3)) rfl) (w0 rfl) (s_field (off := 0) (o' := 0) F_f53_0 (ej rfl rfl) rfl (w0 rfl) (s_load (v := .string x.p) F_o9 (ej rfl rfl) (cell_of_blk (i := 0) (NewB.blk n6) rfl) (w0 rfl) (s_cmpS (r := true) (ej rfl rfl) (ej rfl rfl) (cmpS_self _) (w0 rfl) (s_move (v := .bool true) (ej rfl rfl) (w0 rfl) (s_field (off := 1) (o' := 1) F_f53_1 (ej rfl rfl) rfl (wy rfl rfl rfl rfl) ?_)))))))))))
  refine s_load (v := .slice (some ⟨bh,0,none⟩) x.head.length (x.head.length + 1)) F_o51 (ej rfl rfl) (cell_of_blk (i := 1) (Ext.blk (NewB.ext n6) (NewB.blk n3)) rfl) (wy rfl rfl rfl rfl) (s_field (off := 1) (o' := 1) F_f53_1 (ej rfl rfl) rfl (wy rfl rfl rfl rfl) (s_load (v := .slice Ah x.head.length ch) F_o51 (ej rfl rfl) (cell_of_blk (i := 1) (NewB.blk n6) rfl) (wy rfl rfl rfl rfl) (s_call F_e51 (wy rfl rfl rfl rfl) ev_f (m2 (ej rfl rfl) (ej rfl rfl)) (args := #[.slice (some ⟨bh,0,none⟩) x.head.length (x.head.length + 1),.slice Ah x.head.length ch]) rfl (l_LeftArgs x.head Ah ch bh _ _ (by omega) (TwG.ext okG (TwG.ext okG twh (NewB.ext n3)) (NewB.ext n6)) (Row.extG (Row.extG hrh (NewB.ext n3)) (NewB.ext n6)) (Tabs.ext tb (Ext.trans (NewB.ext n3) (NewB.ext n6)))) ?_)))
  rintro _ w8 ⟨rfl,x7⟩
  refine s_pick1 (v := .bool true) (ej rfl rfl) (ej rfl rfl) (w0 rfl) (s_move (v := .bool true) (ej rfl rfl) (w0 rfl) (s_field (off := 2) (o' := 2) F_f53_2 (ej rfl rfl) rfl (wy rfl rfl rfl rfl) (s_load (v := .slice (some ⟨bb,0,none⟩) x.body.length (x.body.length + 1)) F_o40 (ej rfl rfl) (cell_of_blk (i := 2) (Ext.blk x7 (Ext.blk (NewB.ext n6) (NewB.blk n3))) rfl) (wy rfl rfl rfl rfl) (s_field (off := 2) (o' := 2) F_f53_2 (ej rfl rfl) rfl (wy rfl rfl rfl rfl) (s_load (v := .slice Ab x.body.length cb) F_o40 (ej rfl rfl) (cell_of_blk (i := 2) (Ext.blk x7 (NewB.blk n6)) rfl) (wy rfl rfl rfl rfl) (s_call F_e52 (wy rfl rfl rfl rfl) ev_f (m2 (ej rfl rfl) (ej rfl rfl)) (args := #[.slice (some ⟨bb,0,none⟩) x.body.length (x.body.length + 1),.slice Ab x.body.length cb]) rfl (l_LeftLiterals x.body Ab cb bb _ _ (by omega) (TwG.ext okL (TwG.ext okL (TwG.ext okL twb (NewB.ext n3)) (NewB.ext n6)) x7) (Row.extL (Row.extL (Row.extL hrb (NewB.ext n3)) (NewB.ext n6)) x7) (Tabs.ext tb (Ext.trans (Ext.trans (NewB.ext n3) (NewB.ext n6)) x7))) ?_))))))
  rintro _ w10 ⟨rfl,x9⟩
  refine s_pick1 (v := .bool true) (ej rfl rfl) (ej rfl rfl) (w0 rfl) (s_assign (v := .bool true) (ej rfl rfl) (w0 rfl) (c_done (n_then (c_ret (ret1 (v := .bool true) rfl rfl rfl ?_)))))
  refine ⟨_,rfl,?_,(Ext.trans (Ext.trans (Ext.trans (NewB.ext n3) (NewB.ext n6)) x7) x9)⟩
  rfl
end Go.Proofs.Zw

set_option linter.unusedVariables false
set_option linter.unusedSimpArgs false
set_option maxRecDepth 10000
namespace Go.Proofs.Zw
open Go Go.Wk Go.Proofs Go.Lib
attribute [local irreducible] Go.wpList Go.wpStill Go.wpQuiet Go.Code.wp Go.Calls
theorem F_e136 : enterable Tryz.prog 136 = true := by kernel_rfl
theorem F_e137 : enterable Tryz.prog 137 = true := by kernel_rfl
theorem F_e147 : enterable Tryz.prog 147 = true := by kernel_rfl
theorem F_e148 : enterable Tryz.prog 148 = true := by kernel_rfl
theorem F_e153 : enterable Tryz.prog 153 = true := by kernel_rfl
theorem F_f129_0 : fieldAt Tryz.prog 129 0 0 = true := by kernel_rfl
theorem F_f129_1 : fieldAt Tryz.prog 129 1 1 = true := by kernel_rfl
theorem F_o127 : one Tryz.prog 127 = true := by kernel_rfl
theorem bs22_1_0s_0ii8_0ii64_0s : ∀ (a0 : ByteArray) (a1 : Int) (a2 : Int) (a3 : ByteArray),∀ w : World,(Instr.buildSlice 22 1 [(0,.agg #[.string a0,.int .i8 a1,.int .i64 a2,.string a3])].toArray).run Tryz.prog w = .ok (.slice (some ⟨w.heap.size,0,none⟩) 1 1) (w.alloc (.cells #[.string a0,.int .i8 a1,.int .i64 a2,.string a3] 33)) := by
  intros
  kernel_rfl
theorem r4_argument (x : Ag) (w : World) (hx : x.wf) :
    Rt Tryz.prog 117 #[.agg #[.int .i8 x.k,.string x.t.v,.int .i8 x.t.l.k,.int .i64 x.t.l.n,.string x.t.l.s]] w fun v w' => v = .bool (argB x) ∧ Ext w w' := by
  refine enter Tryz.func117 rfl (l := [.agg #[.int .i8 x.k,.string x.t.v,.int .i8 x.t.l.k,.int .i64 x.t.l.n,.string x.t.l.s]]) rfl Tryz.ntmps117 (Nat.le_of_ble_eq_true rfl) ?_
  refine c_seq (c_reg (s_box (v := .agg #[.int .i8 x.k,.string x.t.v,.int .i8 x.t.l.k,.int .i64 x.t.l.n,.string x.t.l.s]) (cs := #[.int .i8 x.k,.string x.t.v,.int .i8 x.t.l.k,.int .i64 x.t.l.n,.string x.t.l.s]) (w0 rfl) (ej rfl rfl) rfl ?_))
  intro w2 g1 n3
  refine s_assign (v := .bool false) ev_c (w0 rfl) (c_done (n_then (c_seq (c_reg (s_build (v := .agg #[.string (⟨#[]⟩ : ByteArray),.int .i8 0,.int .i64 0,.string (⟨#[]⟩ : ByteArray)]) (vs := []) b0 (bd33) (w0 rfl) (s_alloc (cs := #[.string (⟨#[]⟩ : ByteArray),.int .i8 0,.int .i64 0,.string (⟨#[]⟩ : ByteArray)]) (w0 rfl) F_z33 rfl ?_))))))
  intro w5 g4 n6
  refine s_store (cs' := #[.string (⟨#[]⟩ : ByteArray),.int .i8 0,.int .i64 0,.string (⟨#[]⟩ : ByteArray)]) F_sz33 (ej rfl rfl) (ej rfl rfl) (l := [.string (⟨#[]⟩ : ByteArray),.int .i8 0,.int .i64 0,.string (⟨#[]⟩ : ByteArray)]) rfl rfl rfl (NewB.blk n6) (Nat.le_of_ble_eq_true rfl) rfl (w0 rfl) ?_
  intro w7 k8
  refine c_done (n_then (c_seq (c_seq (c_reg (s_field (off := 0) (o' := 0) F_f129_0 (ej rfl rfl) rfl (w0 rfl) (s_load (v := .int .i8 x.k) F_o127 (ej rfl rfl) (cell_of_blk (i := 0) (Ext.blk (Keep.then_ (NewB.ext n6) (Wrote.keep k8) (fun i_ hi_ h_ => by have a_ := NewB.eq n6; have b_ := Keep.size (Ext.refl w2); omega)) (NewB.blk n3)) rfl) (w0 rfl) (c_done (n_then (c_block (c_seq (c_reg ?_)))))))))))
  refine s_cmp (r := decide (x.k = 0)) (ej rfl rfl) ev_c rfl (w0 rfl) (s_assign (v := .bool (decide (x.k = 0))) (ej rfl rfl) (w0 rfl) (c_done (n_then ?_)))
  by_cases h9 : x.k = 0
  · refine c_cond1 (vb (ej rfl rfl) (decide_eq_true h9)) (c_seq (c_reg (s_field (off := 1) (o' := 1) F_f129_1 (ej rfl rfl) rfl (w0 rfl) (s_field (off := 0) (o' := 1) F_f33_0 (ej rfl rfl) rfl (w0 rfl) (s_load (v := .string x.t.v) F_o9 (ej rfl rfl) (cell_of_blk (i := 1) (Ext.blk (Keep.then_ (NewB.ext n6) (Wrote.keep k8) (fun i_ hi_ h_ => by have a_ := NewB.eq n6; have b_ := Keep.size (Ext.refl w2); omega)) (NewB.blk n3)) rfl) (w0 rfl) (s_cmpS (r := !decide (x.t.v = (⟨#[95]⟩ : ByteArray))) (ej rfl rfl) ev_c rfl (w0 rfl) ?_))))))
    by_cases h10 : x.t.v = (⟨#[95]⟩ : ByteArray)
    · refine s_move (v := .bool false) (vb (ej rfl rfl) (nb0 h10)) (w0 rfl) (s_skip (wn rfl rfl rfl rfl rfl) (s_skip (wn rfl rfl rfl rfl rfl) (s_skip (wn rfl rfl rfl rfl rfl) (s_pick0 (v := .bool false) (ej rfl rfl) ev_c (w0 rfl) (s_assign (v := .bool false) (ej rfl rfl) (w0 rfl) (c_done (n_then (c_ret (r_block (r_then (ret1 (v := .bool false) rfl rfl rfl ?_)))))))))))
      refine ⟨_,rfl,?_,(Keep.then_ (Ext.trans (NewB.ext n3) (NewB.ext n6)) (Wrote.keep k8) (fun i_ hi_ h_ => by have a_ := NewB.eq n6; have b_ := Keep.size (NewB.ext n3); omega))⟩
      (refine congrArg Value.bool ?_; unfold argB; (rw [if_pos (by omega)]; ((try simp only [*,decide_true,decide_false,if_true,if_false,Bool.and_true,Bool.true_and,Bool.false_and,Bool.and_false,Bool.not_true,Bool.not_false,Bool.false_eq_true,reduceIte,not_true_eq_false,not_false_eq_true]); first | done | rfl); done))
    refine s_move (v := .bool true) (vb (ej rfl rfl) (nb1 h10)) (w0 rfl) (s_field (off := 1) (o' := 1) F_f129_1 (ej rfl rfl) rfl (wy rfl rfl rfl rfl) (s_loadL (cs := [.string x.t.v,.int .i8 x.t.l.k,.int .i64 x.t.l.n,.string x.t.l.s]) F_m33 (ej rfl rfl) rfl rfl (blk_cells (Ext.blk (Keep.then_ (NewB.ext n6) (Wrote.keep k8) (fun i_ hi_ h_ => by have a_ := NewB.eq n6; have b_ := Keep.size (Ext.refl w2); omega)) (NewB.blk n3)) 1 rfl) (wy rfl rfl rfl rfl) (s_call F_e101 (wy rfl rfl rfl rfl) ev_f (m1 (ej rfl rfl)) (args := #[.agg #[.string x.t.v,.int .i8 x.t.l.k,.int .i64 x.t.l.n,.string x.t.l.s]]) rfl (r4_term x.t _ (Ag.wf.t hx)) ?_)))
    rintro _ w12 ⟨rfl,x11⟩
    refine s_pick1 (v := .bool (tmB x.t)) (ej rfl rfl) (ej rfl rfl) (w0 rfl) (s_assign (v := .bool (tmB x.t)) (ej rfl rfl) (w0 rfl) (c_done (n_then (c_ret (r_block (r_then (ret1 (v := .bool (tmB x.t)) rfl rfl rfl ?_)))))))
    refine ⟨_,rfl,?_,(Ext.trans (Keep.then_ (Ext.trans (NewB.ext n3) (NewB.ext n6)) (Wrote.keep k8) (fun i_ hi_ h_ => by have a_ := NewB.eq n6; have b_ := Keep.size (NewB.ext n3); omega)) x11)⟩
    (refine congrArg Value.bool ?_; unfold argB; (rw [if_pos (by omega)]; ((try simp only [*,decide_true,decide_false,if_true,if_false,Bool.and_true,Bool.true_and,Bool.false_and,Bool.and_false,Bool.not_true,Bool.not_false,Bool.false_eq_true,reduceIte,not_true_eq_false,not_false_eq_true]); first | done | rfl); done))
  refine c_cond0 (vb (ej rfl rfl) (decide_eq_false h9)) (c_seq (c_reg (s_cmp (r := decide (x.k = 1)) (ej rfl rfl) ev_c rfl (w0 rfl) (s_assign (v := .bool (decide (x.k = 1))) (ej rfl rfl) (w0 rfl) (c_done (n_then ?_))))))
  by_cases h13 : x.k = 1
  · refine c_cond1 (vb (ej rfl rfl) (decide_eq_true h13)) (c_seq (c_reg (s_field (off := 1) (o' := 1) F_f129_1 (ej rfl rfl) rfl (w0 rfl) (s_loadL (cs := [.string x.t.v,.int .i8 x.t.l.k,.int .i64 x.t.l.n,.string x.t.l.s]) F_m33 (ej rfl rfl) rfl rfl (blk_cells (Ext.blk (Keep.then_ (NewB.ext n6) (Wrote.keep k8) (fun i_ hi_ h_ => by have a_ := NewB.eq n6; have b_ := Keep.size (Ext.refl w2); omega)) (NewB.blk n3)) 1 rfl) (w0 rfl) (s_loadL (cs := [.string (⟨#[]⟩ : ByteArray),.int .i8 0,.int .i64 0,.string (⟨#[]⟩ : ByteArray)]) F_m33 (ej rfl rfl) rfl rfl (blk_cells (Wrote.blk k8) 0 rfl) (w0 rfl) (s_cmpG (r := zT x.t) (ej rfl rfl) (ej rfl rfl) ((fun w_ => eqzT33eql x.t _ _ w_)) (w0 rfl) (s_assign (v := .bool (zT x.t)) (ej rfl rfl) (w0 rfl) (c_done (n_then (c_ret (r_block ?_)))))))))))
    refine r_then (ret1 (v := .bool (zT x.t)) rfl rfl rfl ?_)
    refine ⟨_,rfl,?_,(Keep.then_ (Ext.trans (NewB.ext n3) (NewB.ext n6)) (Wrote.keep k8) (fun i_ hi_ h_ => by have a_ := NewB.eq n6; have b_ := Keep.size (NewB.ext n3); omega))⟩
    (refine congrArg Value.bool ?_; unfold argB; (rw [if_neg (by omega),if_pos (by omega)]; ((try simp only [*,decide_true,decide_false,if_true,if_false,Bool.and_true,Bool.true_and,Bool.false_and,Bool.and_false,Bool.not_true,Bool.not_false,Bool.false_eq_true,reduceIte,not_true_eq_false,not_false_eq_true]); first | done | rfl); done))
  refine c_cond0 (vb (ej rfl rfl) (decide_eq_false h13)) (c_seq (c_seq (c_reg (s_cmp (r := decide (x.k = 2)) (ej rfl rfl) ev_c rfl (w0 rfl) (s_assign (v := .bool (decide (x.k = 2))) (ej rfl rfl) (w0 rfl) (c_done (n_then ?_)))))))
  by_cases h14 : x.k = 2
  · refine c_cond1 (vb (ej rfl rfl) (decide_eq_true h14)) (c_skip (n_then (c_cond1 (vb (ej rfl rfl) (decide_eq_true h14)) (c_seq (c_reg (s_field (off := 1) (o' := 1) F_f129_1 (ej rfl rfl) rfl (w0 rfl) (s_field (off := 0) (o' := 1) F_f33_0 (ej rfl rfl) rfl (w0 rfl) (s_load (v := .string x.t.v) F_o9 (ej rfl rfl) (cell_of_blk (i := 1) (Ext.blk (Keep.then_ (NewB.ext n6) (Wrote.keep k8) (fun i_ hi_ h_ => by have a_ := NewB.eq n6; have b_ := Keep.size (Ext.refl w2); omega)) (NewB.blk n3)) rfl) (w0 rfl) (s_cmpS (r := !decide (x.t.v = (⟨#[]⟩ : ByteArray))) (ej rfl rfl) ev_c rfl (w0 rfl) ?_)))))))))
    by_cases h15 : x.t.v = (⟨#[]⟩ : ByteArray)
    · refine s_move (v := .bool false) (vb (ej rfl rfl) (nb0 h15)) (w0 rfl) (s_skip (wn rfl rfl rfl rfl rfl) (s_skip (wn rfl rfl rfl rfl rfl) (s_skip (wn rfl rfl rfl rfl rfl) (s_skip (wn rfl rfl rfl rfl rfl) (s_pick0 (v := .bool false) (ej rfl rfl) ev_c (w0 rfl) (s_move (v := .bool false) (ej rfl rfl) (w0 rfl) (s_skip (wn rfl rfl rfl rfl rfl) (s_skip (wn rfl rfl rfl rfl rfl) (s_skip (wn rfl rfl rfl rfl rfl) (s_pick0 (v := .bool false) (ej rfl rfl) ev_c (w0 rfl) (s_assign (v := .bool false) (ej rfl rfl) (w0 rfl) ?_)))))))))))
      refine c_done (n_then (c_ret (r_block (r_then (ret1 (v := .bool false) rfl rfl rfl ?_)))))
      refine ⟨_,rfl,?_,(Keep.then_ (Ext.trans (NewB.ext n3) (NewB.ext n6)) (Wrote.keep k8) (fun i_ hi_ h_ => by have a_ := NewB.eq n6; have b_ := Keep.size (NewB.ext n3); omega))⟩
      (refine congrArg Value.bool ?_; unfold argB; (rw [if_neg (by omega),if_neg (by omega),if_pos (by omega)]; ((try simp only [*,decide_true,decide_false,if_true,if_false,Bool.and_true,Bool.true_and,Bool.false_and,Bool.and_false,Bool.not_true,Bool.not_false,Bool.false_eq_true,reduceIte,not_true_eq_false,not_false_eq_true]); first | done | rfl); done))
    refine s_move (v := .bool true) (vb (ej rfl rfl) (nb1 h15)) (w0 rfl) (s_field (off := 1) (o' := 1) F_f129_1 (ej rfl rfl) rfl (wy rfl rfl rfl rfl) (s_field (off := 0) (o' := 1) F_f33_0 (ej rfl rfl) rfl (wy rfl rfl rfl rfl) (s_load (v := .string x.t.v) F_o9 (ej rfl rfl) (cell_of_blk (i := 1) (Ext.blk (Keep.then_ (NewB.ext n6) (Wrote.keep k8) (fun i_ hi_ h_ => by have a_ := NewB.eq n6; have b_ := Keep.size (Ext.refl w2); omega)) (NewB.blk n3)) rfl) (wy rfl rfl rfl rfl) (s_cmpS (r := !decide (x.t.v = (⟨#[95]⟩ : ByteArray))) (ej rfl rfl) ev_c rfl (wy rfl rfl rfl rfl) (s_pick1 (v := .bool (!decide (x.t.v = (⟨#[95]⟩ : ByteArray)))) (ej rfl rfl) (ej rfl rfl) (w0 rfl) ?_)))))
    by_cases h16 : x.t.v = (⟨#[95]⟩ : ByteArray)
    · refine s_move (v := .bool false) (vb (ej rfl rfl) (nb0 h16)) (w0 rfl) (s_skip (wn rfl rfl rfl rfl rfl) (s_skip (wn rfl rfl rfl rfl rfl) (s_skip (wn rfl rfl rfl rfl rfl) (s_pick0 (v := .bool false) (ej rfl rfl) ev_c (w0 rfl) (s_assign (v := .bool false) (ej rfl rfl) (w0 rfl) (c_done (n_then (c_ret (r_block (r_then (ret1 (v := .bool false) rfl rfl rfl ?_)))))))))))
      refine ⟨_,rfl,?_,(Keep.then_ (Ext.trans (NewB.ext n3) (NewB.ext n6)) (Wrote.keep k8) (fun i_ hi_ h_ => by have a_ := NewB.eq n6; have b_ := Keep.size (NewB.ext n3); omega))⟩
      (refine congrArg Value.bool ?_; unfold argB; (rw [if_neg (by omega),if_neg (by omega),if_pos (by omega)]; ((try simp only [*,decide_true,decide_false,if_true,if_false,Bool.and_true,Bool.true_and,Bool.false_and,Bool.and_false,Bool.not_true,Bool.not_false,Bool.false_eq_true,reduceIte,not_true_eq_false,not_false_eq_true]); first | done | rfl); done))
    refine s_move (v := .bool true) (vb (ej rfl rfl) (nb1 h16)) (w0 rfl) (s_field (off := 1) (o' := 1) F_f129_1 (ej rfl rfl) rfl (wy rfl rfl rfl rfl) (s_loadL (cs := [.string x.t.v,.int .i8 x.t.l.k,.int .i64 x.t.l.n,.string x.t.l.s]) F_m33 (ej rfl rfl) rfl rfl (blk_cells (Ext.blk (Keep.then_ (NewB.ext n6) (Wrote.keep k8) (fun i_ hi_ h_ => by have a_ := NewB.eq n6; have b_ := Keep.size (Ext.refl w2); omega)) (NewB.blk n3)) 1 rfl) (wy rfl rfl rfl rfl) (s_call F_e101 (wy rfl rfl rfl rfl) ev_f (m1 (ej rfl rfl)) (args := #[.agg #[.string x.t.v,.int .i8 x.t.l.k,.int .i64 x.t.l.n,.string x.t.l.s]]) rfl (r4_term x.t _ (Ag.wf.t hx)) ?_)))
    rintro _ w18 ⟨rfl,x17⟩
    refine s_pick1 (v := .bool (tmB x.t)) (ej rfl rfl) (ej rfl rfl) (w0 rfl) (s_assign (v := .bool (tmB x.t)) (ej rfl rfl) (w0 rfl) (c_done (n_then (c_ret (r_block (r_then (ret1 (v := .bool (tmB x.t)) rfl rfl rfl ?_)))))))
    refine ⟨_,rfl,?_,(Ext.trans (Keep.then_ (Ext.trans (NewB.ext n3) (NewB.ext n6)) (Wrote.keep k8) (fun i_ hi_ h_ => by have a_ := NewB.eq n6; have b_ := Keep.size (NewB.ext n3); omega)) x17)⟩
    (refine congrArg Value.bool ?_; unfold argB; (rw [if_neg (by omega),if_neg (by omega),if_pos (by omega)]; ((try simp only [*,decide_true,decide_false,if_true,if_false,Bool.and_true,Bool.true_and,Bool.false_and,Bool.and_false,Bool.not_true,Bool.not_false,Bool.false_eq_true,reduceIte,not_true_eq_false,not_false_eq_true]); first | done | rfl); done))
  refine c_cond0 (vb (ej rfl rfl) (decide_eq_false h14)) (c_seq (c_reg (s_cmp (r := decide (x.k = 3)) (ej rfl rfl) ev_c rfl (w0 rfl) (s_assign (v := .bool (decide (x.k = 3))) (ej rfl rfl) (w0 rfl) (c_done (n_then ?_))))))
  by_cases h19 : x.k = 3
  · refine c_cond1 (vb (ej rfl rfl) (decide_eq_true h19)) (c_skip (n_then (c_cond1 (vb (ej rfl rfl) (decide_eq_true h19)) (c_seq (c_reg (s_field (off := 1) (o' := 1) F_f129_1 (ej rfl rfl) rfl (w0 rfl) (s_field (off := 0) (o' := 1) F_f33_0 (ej rfl rfl) rfl (w0 rfl) (s_load (v := .string x.t.v) F_o9 (ej rfl rfl) (cell_of_blk (i := 1) (Ext.blk (Keep.then_ (NewB.ext n6) (Wrote.keep k8) (fun i_ hi_ h_ => by have a_ := NewB.eq n6; have b_ := Keep.size (Ext.refl w2); omega)) (NewB.blk n3)) rfl) (w0 rfl) (s_cmpS (r := !decide (x.t.v = (⟨#[]⟩ : ByteArray))) (ej rfl rfl) ev_c rfl (w0 rfl) ?_)))))))))
    by_cases h20 : x.t.v = (⟨#[]⟩ : ByteArray)
    · refine s_move (v := .bool false) (vb (ej rfl rfl) (nb0 h20)) (w0 rfl) (s_skip (wn rfl rfl rfl rfl rfl) (s_skip (wn rfl rfl rfl rfl rfl) (s_skip (wn rfl rfl rfl rfl rfl) (s_skip (wn rfl rfl rfl rfl rfl) (s_pick0 (v := .bool false) (ej rfl rfl) ev_c (w0 rfl) (s_move (v := .bool false) (ej rfl rfl) (w0 rfl) (s_skip (wn rfl rfl rfl rfl rfl) (s_skip (wn rfl rfl rfl rfl rfl) (s_skip (wn rfl rfl rfl rfl rfl) (s_pick0 (v := .bool false) (ej rfl rfl) ev_c (w0 rfl) (s_assign (v := .bool false) (ej rfl rfl) (w0 rfl) ?_)))))))))))
      refine c_done (n_then (c_ret (r_block (r_then (ret1 (v := .bool false) rfl rfl rfl ?_)))))
      refine ⟨_,rfl,?_,(Keep.then_ (Ext.trans (NewB.ext n3) (NewB.ext n6)) (Wrote.keep k8) (fun i_ hi_ h_ => by have a_ := NewB.eq n6; have b_ := Keep.size (NewB.ext n3); omega))⟩
      (refine congrArg Value.bool ?_; unfold argB; (rw [if_neg (by omega),if_neg (by omega),if_pos (by omega)]; ((try simp only [*,decide_true,decide_false,if_true,if_false,Bool.and_true,Bool.true_and,Bool.false_and,Bool.and_false,Bool.not_true,Bool.not_false,Bool.false_eq_true,reduceIte,not_true_eq_false,not_false_eq_true]); first | done | rfl); done))
    refine s_move (v := .bool true) (vb (ej rfl rfl) (nb1 h20)) (w0 rfl) (s_field (off := 1) (o' := 1) F_f129_1 (ej rfl rfl) rfl (wy rfl rfl rfl rfl) (s_field (off := 0) (o' := 1) F_f33_0 (ej rfl rfl) rfl (wy rfl rfl rfl rfl) (s_load (v := .string x.t.v) F_o9 (ej rfl rfl) (cell_of_blk (i := 1) (Ext.blk (Keep.then_ (NewB.ext n6) (Wrote.keep k8) (fun i_ hi_ h_ => by have a_ := NewB.eq n6; have b_ := Keep.size (Ext.refl w2); omega)) (NewB.blk n3)) rfl) (wy rfl rfl rfl rfl) (s_cmpS (r := !decide (x.t.v = (⟨#[95]⟩ : ByteArray))) (ej rfl rfl) ev_c rfl (wy rfl rfl rfl rfl) (s_pick1 (v := .bool (!decide (x.t.v = (⟨#[95]⟩ : ByteArray)))) (ej rfl rfl) (ej rfl rfl) (w0 rfl) ?_)))))
    by_cases h21 : x.t.v = (⟨#[95]⟩ : ByteArray)
    · refine s_move (v := .bool false) (vb (ej rfl rfl) (nb0 h21)) (w0 rfl) (s_skip (wn rfl rfl rfl rfl rfl) (s_skip (wn rfl rfl rfl rfl rfl) (s_skip (wn rfl rfl rfl rfl rfl) (s_pick0 (v := .bool false) (ej rfl rfl) ev_c (w0 rfl) (s_assign (v := .bool false) (ej rfl rfl) (w0 rfl) (c_done (n_then (c_ret (r_block (r_then (ret1 (v := .bool false) rfl rfl rfl ?_)))))))))))
      refine ⟨_,rfl,?_,(Keep.then_ (Ext.trans (NewB.ext n3) (NewB.ext n6)) (Wrote.keep k8) (fun i_ hi_ h_ => by have a_ := NewB.eq n6; have b_ := Keep.size (NewB.ext n3); omega))⟩
      (refine congrArg Value.bool ?_; unfold argB; (rw [if_neg (by omega),if_neg (by omega),if_pos (by omega)]; ((try simp only [*,decide_true,decide_false,if_true,if_false,Bool.and_true,Bool.true_and,Bool.false_and,Bool.and_false,Bool.not_true,Bool.not_false,Bool.false_eq_true,reduceIte,not_true_eq_false,not_false_eq_true]); first | done | rfl); done))
    refine s_move (v := .bool true) (vb (ej rfl rfl) (nb1 h21)) (w0 rfl) (s_field (off := 1) (o' := 1) F_f129_1 (ej rfl rfl) rfl (wy rfl rfl rfl rfl) (s_loadL (cs := [.string x.t.v,.int .i8 x.t.l.k,.int .i64 x.t.l.n,.string x.t.l.s]) F_m33 (ej rfl rfl) rfl rfl (blk_cells (Ext.blk (Keep.then_ (NewB.ext n6) (Wrote.keep k8) (fun i_ hi_ h_ => by have a_ := NewB.eq n6; have b_ := Keep.size (Ext.refl w2); omega)) (NewB.blk n3)) 1 rfl) (wy rfl rfl rfl rfl) (s_call F_e101 (wy rfl rfl rfl rfl) ev_f (m1 (ej rfl rfl)) (args := #[.agg #[.string x.t.v,.int .i8 x.t.l.k,.int .i64 x.t.l.n,.string x.t.l.s]]) rfl (r4_term x.t _ (Ag.wf.t hx)) ?_)))
    rintro _ w23 ⟨rfl,x22⟩
    refine s_pick1 (v := .bool (tmB x.t)) (ej rfl rfl) (ej rfl rfl) (w0 rfl) (s_assign (v := .bool (tmB x.t)) (ej rfl rfl) (w0 rfl) (c_done (n_then (c_ret (r_block (r_then (ret1 (v := .bool (tmB x.t)) rfl rfl rfl ?_)))))))
    refine ⟨_,rfl,?_,(Ext.trans (Keep.then_ (Ext.trans (NewB.ext n3) (NewB.ext n6)) (Wrote.keep k8) (fun i_ hi_ h_ => by have a_ := NewB.eq n6; have b_ := Keep.size (NewB.ext n3); omega)) x22)⟩
    (refine congrArg Value.bool ?_; unfold argB; (rw [if_neg (by omega),if_neg (by omega),if_pos (by omega)]; ((try simp only [*,decide_true,decide_false,if_true,if_false,Bool.and_true,Bool.true_and,Bool.false_and,Bool.and_false,Bool.not_true,Bool.not_false,Bool.false_eq_true,reduceIte,not_true_eq_false,not_false_eq_true]); first | done | rfl); done))
  refine c_cond0 (vb (ej rfl rfl) (decide_eq_false h19)) (c_reg (s_cmp (r := decide (x.k = 4)) (ej rfl rfl) ev_c rfl (w0 rfl) (s_assign (v := .bool (decide (x.k = 4))) (ej rfl rfl) (w0 rfl) (c_done (n_then ?_)))))
  by_cases h24 : x.k = 4
  · refine c_cond1 (vb (ej rfl rfl) (decide_eq_true h24)) (c_seq (c_reg (s_field (off := 1) (o' := 1) F_f129_1 (ej rfl rfl) rfl (w0 rfl) (s_field (off := 0) (o' := 1) F_f33_0 (ej rfl rfl) rfl (w0 rfl) (s_load (v := .string x.t.v) F_o9 (ej rfl rfl) (cell_of_blk (i := 1) (Ext.blk (Keep.then_ (NewB.ext n6) (Wrote.keep k8) (fun i_ hi_ h_ => by have a_ := NewB.eq n6; have b_ := Keep.size (Ext.refl w2); omega)) (NewB.blk n3)) rfl) (w0 rfl) (s_cmpS (r := !decide (x.t.v = (⟨#[]⟩ : ByteArray))) (ej rfl rfl) ev_c rfl (w0 rfl) ?_))))))
    by_cases h25 : x.t.v = (⟨#[]⟩ : ByteArray)
    · refine s_move (v := .bool false) (vb (ej rfl rfl) (nb0 h25)) (w0 rfl) (s_skip (wn rfl rfl rfl rfl rfl) (s_skip (wn rfl rfl rfl rfl rfl) (s_skip (wn rfl rfl rfl rfl rfl) (s_skip (wn rfl rfl rfl rfl rfl) (s_pick0 (v := .bool false) (ej rfl rfl) ev_c (w0 rfl) (s_move (v := .bool false) (ej rfl rfl) (w0 rfl) (s_skip (wn rfl rfl rfl rfl rfl) (s_skip (wn rfl rfl rfl rfl rfl) (s_skip (wn rfl rfl rfl rfl rfl) (s_pick0 (v := .bool false) (ej rfl rfl) ev_c (w0 rfl) (s_assign (v := .bool false) (ej rfl rfl) (w0 rfl) ?_)))))))))))
      refine c_done (n_then (c_ret (r_block (r_then (ret1 (v := .bool false) rfl rfl rfl ?_)))))
      refine ⟨_,rfl,?_,(Keep.then_ (Ext.trans (NewB.ext n3) (NewB.ext n6)) (Wrote.keep k8) (fun i_ hi_ h_ => by have a_ := NewB.eq n6; have b_ := Keep.size (NewB.ext n3); omega))⟩
      (refine congrArg Value.bool ?_; unfold argB; (rw [if_neg (by omega),if_neg (by omega),if_pos (by omega)]; ((try simp only [*,decide_true,decide_false,if_true,if_false,Bool.and_true,Bool.true_and,Bool.false_and,Bool.and_false,Bool.not_true,Bool.not_false,Bool.false_eq_true,reduceIte,not_true_eq_false,not_false_eq_true]); first | done | rfl); done))
    refine s_move (v := .bool true) (vb (ej rfl rfl) (nb1 h25)) (w0 rfl) (s_field (off := 1) (o' := 1) F_f129_1 (ej rfl rfl) rfl (wy rfl rfl rfl rfl) (s_field (off := 0) (o' := 1) F_f33_0 (ej rfl rfl) rfl (wy rfl rfl rfl rfl) (s_load (v := .string x.t.v) F_o9 (ej rfl rfl) (cell_of_blk (i := 1) (Ext.blk (Keep.then_ (NewB.ext n6) (Wrote.keep k8) (fun i_ hi_ h_ => by have a_ := NewB.eq n6; have b_ := Keep.size (Ext.refl w2); omega)) (NewB.blk n3)) rfl) (wy rfl rfl rfl rfl) (s_cmpS (r := !decide (x.t.v = (⟨#[95]⟩ : ByteArray))) (ej rfl rfl) ev_c rfl (wy rfl rfl rfl rfl) (s_pick1 (v := .bool (!decide (x.t.v = (⟨#[95]⟩ : ByteArray)))) (ej rfl rfl) (ej rfl rfl) (w0 rfl) ?_)))))
    by_cases h26 : x.t.v = (⟨#[95]⟩ : ByteArray)
    · refine s_move (v := .bool false) (vb (ej rfl rfl) (nb0 h26)) (w0 rfl) (s_skip (wn rfl rfl rfl rfl rfl) (s_skip (wn rfl rfl rfl rfl rfl) (s_skip (wn rfl rfl rfl rfl rfl) (s_pick0 (v := .bool false) (ej rfl rfl) ev_c (w0 rfl) (s_assign (v := .bool false) (ej rfl rfl) (w0 rfl) (c_done (n_then (c_ret (r_block (r_then (ret1 (v := .bool false) rfl rfl rfl ?_)))))))))))
      refine ⟨_,rfl,?_,(Keep.then_ (Ext.trans (NewB.ext n3) (NewB.ext n6)) (Wrote.keep k8) (fun i_ hi_ h_ => by have a_ := NewB.eq n6; have b_ := Keep.size (NewB.ext n3); omega))⟩
      (refine congrArg Value.bool ?_; unfold argB; (rw [if_neg (by omega),if_neg (by omega),if_pos (by omega)]; ((try simp only [*,decide_true,decide_false,if_true,if_false,Bool.and_true,Bool.true_and,Bool.false_and,Bool.and_false,Bool.not_true,Bool.not_false,Bool.false_eq_true,reduceIte,not_true_eq_false,not_false_eq_true]); first | done | rfl); done))
    refine s_move (v := .bool true) (vb (ej rfl rfl) (nb1 h26)) (w0 rfl) (s_field (off := 1) (o' := 1) F_f129_1 (ej rfl rfl) rfl (wy rfl rfl rfl rfl) (s_loadL (cs := [.string x.t.v,.int .i8 x.t.l.k,.int .i64 x.t.l.n,.string x.t.l.s]) F_m33 (ej rfl rfl) rfl rfl (blk_cells (Ext.blk (Keep.then_ (NewB.ext n6) (Wrote.keep k8) (fun i_ hi_ h_ => by have a_ := NewB.eq n6; have b_ := Keep.size (Ext.refl w2); omega)) (NewB.blk n3)) 1 rfl) (wy rfl rfl rfl rfl) (s_call F_e101 (wy rfl rfl rfl rfl) ev_f (m1 (ej rfl rfl)) (args := #[.agg #[.string x.t.v,.int .i8 x.t.l.k,.int .i64 x.t.l.n,.string x.t.l.s]]) rfl (r4_term x.t _ (Ag.wf.t hx)) ?_)))
    rintro _ w28 ⟨rfl,x27⟩
    refine s_pick1 (v := .bool (tmB x.t)) (ej rfl rfl) (ej rfl rfl) (w0 rfl) (s_assign (v := .bool (tmB x.t)) (ej rfl rfl) (w0 rfl) (c_done (n_then (c_ret (r_block (r_then (ret1 (v := .bool (tmB x.t)) rfl rfl rfl ?_)))))))
    refine ⟨_,rfl,?_,(Ext.trans (Keep.then_ (Ext.trans (NewB.ext n3) (NewB.ext n6)) (Wrote.keep k8) (fun i_ hi_ h_ => by have a_ := NewB.eq n6; have b_ := Keep.size (NewB.ext n3); omega)) x27)⟩
    (refine congrArg Value.bool ?_; unfold argB; (rw [if_neg (by omega),if_neg (by omega),if_pos (by omega)]; ((try simp only [*,decide_true,decide_false,if_true,if_false,Bool.and_true,Bool.true_and,Bool.false_and,Bool.and_false,Bool.not_true,Bool.not_false,Bool.false_eq_true,reduceIte,not_true_eq_false,not_false_eq_true]); first | done | rfl); done))
  refine c_cond0 (vb (ej rfl rfl) (decide_eq_false h24)) (c_skip (n_block (n_then (c_seq (c_reg (s_assign (v := .bool false) ev_c (w0 rfl) (c_done (n_then (c_ret (ret1 (v := .bool false) rfl rfl rfl ?_))))))))))
  refine ⟨_,rfl,?_,(Keep.then_ (Ext.trans (NewB.ext n3) (NewB.ext n6)) (Wrote.keep k8) (fun i_ hi_ h_ => by have a_ := NewB.eq n6; have b_ := Keep.size (NewB.ext n3); omega))⟩
  (refine congrArg Value.bool ?_; unfold argB; (rw [if_neg (by omega),if_neg (by omega),if_neg (by omega)]; done))
theorem t_argument (x : Ag) (w : World) (hx : x.wf) :
    Rt Tryz.prog 89 #[.agg #[.int .i8 x.k,.string x.t.v,.int .i8 x.t.l.k,.int .i64 x.t.l.n,.string x.t.l.s]] w fun v w' => v = .bool (argB x) ∧ Ext w w' := by
  refine enter Tryz.func89 rfl (l := [.agg #[.int .i8 x.k,.string x.t.v,.int .i8 x.t.l.k,.int .i64 x.t.l.n,.string x.t.l.s]]) rfl Tryz.ntmps89 (Nat.le_of_ble_eq_true rfl) ?_
  refine c_seq (c_reg (s_box (v := .agg #[.int .i8 x.k,.string x.t.v,.int .i8 x.t.l.k,.int .i64 x.t.l.n,.string x.t.l.s]) (cs := #[.int .i8 x.k,.string x.t.v,.int .i8 x.t.l.k,.int .i64 x.t.l.n,.string x.t.l.s]) (w0 rfl) (ej rfl rfl) rfl ?_))
  intro w2 g1 n3
  refine s_assign (v := .bool false) ev_c (w0 rfl) (c_done (n_then (c_seq (c_seq (c_reg (s_field (off := 0) (o' := 0) F_f129_0 (ej rfl rfl) rfl (w0 rfl) (s_load (v := .int .i8 x.k) F_o127 (ej rfl rfl) (cell_of_blk (i := 0) (NewB.blk n3) rfl) (w0 rfl) (c_done (n_then (c_block (c_seq ?_)))))))))))
  refine c_reg (s_cmp (r := decide (x.k = 0)) (ej rfl rfl) ev_c rfl (w0 rfl) (s_assign (v := .bool (decide (x.k = 0))) (ej rfl rfl) (w0 rfl) (c_done (n_then ?_))))
  by_cases h4 : x.k = 0
  · refine c_cond1 (vb (ej rfl rfl) (decide_eq_true h4)) (c_seq (c_reg (s_field (off := 1) (o' := 1) F_f129_1 (ej rfl rfl) rfl (w0 rfl) (s_loadL (cs := [.string x.t.v,.int .i8 x.t.l.k,.int .i64 x.t.l.n,.string x.t.l.s]) F_m33 (ej rfl rfl) rfl rfl (blk_cells (NewB.blk n3) 1 rfl) (w0 rfl) (s_call F_e119 (w0 rfl) ev_f (m1 (ej rfl rfl)) (args := #[.agg #[.string x.t.v,.int .i8 x.t.l.k,.int .i64 x.t.l.n,.string x.t.l.s]]) rfl (t_solid x.t _ (Ag.wf.t hx)) ?_)))))
    rintro _ w6 ⟨rfl,x5⟩
    refine s_assign (v := .bool (!decide (x.t.v = ⟨#[95]⟩) && tmB x.t)) (ej rfl rfl) (w0 rfl) (c_done (n_then (c_ret (r_block (r_then (ret1 (v := .bool (!decide (x.t.v = ⟨#[95]⟩) && tmB x.t)) rfl rfl rfl ?_))))))
    refine ⟨_,rfl,?_,(Ext.trans (NewB.ext n3) x5)⟩
    (refine congrArg Value.bool ?_; unfold argB; (rw [if_pos (by omega)]; ((try simp only [*,decide_true,decide_false,if_true,if_false,Bool.and_true,Bool.true_and,Bool.false_and,Bool.and_false,Bool.not_true,Bool.not_false,Bool.false_eq_true,reduceIte,not_true_eq_false,not_false_eq_true]); first | done | rfl); done))
  refine c_cond0 (vb (ej rfl rfl) (decide_eq_false h4)) (c_seq (c_reg (s_cmp (r := decide (x.k = 1)) (ej rfl rfl) ev_c rfl (w0 rfl) (s_assign (v := .bool (decide (x.k = 1))) (ej rfl rfl) (w0 rfl) (c_done (n_then ?_))))))
  by_cases h7 : x.k = 1
  · refine c_cond1 (vb (ej rfl rfl) (decide_eq_true h7)) (c_seq (c_reg (s_field (off := 1) (o' := 1) F_f129_1 (ej rfl rfl) rfl (w0 rfl) (s_loadL (cs := [.string x.t.v,.int .i8 x.t.l.k,.int .i64 x.t.l.n,.string x.t.l.s]) F_m33 (ej rfl rfl) rfl rfl (blk_cells (NewB.blk n3) 1 rfl) (w0 rfl) (s_call F_e113 (w0 rfl) ev_f (m1 (ej rfl rfl)) (args := #[.agg #[.string x.t.v,.int .i8 x.t.l.k,.int .i64 x.t.l.n,.string x.t.l.s]]) rfl (t_none x.t _) ?_)))))
    rintro _ w9 ⟨rfl,x8⟩
    refine s_assign (v := .bool (zT x.t)) (ej rfl rfl) (w0 rfl) (c_done (n_then (c_ret (r_block (r_then (ret1 (v := .bool (zT x.t)) rfl rfl rfl ?_))))))
    refine ⟨_,rfl,?_,(Ext.trans (NewB.ext n3) x8)⟩
    (refine congrArg Value.bool ?_; unfold argB; (rw [if_neg (by omega),if_pos (by omega)]; ((try simp only [*,decide_true,decide_false,if_true,if_false,Bool.and_true,Bool.true_and,Bool.false_and,Bool.and_false,Bool.not_true,Bool.not_false,Bool.false_eq_true,reduceIte,not_true_eq_false,not_false_eq_true]); first | done | rfl); done))
  refine c_cond0 (vb (ej rfl rfl) (decide_eq_false h7)) (c_seq (c_seq (c_reg (s_cmp (r := decide (x.k = 2)) (ej rfl rfl) ev_c rfl (w0 rfl) (s_assign (v := .bool (decide (x.k = 2))) (ej rfl rfl) (w0 rfl) (c_done (n_then ?_)))))))
  by_cases h10 : x.k = 2
  · refine c_cond1 (vb (ej rfl rfl) (decide_eq_true h10)) (c_skip (n_then (c_cond1 (vb (ej rfl rfl) (decide_eq_true h10)) (c_seq (c_reg (s_field (off := 1) (o' := 1) F_f129_1 (ej rfl rfl) rfl (w0 rfl) (s_field (off := 0) (o' := 1) F_f33_0 (ej rfl rfl) rfl (w0 rfl) (s_load (v := .string x.t.v) F_o9 (ej rfl rfl) (cell_of_blk (i := 1) (NewB.blk n3) rfl) (w0 rfl) (s_cmpS (r := !decide (x.t.v = (⟨#[]⟩ : ByteArray))) (ej rfl rfl) ev_c rfl (w0 rfl) ?_)))))))))
    by_cases h11 : x.t.v = (⟨#[]⟩ : ByteArray)
    · refine s_move (v := .bool false) (vb (ej rfl rfl) (nb0 h11)) (w0 rfl) (s_skip (wn rfl rfl rfl rfl rfl) (s_skip (wn rfl rfl rfl rfl rfl) (s_skip (wn rfl rfl rfl rfl rfl) (s_pick0 (v := .bool false) (ej rfl rfl) ev_c (w0 rfl) (s_assign (v := .bool false) (ej rfl rfl) (w0 rfl) (c_done (n_then (c_ret (r_block (r_then (ret1 (v := .bool false) rfl rfl rfl ?_)))))))))))
      refine ⟨_,rfl,?_,(NewB.ext n3)⟩
      (refine congrArg Value.bool ?_; unfold argB; (rw [if_neg (by omega),if_neg (by omega),if_pos (by omega)]; ((try simp only [*,decide_true,decide_false,if_true,if_false,Bool.and_true,Bool.true_and,Bool.false_and,Bool.and_false,Bool.not_true,Bool.not_false,Bool.false_eq_true,reduceIte,not_true_eq_false,not_false_eq_true]); first | done | rfl); done))
    refine s_move (v := .bool true) (vb (ej rfl rfl) (nb1 h11)) (w0 rfl) (s_field (off := 1) (o' := 1) F_f129_1 (ej rfl rfl) rfl (wy rfl rfl rfl rfl) (s_loadL (cs := [.string x.t.v,.int .i8 x.t.l.k,.int .i64 x.t.l.n,.string x.t.l.s]) F_m33 (ej rfl rfl) rfl rfl (blk_cells (NewB.blk n3) 1 rfl) (wy rfl rfl rfl rfl) (s_call F_e119 (wy rfl rfl rfl rfl) ev_f (m1 (ej rfl rfl)) (args := #[.agg #[.string x.t.v,.int .i8 x.t.l.k,.int .i64 x.t.l.n,.string x.t.l.s]]) rfl (t_solid x.t _ (Ag.wf.t hx)) ?_)))
    rintro _ w13 ⟨rfl,x12⟩
    refine s_pick1 (v := .bool (!decide (x.t.v = ⟨#[95]⟩) && tmB x.t)) (ej rfl rfl) (ej rfl rfl) (w0 rfl) (s_assign (v := .bool (!decide (x.t.v = ⟨#[95]⟩) && tmB x.t)) (ej rfl rfl) (w0 rfl) (c_done (n_then (c_ret (r_block (r_then (ret1 (v := .bool (!decide (x.t.v = ⟨#[95]⟩) && tmB x.t)) rfl rfl rfl ?_)))))))
    refine ⟨_,rfl,?_,(Ext.trans (NewB.ext n3) x12)⟩
    (refine congrArg Value.bool ?_; unfold argB; (rw [if_neg (by omega),if_neg (by omega),if_pos (by omega)]; ((try simp only [*,decide_true,decide_false,if_true,if_false,Bool.and_true,Bool.true_and,Bool.false_and,Bool.and_false,Bool.not_true,Bool.not_false,Bool.false_eq_true,reduceIte,not_true_eq_false,not_false_eq_true]); first | done | rfl); done))
  refine c_cond0 (vb (ej rfl rfl) (decide_eq_false h10)) (c_seq (c_reg (s_cmp (r := decide (x.k = 3)) (ej rfl rfl) ev_c rfl (w0 rfl) (s_assign (v := .bool (decide (x.k = 3))) (ej rfl rfl) (w0 rfl) (c_done (n_then ?_))))))
  by_cases h14 : x.k = 3
  · refine c_cond1 (vb (ej rfl rfl) (decide_eq_true h14)) (c_skip (n_then (c_cond1 (vb (ej rfl rfl) (decide_eq_true h14)) (c_seq (c_reg (s_field (off := 1) (o' := 1) F_f129_1 (ej rfl rfl) rfl (w0 rfl) (s_field (off := 0) (o' := 1) F_f33_0 (ej rfl rfl) rfl (w0 rfl) (s_load (v := .string x.t.v) F_o9 (ej rfl rfl) (cell_of_blk (i := 1) (NewB.blk n3) rfl) (w0 rfl) (s_cmpS (r := !decide (x.t.v = (⟨#[]⟩ : ByteArray))) (ej rfl rfl) ev_c rfl (w0 rfl) ?_)))))))))
    by_cases h15 : x.t.v = (⟨#[]⟩ : ByteArray)
    · refine s_move (v := .bool false) (vb (ej rfl rfl) (nb0 h15)) (w0 rfl) (s_skip (wn rfl rfl rfl rfl rfl) (s_skip (wn rfl rfl rfl rfl rfl) (s_skip (wn rfl rfl rfl rfl rfl) (s_pick0 (v := .bool false) (ej rfl rfl) ev_c (w0 rfl) (s_assign (v := .bool false) (ej rfl rfl) (w0 rfl) (c_done (n_then (c_ret (r_block (r_then (ret1 (v := .bool false) rfl rfl rfl ?_)))))))))))
      refine ⟨_,rfl,?_,(NewB.ext n3)⟩
      (refine congrArg Value.bool ?_; unfold argB; (rw [if_neg (by omega),if_neg (by omega),if_pos (by omega)]; ((try simp only [*,decide_true,decide_false,if_true,if_false,Bool.and_true,Bool.true_and,Bool.false_and,Bool.and_false,Bool.not_true,Bool.not_false,Bool.false_eq_true,reduceIte,not_true_eq_false,not_false_eq_true]); first | done | rfl); done))
    refine s_move (v := .bool true) (vb (ej rfl rfl) (nb1 h15)) (w0 rfl) (s_field (off := 1) (o' := 1) F_f129_1 (ej rfl rfl) rfl (wy rfl rfl rfl rfl) (s_loadL (cs := [.string x.t.v,.int .i8 x.t.l.k,.int .i64 x.t.l.n,.string x.t.l.s]) F_m33 (ej rfl rfl) rfl rfl (blk_cells (NewB.blk n3) 1 rfl) (wy rfl rfl rfl rfl) (s_call F_e119 (wy rfl rfl rfl rfl) ev_f (m1 (ej rfl rfl)) (args := #[.agg #[.string x.t.v,.int .i8 x.t.l.k,.int .i64 x.t.l.n,.string x.t.l.s]]) rfl (t_solid x.t _ (Ag.wf.t hx)) ?_)))
    rintro _ w17 ⟨rfl,x16⟩
    refine s_pick1 (v := .bool (!decide (x.t.v = ⟨#[95]⟩) && tmB x.t)) (ej rfl rfl) (ej rfl rfl) (w0 rfl) (s_assign (v := .bool (!decide (x.t.v = ⟨#[95]⟩) && tmB x.t)) (ej rfl rfl) (w0 rfl) (c_done (n_then (c_ret (r_block (r_then (ret1 (v := .bool (!decide (x.t.v = ⟨#[95]⟩) && tmB x.t)) rfl rfl rfl ?_)))))))
    refine ⟨_,rfl,?_,(Ext.trans (NewB.ext n3) x16)⟩
    (refine congrArg Value.bool ?_; unfold argB; (rw [if_neg (by omega),if_neg (by omega),if_pos (by omega)]; ((try simp only [*,decide_true,decide_false,if_true,if_false,Bool.and_true,Bool.true_and,Bool.false_and,Bool.and_false,Bool.not_true,Bool.not_false,Bool.false_eq_true,reduceIte,not_true_eq_false,not_false_eq_true]); first | done | rfl); done))
  refine c_cond0 (vb (ej rfl rfl) (decide_eq_false h14)) (c_reg (s_cmp (r := decide (x.k = 4)) (ej rfl rfl) ev_c rfl (w0 rfl) (s_assign (v := .bool (decide (x.k = 4))) (ej rfl rfl) (w0 rfl) (c_done (n_then ?_)))))
  by_cases h18 : x.k = 4
  · refine c_cond1 (vb (ej rfl rfl) (decide_eq_true h18)) (c_seq (c_reg (s_field (off := 1) (o' := 1) F_f129_1 (ej rfl rfl) rfl (w0 rfl) (s_field (off := 0) (o' := 1) F_f33_0 (ej rfl rfl) rfl (w0 rfl) (s_load (v := .string x.t.v) F_o9 (ej rfl rfl) (cell_of_blk (i := 1) (NewB.blk n3) rfl) (w0 rfl) (s_cmpS (r := !decide (x.t.v = (⟨#[]⟩ : ByteArray))) (ej rfl rfl) ev_c rfl (w0 rfl) ?_))))))
    by_cases h19 : x.t.v = (⟨#[]⟩ : ByteArray)
    · refine s_move (v := .bool false) (vb (ej rfl rfl) (nb0 h19)) (w0 rfl) (s_skip (wn rfl rfl rfl rfl rfl) (s_skip (wn rfl rfl rfl rfl rfl) (s_skip (wn rfl rfl rfl rfl rfl) (s_pick0 (v := .bool false) (ej rfl rfl) ev_c (w0 rfl) (s_assign (v := .bool false) (ej rfl rfl) (w0 rfl) (c_done (n_then (c_ret (r_block (r_then (ret1 (v := .bool false) rfl rfl rfl ?_)))))))))))
      refine ⟨_,rfl,?_,(NewB.ext n3)⟩
      (refine congrArg Value.bool ?_; unfold argB; (rw [if_neg (by omega),if_neg (by omega),if_pos (by omega)]; ((try simp only [*,decide_true,decide_false,if_true,if_false,Bool.and_true,Bool.true_and,Bool.false_and,Bool.and_false,Bool.not_true,Bool.not_false,Bool.false_eq_true,reduceIte,not_true_eq_false,not_false_eq_true]); first | done | rfl); done))
    refine s_move (v := .bool true) (vb (ej rfl rfl) (nb1 h19)) (w0 rfl) (s_field (off := 1) (o' := 1) F_f129_1 (ej rfl rfl) rfl (wy rfl rfl rfl rfl) (s_loadL (cs := [.string x.t.v,.int .i8 x.t.l.k,.int .i64 x.t.l.n,.string x.t.l.s]) F_m33 (ej rfl rfl) rfl rfl (blk_cells (NewB.blk n3) 1 rfl) (wy rfl rfl rfl rfl) (s_call F_e119 (wy rfl rfl rfl rfl) ev_f (m1 (ej rfl rfl)) (args := #[.agg #[.string x.t.v,.int .i8 x.t.l.k,.int .i64 x.t.l.n,.string x.t.l.s]]) rfl (t_solid x.t _ (Ag.wf.t hx)) ?_)))
    rintro _ w21 ⟨rfl,x20⟩
    refine s_pick1 (v := .bool (!decide (x.t.v = ⟨#[95]⟩) && tmB x.t)) (ej rfl rfl) (ej rfl rfl) (w0 rfl) (s_assign (v := .bool (!decide (x.t.v = ⟨#[95]⟩) && tmB x.t)) (ej rfl rfl) (w0 rfl) (c_done (n_then (c_ret (r_block (r_then (ret1 (v := .bool (!decide (x.t.v = ⟨#[95]⟩) && tmB x.t)) rfl rfl rfl ?_)))))))
    refine ⟨_,rfl,?_,(Ext.trans (NewB.ext n3) x20)⟩
    (refine congrArg Value.bool ?_; unfold argB; (rw [if_neg (by omega),if_neg (by omega),if_pos (by omega)]; ((try simp only [*,decide_true,decide_false,if_true,if_false,Bool.and_true,Bool.true_and,Bool.false_and,Bool.and_false,Bool.not_true,Bool.not_false,Bool.false_eq_true,reduceIte,not_true_eq_false,not_false_eq_true]); first | done | rfl); done))
  refine c_cond0 (vb (ej rfl rfl) (decide_eq_false h18)) (c_skip (n_block (n_then (c_seq (c_reg (s_assign (v := .bool false) ev_c (w0 rfl) (c_done (n_then (c_ret (ret1 (v := .bool false) rfl rfl rfl ?_))))))))))
  refine ⟨_,rfl,?_,(NewB.ext n3)⟩
  (refine congrArg Value.bool ?_; unfold argB; (rw [if_neg (by omega),if_neg (by omega),if_neg (by omega)]; done))
theorem sAt_there {l : List ByteArray} {j : Nat} (h : j < l.length) : l[j]? = some (sAt l j) := by simp [sAt,List.getD_eq_getElem?_getD,h]
theorem r4_In (nm : ByteArray) (S : List ByteArray) (A : Option Addr) (c : Nat) (w : World) (hl : S.length ≤ 1000000000) (hr : Row RS 1 w A S) :
    Rt Tryz.prog 147 #[.string nm,.slice A S.length c] w fun v w' => v = .bool (inL nm S) ∧ Ext w w' := by
  refine enter Tryz.func147 rfl (l := [.string nm,.slice A S.length c]) rfl Tryz.ntmps147 (Nat.le_of_ble_eq_true rfl) ?_
  refine c_seq (c_reg (s_assign (v := .bool false) ev_c (w0 rfl) (c_done (n_then (c_seq (c_seq (c_reg (s_assign (v := .int .i64 0) ev_c (w0 rfl) (c_done (n_then (c_block ?_)))))))))))
  refine c_loop (α := Nat) (fun (i : Nat) env_ w_ => Ext w w_ ∧ (∀ j y,j < i → S[j]? = some y → ¬ y = nm) ∧ i ≤ S.length ∧ env_ 0 = .string nm ∧ env_ 1 = .slice A S.length c ∧ env_ 5 = .int .i64 ((i : Nat) : Int)) (fun i => S.length - i) (0) ⟨Ext.refl _,(fun j y h => absurd h (Nat.not_lt_zero j)),Nat.zero_le _,rfl,rfl,rfl⟩ ?_
  rintro i env3 w1 ⟨x2,i4,i5,e6,e7,e8⟩
  refine c_seq (c_seq (c_reg (s_move (v := .int .i64 ((i : Nat) : Int)) (ej rfl e8) (w0 rfl) (s_move (v := .slice A S.length c) (ej rfl e7) (w0 rfl) (s_lenL F_l106 (ej rfl rfl) (w0 rfl) (s_cmp (r := decide (((i : Nat) : Int) < (S.length : Int))) (ej rfl rfl) (ej rfl rfl) rfl (w0 rfl) (c_done (n_then ?_))))))))
  by_cases h9 : ((i : Nat) : Int) < (S.length : Int)
  · refine c_cond1 (vb (ej rfl rfl) (decide_eq_true h9)) (c_skip (n_then (c_seq (c_block (c_seq (c_reg (s_move (v := .slice A S.length c) (ej rfl e7) (w0 rfl) (s_move (v := .int .i64 ((i : Nat) : Int)) (ej rfl e8) (w0 rfl) ?_))))))))
    obtain ⟨b10,o11,x12,csx12,hA13,hx14,hR15,hc16⟩ := Row.at_ hr i (by omega)
    obtain rfl := sAt_of hx14
    obtain rfl := hR15
    refine s_indexR (j := i) F_l106 (ej rfl rfl) hA13 (ej rfl rfl) rfl (by omega) (w0 rfl) (s_load (v := .string (sAt S i)) F_o9 (ej rfl rfl) ((cells_ext x2 hc16) 0 _ rfl) (w0 rfl) (s_move (v := .string nm) (ej rfl e6) (w0 rfl) (s_cmpS (r := decide ((sAt S i) = nm)) (ej rfl rfl) (ej rfl rfl) rfl (w0 rfl) (c_done (n_then ?_)))))
    by_cases h17 : (sAt S i) = nm
    · refine c_cond1 (vb (ej rfl rfl) (decide_eq_true h17)) (c_seq (c_reg (s_assign (v := .bool true) ev_c (w0 rfl) (c_done (n_then (c_ret (r_block (r_then (r_then (r_block (r_then ?_)))))))))))
      refine ret1 (v := .bool true) rfl rfl rfl ?_
      refine ⟨_,rfl,?_,x2⟩
      (exact congrArg Value.bool (inL_yes (sAt_there (j := i) (l := S) (by omega)) (by assumption)).symm)
    refine c_cond0 (vb (ej rfl rfl) (decide_eq_false h17)) (c_skip (n_block (n_then (c_reg (s_move (v := .int .i64 ((i : Nat) : Int)) (ej rfl e8) (w0 rfl) (s_add (r := ((i + 1 : Nat) : Int)) (ej rfl rfl) ev_c (by omega) (by omega) (w0 rfl) (s_assign (v := .int .i64 ((i + 1 : Nat) : Int)) (ej rfl rfl) (w0 rfl) (c_done ?_))))))))
    exact ⟨(i + 1),_,rfl,⟨x2,(not_step i4 (by assumption) (by omega)),by omega,e6,e7,rfl⟩,(show S.length - (i + 1) < S.length - i by omega)⟩
  refine c_cond0 (vb (ej rfl rfl) (decide_eq_false h9)) (c_exit (e_then (e_then (e_hit (n_then (c_seq (c_reg (s_assign (v := .bool false) ev_c (w0 rfl) (c_done (n_then (c_ret ?_)))))))))))
  refine ret1 (v := .bool false) rfl rfl rfl ?_
  refine ⟨_,rfl,?_,x2⟩
  (exact congrArg Value.bool (inL_no i4 (by omega)).symm)
theorem r4_exprTerms_step (d : Nat) (ts : List Tm) (Al : Option Addr) (cl : Nat) (x : Ex) (A : Option Addr) (c : Nat) (wz : World) (w : World) (x0 : Ext wz w) (hot : OT 33 wz.heap.size w Al cl ts) (ho : x.okc c) (hr : Row RE 6 wz A x.kids) (hsm : smE d x) (hn : ts.length + 2 ^ d ≤ 1000000) (ih : ∀ (j : Nat) (y : Ex),x.kids[j]? = some y → ∀ (ts : List Tm) (Al : Option Addr) (cl : Nat) (A : Option Addr) (c : Nat) (w : World),Ext wz w → OT 33 wz.heap.size w Al cl ts → y.okc c → Row RE 6 wz A y.kids → ts.length + 2 ^ (d - 1) ≤ 1000000 → Rt Tryz.prog 153 #[.slice Al ts.length cl,.agg #[.int .i8 y.op,.string y.t.v,.int .i8 y.t.l.k,.int .i64 y.t.l.n,.string y.t.l.s,.slice A y.kids.length c]] w (fun v w' => ∃ A' c',v = .slice A' (ts ++ exTs (d - 1) y).length c' ∧ OT 33 wz.heap.size w' A' c' (ts ++ exTs (d - 1) y) ∧ KT wz.heap.size 33 w w')) :
    Rt Tryz.prog 153 #[.slice Al ts.length cl,.agg #[.int .i8 x.op,.string x.t.v,.int .i8 x.t.l.k,.int .i64 x.t.l.n,.string x.t.l.s,.slice A x.kids.length c]] w fun v w' => ∃ A' c',v = .slice A' (ts ++ exTs d x).length c' ∧ OT 33 wz.heap.size w' A' c' (ts ++ exTs d x) ∧ KT wz.heap.size 33 w w' := by
  refine enter Tryz.func153 rfl (l := [.slice Al ts.length cl,.agg #[.int .i8 x.op,.string x.t.v,.int .i8 x.t.l.k,.int .i64 x.t.l.n,.string x.t.l.s,.slice A x.kids.length c]]) rfl Tryz.ntmps153 (Nat.le_of_ble_eq_true rfl) ?_
  have hl_ := Ex.okc.l ho
  have hc_ := Ex.okc.c ho
  have hd0_ := smE.pos hsm
  have hk2_ := smE.kids hsm hd0_
  have hp1_ : 1 ≤ 2 ^ d := one_pow
  have hsz_ := Keep.size x0
  refine c_seq (c_reg (s_box (v := .agg #[.int .i8 x.op,.string x.t.v,.int .i8 x.t.l.k,.int .i64 x.t.l.n,.string x.t.l.s,.slice A x.kids.length c]) (cs := #[.int .i8 x.op,.string x.t.v,.int .i8 x.t.l.k,.int .i64 x.t.l.n,.string x.t.l.s,.slice A x.kids.length c]) (w0 rfl) (ej rfl rfl) rfl ?_))
  intro w2 g1 n3
  refine s_assign (v := .slice none 0 0) ev_c (w0 rfl) (c_done (n_then (c_seq (c_reg (s_move (v := .slice Al ts.length cl) (ej rfl rfl) (w0 rfl) (s_field (off := 1) (o' := 1) F_f36_1 (ej rfl rfl) rfl (w0 rfl) (s_loadL (cs := [.string x.t.v,.int .i8 x.t.l.k,.int .i64 x.t.l.n,.string x.t.l.s]) F_m33 (ej rfl rfl) rfl rfl (blk_cells (NewB.blk n3) 1 rfl) (w0 rfl) (s_bslice (vs := [(0,.agg #[.string x.t.v,.int .i8 x.t.l.k,.int .i64 x.t.l.n,.string x.t.l.s])]) (cs := #[.string x.t.v,.int .i8 x.t.l.k,.int .i64 x.t.l.n,.string x.t.l.s]) (b1 (ej rfl rfl)) (bs22_1_0s_0ii8_0ii64_0s x.t.v x.t.l.k x.t.l.n x.t.l.s) (w0 rfl) ?_))))))))
  intro w5 g4 n6
  refine s_append (m := 4) (k := 1) (news := [.string x.t.v,.int .i8 x.t.l.k,.int .i64 x.t.l.n,.string x.t.l.s]) F_ul22 F_if33 rfl (by decide) (ej rfl rfl) (OT.own (OT.ext (OT.ext hot (NewB.ext n3)) (NewB.ext n6))) (ej rfl rfl) rfl (by have z_ := blk_cells (NewB.blk n6) 0 (cs := [.string x.t.v,.int .i8 x.t.l.k,.int .i64 x.t.l.n,.string x.t.l.s]) rfl; exact z_) rfl (by omega) (by omega) (Keep.size (Ext.trans (Ext.trans x0 (NewB.ext n3)) (NewB.ext n6))) (w0 rfl) ?_
  intro A9 c10 w7 ow11 k8
  have ot12 := OT.snoc (y := x.t) ow11
  refine s_assign (v := .slice A9 (ts.length + 1) c10) (ej rfl rfl) (w0 rfl) (c_done (n_then (c_seq (c_seq (c_reg (s_assign (v := .int .i64 0) ev_c (w0 rfl) (c_done (n_then (c_block ?_)))))))))
  have ge13 : wz.heap.size ≤ g1 := by have a_ := NewB.eq n3; have b_ := Keep.size x0; omega
  refine c_loop (α := Nat × Option Addr × Nat) (fun x_ env_ w_ => match x_ with | (i,A1,c1) => KT wz.heap.size 33 w w_ ∧ w_.heap[g1]? = some (.cells #[.int .i8 x.op,.string x.t.v,.int .i8 x.t.l.k,.int .i64 x.t.l.n,.string x.t.l.s,.slice A x.kids.length c] 36 (0,0)) ∧ i ≤ x.kids.length ∧ OT 33 wz.heap.size w_ A1 c1 (ts ++ exK (d - 1) x i) ∧ env_ 0 = .slice A1 ((ts ++ exK (d - 1) x i).length) c1 ∧ env_ 3 = .pointer (some ⟨g1,0,none⟩) ∧ env_ 4 = .slice none 0 0 ∧ env_ 5 = .int .i64 ((i : Nat) : Int)) (fun x_ => match x_ with | (i,A1,c1) => x.kids.length - i) (0,A9,c10) ⟨(KT.trans (KT.trans (KT.of_ext (NewB.ext n3)) (KT.of_ext (NewB.ext n6))) (KT.of_own (OT.own (OT.ext (OT.ext hot (NewB.ext n3)) (NewB.ext n6))) k8)),(Keep.blk k8 (Ext.blk (NewB.ext n6) (NewB.blk n3)) (own_ne (OT.own (OT.ext (OT.ext hot (NewB.ext n3)) (NewB.ext n6))) (Ext.blk (NewB.ext n6) (NewB.blk n3)) (by decide))),Nat.zero_le _,(OT.cast ot12 (by rw [exK_zero])),(congrArg (fun n_ => Value.slice A9 n_ c10) (show (ts.length + 1) = (ts ++ exK (d - 1) x 0).length by rw [exK_zero]; simp)),rfl,rfl,rfl⟩ ?_
  rintro ⟨i,A1,c1⟩ env16 w14 ⟨x15,bk23,i17,i18,e19,e20,e21,e22⟩
  refine c_seq (c_seq (c_reg (s_move (v := .int .i64 ((i : Nat) : Int)) (ej rfl e22) (w0 rfl) (s_field (off := 5) (o' := 5) F_f36_2 (ej rfl e20) rfl (w0 rfl) (s_load (v := .slice A x.kids.length c) F_o34 (ej rfl rfl) (cell_of_blk (i := 5) bk23 rfl) (w0 rfl) (s_lenL F_l34 (ej rfl rfl) (w0 rfl) (s_cmp (r := decide (((i : Nat) : Int) < (x.kids.length : Int))) (ej rfl rfl) (ej rfl rfl) rfl (w0 rfl) (c_done (n_then ?_)))))))))
  by_cases h24 : ((i : Nat) : Int) < (x.kids.length : Int)
  · refine c_cond1 (vb (ej rfl rfl) (decide_eq_true h24)) (c_skip (n_then (c_seq (c_block (c_reg (s_move (v := .slice A1 ((ts ++ exK (d - 1) x i).length) c1) (ej rfl e19) (w0 rfl) (s_field (off := 5) (o' := 5) F_f36_2 (ej rfl e20) rfl (w0 rfl) (s_load (v := .slice A x.kids.length c) F_o34 (ej rfl rfl) (cell_of_blk (i := 5) bk23 rfl) (w0 rfl) (s_move (v := .int .i64 ((i : Nat) : Int)) (ej rfl e22) (w0 rfl) ?_)))))))))
    obtain ⟨b25,o26,x27,csx27,hA28,hx29,hR30,hc31⟩ := Row.at_ hr i (by omega)
    obtain rfl := Ex.kid_of hx29
    obtain ⟨A32,c33,rfl,ho34,hr35⟩ := RE.open_ hR30
    refine s_indexR (j := i) F_l34 (ej rfl rfl) hA28 (ej rfl rfl) rfl (by omega) (w0 rfl) (s_loadL (cs := [.int .i8 ((x.kid i).op),.string ((x.kid i).t.v),.int .i8 ((x.kid i).t.l.k),.int .i64 ((x.kid i).t.l.n),.string ((x.kid i).t.l.s),.slice A32 ((x.kid i).kids.length) c33]) F_m36 (ej rfl rfl) rfl rfl (sub_cells (cells_ext (KT.ext0 x0 x15) hc31) 0 rfl) (w0 rfl) (s_call F_e153 (w0 rfl) ev_f (m2 (ej rfl rfl) (ej rfl rfl)) (args := #[.slice A1 ((ts ++ exK (d - 1) x i).length) c1,.agg #[.int .i8 ((x.kid i).op),.string ((x.kid i).t.v),.int .i8 ((x.kid i).t.l.k),.int .i64 ((x.kid i).t.l.n),.string ((x.kid i).t.l.s),.slice A32 ((x.kid i).kids.length) c33]]) rfl (ih i _ (kid_there (x := x) (j := i) (by omega)) (ts ++ exK (d - 1) x i) A1 c1 A32 c33 _ (KT.ext0 x0 x15) i18 ho34 hr35 (by have b_ := exK_bound hsm (i := i) (by omega); rw [List.length_append]; omega)) ?_))
    rintro _ w38 ⟨A36,c37,rfl,ow39,k40⟩
    refine s_assign (v := .slice A36 (((ts ++ exK (d - 1) x i) ++ exTs (d - 1) (x.kid i)).length) c37) (ej rfl rfl) (w0 rfl) (c_done (n_block (n_then (c_reg (s_move (v := .int .i64 ((i : Nat) : Int)) (ej rfl e22) (w0 rfl) (s_add (r := ((i + 1 : Nat) : Int)) (ej rfl rfl) ev_c (by omega) (by omega) (w0 rfl) (s_assign (v := .int .i64 ((i + 1 : Nat) : Int)) (ej rfl rfl) (w0 rfl) (c_done ?_))))))))
    exact ⟨(i + 1,A36,c37),_,rfl,⟨(KT.trans x15 k40),(KT.blk k40 bk23 (by decide)),by omega,(OT.cast ow39 (by rw [exK_step (by omega),← List.append_assoc])),(congrArg (fun n_ => Value.slice A36 n_ c37) (show ((ts ++ exK (d - 1) x i) ++ exTs (d - 1) (x.kid i)).length = ((ts ++ exK (d - 1) x (i + 1))).length by rw [exK_step (by omega),← List.append_assoc])),e20,e21,rfl⟩,(show x.kids.length - (i + 1) < x.kids.length - i by omega)⟩
  refine c_cond0 (vb (ej rfl rfl) (decide_eq_false h24)) (c_exit (e_then (e_then (e_hit (n_then (c_seq (c_reg (s_move (v := .slice A1 ((ts ++ exK (d - 1) x i).length) c1) (ej rfl e19) (w0 rfl) (s_assign (v := .slice A1 ((ts ++ exK (d - 1) x i).length) c1) (ej rfl rfl) (w0 rfl) (c_done (n_then ?_)))))))))))
  refine c_ret (ret1 (v := .slice A1 ((ts ++ exK (d - 1) x i).length) c1) rfl rfl rfl ?_)
  have e41 : (ts ++ exK (d - 1) x i) = ts ++ exTs d x := by rw [exK_all' hd0_ (by omega)]
  exact ⟨_,rfl,A1,c1,congrArg (fun l_ => Value.slice A1 (List.length l_) c1) e41,OT.cast i18 e41,x15⟩
theorem r4_exprTerms (wz : World) : ∀ (d : Nat) (x : Ex) (ts : List Tm) (Al : Option Addr) (cl : Nat) (A : Option Addr) (c : Nat) (w : World),smE d x → Ext wz w → OT 33 wz.heap.size w Al cl ts → x.okc c → Row RE 6 wz A x.kids → ts.length + 2 ^ d ≤ 1000000 → Rt Tryz.prog 153 #[.slice Al ts.length cl,.agg #[.int .i8 x.op,.string x.t.v,.int .i8 x.t.l.k,.int .i64 x.t.l.n,.string x.t.l.s,.slice A x.kids.length c]] w (fun v w' => ∃ A' c',v = .slice A' (ts ++ exTs d x).length c' ∧ OT 33 wz.heap.size w' A' c' (ts ++ exTs d x) ∧ KT wz.heap.size 33 w w') := by
  intro d
  induction d with
  | zero => intro x ts Al cl A c w hsm; exact hsm.elim
  | succ d ih =>
    intro x ts Al cl A c w hsm x0 hot ho hr hn
    exact r4_exprTerms_step (d + 1) ts Al cl x A c wz w x0 hot ho hr hsm hn (fun j y hy ts Al cl A c w x0 hot ho hr hn => ih y ts Al cl A c w (hsm.kid hy) x0 hot ho hr hn)
theorem r4_literalTerms (ts : List Tm) (Al : Option Addr) (cl : Nat) (x : Lt) (Aa A1 A2 : Option Addr) (ca c1 c2 : Nat) (wz : World) (w : World) (x0 : Ext wz w) (hot : OT 33 wz.heap.size w Al cl ts) (ho : x.okc ca c1 c2) (hra : Row RT 4 wz Aa x.a.args) (hr1 : Row RE 6 wz A1 x.e1.kids) (hr2 : Row RE 6 wz A2 x.e2.kids) (hlt : ltB x = true) (hn : ts.length + 540 ≤ 1000000) :
    Rt Tryz.prog 148 #[.slice Al ts.length cl,.agg #[.int .i8 x.k,.string x.a.p,.slice Aa x.a.args.length ca,.int .i8 x.r,.int .i8 x.e1.op,.string x.e1.t.v,.int .i8 x.e1.t.l.k,.int .i64 x.e1.t.l.n,.string x.e1.t.l.s,.slice A1 x.e1.kids.length c1,.int .i8 x.e2.op,.string x.e2.t.v,.int .i8 x.e2.t.l.k,.int .i64 x.e2.t.l.n,.string x.e2.t.l.s,.slice A2 x.e2.kids.length c2]] w fun v w' => ∃ A' c',v = .slice A' (ts ++ ltTs x).length c' ∧ OT 33 wz.heap.size w' A' c' (ts ++ ltTs x) ∧ KT wz.heap.size 33 w w' := by
  refine enter Tryz.func148 rfl (l := [.slice Al ts.length cl,.agg #[.int .i8 x.k,.string x.a.p,.slice Aa x.a.args.length ca,.int .i8 x.r,.int .i8 x.e1.op,.string x.e1.t.v,.int .i8 x.e1.t.l.k,.int .i64 x.e1.t.l.n,.string x.e1.t.l.s,.slice A1 x.e1.kids.length c1,.int .i8 x.e2.op,.string x.e2.t.v,.int .i8 x.e2.t.l.k,.int .i64 x.e2.t.l.n,.string x.e2.t.l.s,.slice A2 x.e2.kids.length c2]]) rfl Tryz.ntmps148 (Nat.le_of_ble_eq_true rfl) ?_
  have hoa_ := Lt.okc.a ho
  have ho1_ := Lt.okc.e1 ho
  have ho2_ := Lt.okc.e2 ho
  have hl1_ := Ex.okc.l ho1_
  have hl2_ := Ex.okc.l ho2_
  have hc1_ := Ex.okc.c ho1_
  have hc2_ := Ex.okc.c ho2_
  have hla_ := At.okc.l hoa_
  have hca_ := At.okc.c hoa_
  have hpa_ := At.okc.p hoa_
  obtain ⟨hsm1_,hsm2_,hl24_⟩ := lt_sm hlt
  have hz1_ := exTs_len 8 _ hsm1_
  have hz2_ := exTs_len 8 _ hsm2_
  have hsz_ := Keep.size x0
  refine c_seq (c_reg (s_box (v := .agg #[.int .i8 x.k,.string x.a.p,.slice Aa x.a.args.length ca,.int .i8 x.r,.int .i8 x.e1.op,.string x.e1.t.v,.int .i8 x.e1.t.l.k,.int .i64 x.e1.t.l.n,.string x.e1.t.l.s,.slice A1 x.e1.kids.length c1,.int .i8 x.e2.op,.string x.e2.t.v,.int .i8 x.e2.t.l.k,.int .i64 x.e2.t.l.n,.string x.e2.t.l.s,.slice A2 x.e2.kids.length c2]) (cs := #[.int .i8 x.k,.string x.a.p,.slice Aa x.a.args.length ca,.int .i8 x.r,.int .i8 x.e1.op,.string x.e1.t.v,.int .i8 x.e1.t.l.k,.int .i64 x.e1.t.l.n,.string x.e1.t.l.s,.slice A1 x.e1.kids.length c1,.int .i8 x.e2.op,.string x.e2.t.v,.int .i8 x.e2.t.l.k,.int .i64 x.e2.t.l.n,.string x.e2.t.l.s,.slice A2 x.e2.kids.length c2]) (w0 rfl) (ej rfl rfl) rfl ?_))
  intro w2 g1 n3
  refine s_assign (v := .slice none 0 0) ev_c (w0 rfl) (c_done (n_then (c_seq (c_seq (c_reg (s_assign (v := .int .i64 0) ev_c (w0 rfl) (c_done (n_then (c_block ?_)))))))))
  have ge4 : wz.heap.size ≤ g1 := by have a_ := NewB.eq n3; have b_ := Keep.size x0; omega
  refine c_loop (α := Nat × Option Addr × Nat) (fun x_ env_ w_ => match x_ with | (i,A0,c0) => KT wz.heap.size 33 w w_ ∧ w_.heap[g1]? = some (.cells #[.int .i8 x.k,.string x.a.p,.slice Aa x.a.args.length ca,.int .i8 x.r,.int .i8 x.e1.op,.string x.e1.t.v,.int .i8 x.e1.t.l.k,.int .i64 x.e1.t.l.n,.string x.e1.t.l.s,.slice A1 x.e1.kids.length c1,.int .i8 x.e2.op,.string x.e2.t.v,.int .i8 x.e2.t.l.k,.int .i64 x.e2.t.l.n,.string x.e2.t.l.s,.slice A2 x.e2.kids.length c2] 38 (0,0)) ∧ i ≤ x.a.args.length ∧ OT 33 wz.heap.size w_ A0 c0 (ts ++ x.a.args.take i) ∧ env_ 0 = .slice A0 ((ts ++ x.a.args.take i).length) c0 ∧ env_ 3 = .pointer (some ⟨g1,0,none⟩) ∧ env_ 4 = .slice none 0 0 ∧ env_ 5 = .int .i64 ((i : Nat) : Int)) (fun x_ => match x_ with | (i,A0,c0) => x.a.args.length - i) (0,Al,cl) ⟨(KT.of_ext (NewB.ext n3)),(NewB.blk n3),Nat.zero_le _,(OT.cast (OT.ext hot (NewB.ext n3)) (by simp)),(congrArg (fun n_ => Value.slice Al n_ cl) (show ts.length = (ts ++ x.a.args.take 0).length by simp)),rfl,rfl,rfl⟩ ?_
  rintro ⟨i,A0,c0⟩ env7 w5 ⟨x6,bk14,i8,i9,e10,e11,e12,e13⟩
  refine c_seq (c_seq (c_reg (s_move (v := .int .i64 ((i : Nat) : Int)) (ej rfl e13) (w0 rfl) (s_field (off := 1) (o' := 1) F_f38_1 (ej rfl e11) rfl (w0 rfl) (s_field (off := 1) (o' := 2) F_f24_1 (ej rfl rfl) rfl (w0 rfl) (s_load (v := .slice Aa x.a.args.length ca) F_o22 (ej rfl rfl) (cell_of_blk (i := 2) bk14 rfl) (w0 rfl) (s_lenL F_l22 (ej rfl rfl) (w0 rfl) (s_cmp (r := decide (((i : Nat) : Int) < (x.a.args.length : Int))) (ej rfl rfl) (ej rfl rfl) rfl (w0 rfl) (c_done (n_then ?_))))))))))
  by_cases h15 : ((i : Nat) : Int) < (x.a.args.length : Int)
  · refine c_cond1 (vb (ej rfl rfl) (decide_eq_true h15)) (c_skip (n_then (c_seq (c_block (c_reg (s_move (v := .slice A0 ((ts ++ x.a.args.take i).length) c0) (ej rfl e10) (w0 rfl) (s_field (off := 1) (o' := 1) F_f38_1 (ej rfl e11) rfl (w0 rfl) (s_field (off := 1) (o' := 2) F_f24_1 (ej rfl rfl) rfl (w0 rfl) (s_load (v := .slice Aa x.a.args.length ca) F_o22 (ej rfl rfl) (cell_of_blk (i := 2) bk14 rfl) (w0 rfl) (s_move (v := .int .i64 ((i : Nat) : Int)) (ej rfl e13) (w0 rfl) ?_))))))))))
    obtain ⟨b16,o17,x18,csx18,hA19,hx20,hR21,hc22⟩ := Row.at_ hra i (by omega)
    obtain rfl := tmAt_of hx20
    obtain ⟨rfl,wf23⟩ := hR21
    refine s_indexR (j := i) F_l22 (ej rfl rfl) hA19 (ej rfl rfl) rfl (by omega) (w0 rfl) (s_loadL (cs := [.string ((tmAt x.a.args i).v),.int .i8 ((tmAt x.a.args i).l.k),.int .i64 ((tmAt x.a.args i).l.n),.string ((tmAt x.a.args i).l.s)]) F_m33 (ej rfl rfl) rfl rfl (sub_cells (cells_ext (KT.ext0 x0 x6) hc22) 0 rfl) (w0 rfl) (s_bslice (vs := [(0,.agg #[.string ((tmAt x.a.args i).v),.int .i8 ((tmAt x.a.args i).l.k),.int .i64 ((tmAt x.a.args i).l.n),.string ((tmAt x.a.args i).l.s)])]) (cs := #[.string ((tmAt x.a.args i).v),.int .i8 ((tmAt x.a.args i).l.k),.int .i64 ((tmAt x.a.args i).l.n),.string ((tmAt x.a.args i).l.s)]) (b1 (ej rfl rfl)) (bs22_1_0s_0ii8_0ii64_0s ((tmAt x.a.args i).v) ((tmAt x.a.args i).l.k) ((tmAt x.a.args i).l.n) ((tmAt x.a.args i).l.s)) (w0 rfl) ?_))
    intro w25 g24 n26
    refine s_append (m := 4) (k := 1) (news := [.string ((tmAt x.a.args i).v),.int .i8 ((tmAt x.a.args i).l.k),.int .i64 ((tmAt x.a.args i).l.n),.string ((tmAt x.a.args i).l.s)]) F_ul22 F_if33 rfl (by decide) (ej rfl rfl) (OT.own (OT.ext i9 (NewB.ext n26))) (ej rfl rfl) rfl (by have z_ := blk_cells (NewB.blk n26) 0 (cs := [.string ((tmAt x.a.args i).v),.int .i8 ((tmAt x.a.args i).l.k),.int .i64 ((tmAt x.a.args i).l.n),.string ((tmAt x.a.args i).l.s)]) rfl; exact z_) rfl (by simp only [List.length_append,List.length_take,List.length_map]; omega) (by simp only [List.length_append,List.length_take,List.length_map]; omega) (Keep.size (Ext.trans (KT.ext0 x0 x6) (NewB.ext n26))) (w0 rfl) ?_
    intro A29 c30 w27 ow31 k28
    have ot32 := OT.snoc (y := (tmAt x.a.args i)) ow31
    refine s_assign (v := .slice A29 ((ts ++ x.a.args.take i).length + 1) c30) (ej rfl rfl) (w0 rfl) (c_done (n_block (n_then (c_reg (s_move (v := .int .i64 ((i : Nat) : Int)) (ej rfl e13) (w0 rfl) (s_add (r := ((i + 1 : Nat) : Int)) (ej rfl rfl) ev_c (by omega) (by omega) (w0 rfl) (s_assign (v := .int .i64 ((i + 1 : Nat) : Int)) (ej rfl rfl) (w0 rfl) (c_done ?_))))))))
    exact ⟨(i + 1,A29,c30),_,rfl,⟨(KT.trans (KT.trans x6 (KT.of_ext (NewB.ext n26))) (KT.of_own (OT.own (OT.ext i9 (NewB.ext n26))) k28)),(Keep.blk k28 (Ext.blk (NewB.ext n26) bk14) (own_ne (OT.own (OT.ext i9 (NewB.ext n26))) (Ext.blk (NewB.ext n26) bk14) (by decide))),by omega,(OT.cast ot32 (by rw [tk_step (by omega)])),(congrArg (fun n_ => Value.slice A29 n_ c30) (show ((ts ++ x.a.args.take i).length + 1) = ((ts ++ x.a.args.take (i + 1))).length by rw [tk_step (by omega)]; first | (simp; done) | (simp; omega))),e11,e12,rfl⟩,(show x.a.args.length - (i + 1) < x.a.args.length - i by omega)⟩
  refine c_cond0 (vb (ej rfl rfl) (decide_eq_false h15)) (c_exit (e_then (e_then (e_hit (n_then (c_seq (c_reg (s_move (v := .slice A0 ((ts ++ x.a.args.take i).length) c0) (ej rfl e10) (w0 rfl) (s_field (off := 4) (o' := 4) F_f38_3 (ej rfl e11) rfl (w0 rfl) (s_loadL (cs := [.int .i8 x.e1.op,.string x.e1.t.v,.int .i8 x.e1.t.l.k,.int .i64 x.e1.t.l.n,.string x.e1.t.l.s,.slice A1 x.e1.kids.length c1]) F_m36 (ej rfl rfl) rfl rfl (blk_cells bk14 4 rfl) (w0 rfl) (s_call F_e153 (w0 rfl) ev_f (m2 (ej rfl rfl) (ej rfl rfl)) (args := #[.slice A0 ((ts ++ x.a.args.take i).length) c0,.agg #[.int .i8 x.e1.op,.string x.e1.t.v,.int .i8 x.e1.t.l.k,.int .i64 x.e1.t.l.n,.string x.e1.t.l.s,.slice A1 x.e1.kids.length c1]]) rfl (r4_exprTerms wz 8 x.e1 (ts ++ x.a.args.take i) A0 c0 A1 c1 _ hsm1_ (KT.ext0 x0 x6) i9 ho1_ hr1 (by simp only [List.length_append,List.length_take]; omega)) ?_)))))))))))
  rintro _ w35 ⟨A33,c34,rfl,ow36,k37⟩
  refine s_assign (v := .slice A33 (((ts ++ x.a.args.take i) ++ exTs 8 x.e1).length) c34) (ej rfl rfl) (w0 rfl) (c_done (n_then (c_seq (c_reg (s_move (v := .slice A33 (((ts ++ x.a.args.take i) ++ exTs 8 x.e1).length) c34) (ej rfl rfl) (w0 rfl) (s_field (off := 10) (o' := 10) F_f38_4 (ej rfl e11) rfl (w0 rfl) (s_loadL (cs := [.int .i8 x.e2.op,.string x.e2.t.v,.int .i8 x.e2.t.l.k,.int .i64 x.e2.t.l.n,.string x.e2.t.l.s,.slice A2 x.e2.kids.length c2]) F_m36 (ej rfl rfl) rfl rfl (blk_cells (KT.blk k37 bk14 (by decide)) 10 rfl) (w0 rfl) (s_call F_e153 (w0 rfl) ev_f (m2 (ej rfl rfl) (ej rfl rfl)) (args := #[.slice A33 (((ts ++ x.a.args.take i) ++ exTs 8 x.e1).length) c34,.agg #[.int .i8 x.e2.op,.string x.e2.t.v,.int .i8 x.e2.t.l.k,.int .i64 x.e2.t.l.n,.string x.e2.t.l.s,.slice A2 x.e2.kids.length c2]]) rfl (r4_exprTerms wz 8 x.e2 ((ts ++ x.a.args.take i) ++ exTs 8 x.e1) A33 c34 A2 c2 _ hsm2_ (KT.ext0 (KT.ext0 x0 x6) k37) ow36 ho2_ hr2 (by simp only [List.length_append,List.length_take]; omega)) ?_))))))))
  rintro _ w40 ⟨A38,c39,rfl,ow41,k42⟩
  refine s_assign (v := .slice A38 (((ts ++ x.a.args.take i) ++ exTs 8 x.e1 ++ exTs 8 x.e2).length) c39) (ej rfl rfl) (w0 rfl) (c_done (n_then (c_ret (ret1 (v := .slice A38 (((ts ++ x.a.args.take i) ++ exTs 8 x.e1 ++ exTs 8 x.e2).length) c39) rfl rfl rfl ?_))))
  have e43 : (ts ++ x.a.args.take i) ++ exTs 8 x.e1 ++ exTs 8 x.e2 = ts ++ ltTs x := by unfold ltTs; rw [List.take_of_length_le (by omega)]; simp only [List.append_assoc]
  exact ⟨_,rfl,A38,c39,congrArg (fun l_ => Value.slice A38 (List.length l_) c39) e43,OT.cast ow41 e43,(KT.trans (KT.trans x6 k37) k42)⟩
theorem r4_ruleTerms (x : Ru) (Ah Ab : Option Addr) (ch cb : Nat) (w : World) (ho : x.okc ch cb) (hrh : Row RG 5 w Ah x.head) (hrb : Row RL 16 w Ab x.body) (h24 : x.head.length ≤ 24) (h16 : x.body.length ≤ 16) (hbod : ∀ (j : Nat) (y : Lt),x.body[j]? = some y → ltB y = true) :
    Rt Tryz.prog 137 #[.agg #[.string x.p,.slice Ah x.head.length ch,.slice Ab x.body.length cb]] w fun v w' => ∃ A' c',v = .slice A' (ruTs x).length c' ∧ OT 33 w.heap.size w' A' c' (ruTs x) ∧ KT w.heap.size 33 w w' := by
  refine enter Tryz.func137 rfl (l := [.agg #[.string x.p,.slice Ah x.head.length ch,.slice Ab x.body.length cb]]) rfl Tryz.ntmps137 (Nat.le_of_ble_eq_true rfl) ?_
  have hpr_ := Ru.okc.p ho
  have hhl_ := Ru.okc.hl ho
  have hhc_ := Ru.okc.hc ho
  have hbl_ := Ru.okc.bl ho
  have hbc_ := Ru.okc.bc ho
  refine c_seq (c_reg (s_box (v := .agg #[.string x.p,.slice Ah x.head.length ch,.slice Ab x.body.length cb]) (cs := #[.string x.p,.slice Ah x.head.length ch,.slice Ab x.body.length cb]) (w0 rfl) (ej rfl rfl) rfl ?_))
  intro w2 g1 n3
  refine s_assign (v := .slice none 0 0) ev_c (w0 rfl) (c_done (n_then (c_seq (c_reg (s_assign (v := .slice none 0 0) ev_c (w0 rfl) (c_done (n_then (c_seq (c_seq (c_reg (s_assign (v := .int .i64 0) ev_c (w0 rfl) ?_)))))))))))
  refine c_done (n_then (c_block ?_))
  have ge4 : w.heap.size ≤ g1 := by have a_ := NewB.eq n3; have b_ := Keep.size (Ext.refl w); omega
  refine c_loop (α := Nat × Option Addr × Nat) (fun x_ env_ w_ => match x_ with | (i,A1,c1) => KT w.heap.size 33 w w_ ∧ w_.heap[g1]? = some (.cells #[.string x.p,.slice Ah x.head.length ch,.slice Ab x.body.length cb] 53 (0,0)) ∧ i ≤ x.head.length ∧ OT 33 w.heap.size w_ A1 c1 ((x.head.take i).map (fun g_ : Ag => g_.t)) ∧ env_ 1 = .pointer (some ⟨g1,0,none⟩) ∧ env_ 2 = .slice none 0 0 ∧ env_ 3 = .slice A1 (((x.head.take i).map (fun g_ : Ag => g_.t)).length) c1 ∧ env_ 4 = .int .i64 ((i : Nat) : Int)) (fun x_ => match x_ with | (i,A1,c1) => x.head.length - i) (0,none,0) ⟨(KT.of_ext (NewB.ext n3)),(NewB.blk n3),Nat.zero_le _,(OT.cast OT.nil (by simp)),rfl,rfl,(congrArg (fun n_ => Value.slice none n_ 0) (show 0 = ((x.head.take 0).map (fun g_ : Ag => g_.t)).length by simp)),rfl⟩ ?_
  rintro ⟨i,A1,c1⟩ env7 w5 ⟨x6,bk14,i8,i9,e10,e11,e12,e13⟩
  refine c_seq (c_seq (c_reg (s_move (v := .int .i64 ((i : Nat) : Int)) (ej rfl e13) (w0 rfl) (s_field (off := 1) (o' := 1) F_f53_1 (ej rfl e10) rfl (w0 rfl) (s_load (v := .slice Ah x.head.length ch) F_o51 (ej rfl rfl) (cell_of_blk (i := 1) bk14 rfl) (w0 rfl) (s_lenL F_l51 (ej rfl rfl) (w0 rfl) (s_cmp (r := decide (((i : Nat) : Int) < (x.head.length : Int))) (ej rfl rfl) (ej rfl rfl) rfl (w0 rfl) (c_done (n_then ?_)))))))))
  by_cases h15 : ((i : Nat) : Int) < (x.head.length : Int)
  · refine c_cond1 (vb (ej rfl rfl) (decide_eq_true h15)) (c_skip (n_then (c_seq (c_block (c_reg (s_move (v := .slice A1 (((x.head.take i).map (fun g_ : Ag => g_.t)).length) c1) (ej rfl e12) (w0 rfl) (s_field (off := 1) (o' := 1) F_f53_1 (ej rfl e10) rfl (w0 rfl) (s_load (v := .slice Ah x.head.length ch) F_o51 (ej rfl rfl) (cell_of_blk (i := 1) bk14 rfl) (w0 rfl) (s_move (v := .int .i64 ((i : Nat) : Int)) (ej rfl e13) (w0 rfl) ?_)))))))))
    obtain ⟨b16,o17,x18,csx18,hA19,hx20,hR21,hc22⟩ := Row.at_ hrh i (by omega)
    obtain rfl := agAt_of hx20
    obtain ⟨rfl,wf23⟩ := hR21
    refine s_indexR (j := i) F_l51 (ej rfl rfl) hA19 (ej rfl rfl) rfl (by omega) (w0 rfl) (s_field (off := 1) (o' := o17 + i * 5 + 1) F_f129_1 (ej rfl rfl) rfl (w0 rfl) (s_loadL (cs := [.string ((agAt x.head i).t.v),.int .i8 ((agAt x.head i).t.l.k),.int .i64 ((agAt x.head i).t.l.n),.string ((agAt x.head i).t.l.s)]) F_m33 (ej rfl rfl) rfl rfl (sub_cells (cells_ext (KT.ext0 (Ext.refl w) x6) hc22) 1 rfl) (w0 rfl) (s_bslice (vs := [(0,.agg #[.string ((agAt x.head i).t.v),.int .i8 ((agAt x.head i).t.l.k),.int .i64 ((agAt x.head i).t.l.n),.string ((agAt x.head i).t.l.s)])]) (cs := #[.string ((agAt x.head i).t.v),.int .i8 ((agAt x.head i).t.l.k),.int .i64 ((agAt x.head i).t.l.n),.string ((agAt x.head i).t.l.s)]) (b1 (ej rfl rfl)) (bs22_1_0s_0ii8_0ii64_0s ((agAt x.head i).t.v) ((agAt x.head i).t.l.k) ((agAt x.head i).t.l.n) ((agAt x.head i).t.l.s)) (w0 rfl) ?_)))
    intro w25 g24 n26
    refine s_append (m := 4) (k := 1) (news := [.string ((agAt x.head i).t.v),.int .i8 ((agAt x.head i).t.l.k),.int .i64 ((agAt x.head i).t.l.n),.string ((agAt x.head i).t.l.s)]) F_ul22 F_if33 rfl (by decide) (ej rfl rfl) (OT.own (OT.ext i9 (NewB.ext n26))) (ej rfl rfl) rfl (by have z_ := blk_cells (NewB.blk n26) 0 (cs := [.string ((agAt x.head i).t.v),.int .i8 ((agAt x.head i).t.l.k),.int .i64 ((agAt x.head i).t.l.n),.string ((agAt x.head i).t.l.s)]) rfl; exact z_) rfl (by simp only [List.length_append,List.length_take,List.length_map]; omega) (by simp only [List.length_append,List.length_take,List.length_map]; omega) (Keep.size (Ext.trans (KT.ext0 (Ext.refl w) x6) (NewB.ext n26))) (w0 rfl) ?_
    intro A29 c30 w27 ow31 k28
    have ot32 := OT.snoc (y := (agAt x.head i).t) ow31
    refine s_assign (v := .slice A29 (((x.head.take i).map (fun g_ : Ag => g_.t)).length + 1) c30) (ej rfl rfl) (w0 rfl) (c_done (n_block (n_then (c_reg (s_move (v := .int .i64 ((i : Nat) : Int)) (ej rfl e13) (w0 rfl) (s_add (r := ((i + 1 : Nat) : Int)) (ej rfl rfl) ev_c (by omega) (by omega) (w0 rfl) (s_assign (v := .int .i64 ((i + 1 : Nat) : Int)) (ej rfl rfl) (w0 rfl) (c_done ?_))))))))
    exact ⟨(i + 1,A29,c30),_,rfl,⟨(KT.trans (KT.trans x6 (KT.of_ext (NewB.ext n26))) (KT.of_own (OT.own (OT.ext i9 (NewB.ext n26))) k28)),(Keep.blk k28 (Ext.blk (NewB.ext n26) bk14) (own_ne (OT.own (OT.ext i9 (NewB.ext n26))) (Ext.blk (NewB.ext n26) bk14) (by decide))),by omega,(OT.cast ot32 (by rw [hd_step (by omega)])),e10,e11,(congrArg (fun n_ => Value.slice A29 n_ c30) (show (((x.head.take i).map (fun g_ : Ag => g_.t)).length + 1) = (((x.head.take (i + 1)).map (fun g_ : Ag => g_.t))).length by rw [hd_step (by omega)]; first | (simp; done) | (simp; omega))),rfl⟩,(show x.head.length - (i + 1) < x.head.length - i by omega)⟩
  refine c_cond0 (vb (ej rfl rfl) (decide_eq_false h15)) (c_exit (e_then (e_then (e_hit (n_then (c_seq (c_seq (c_reg (s_assign (v := .int .i64 0) ev_c (w0 rfl) (c_done (n_then ?_)))))))))))
  refine c_block ?_
  refine c_loop (α := Nat × Option Addr × Nat) (fun x_ env_ w_ => match x_ with | (k,A1,c1) => KT w.heap.size 33 w w_ ∧ w_.heap[g1]? = some (.cells #[.string x.p,.slice Ah x.head.length ch,.slice Ab x.body.length cb] 53 (0,0)) ∧ k ≤ x.body.length ∧ OT 33 w.heap.size w_ A1 c1 (ruK x k) ∧ env_ 1 = .pointer (some ⟨g1,0,none⟩) ∧ env_ 2 = .slice none 0 0 ∧ env_ 3 = .slice A1 ((ruK x k).length) c1 ∧ env_ 5 = .int .i64 ((k : Nat) : Int)) (fun x_ => match x_ with | (k,A1,c1) => x.body.length - k) (0,A1,c1) ⟨x6,bk14,Nat.zero_le _,(OT.cast i9 (by rw [ruK_zero,List.take_of_length_le (by omega)])),e10,e11,(Eq.trans e12 (congrArg (fun n_ => Value.slice A1 n_ c1) (show ((x.head.take i).map (fun g_ : Ag => g_.t)).length = (ruK x 0).length by rw [ruK_zero,List.take_of_length_le (by omega)]))),rfl⟩ ?_
  rintro ⟨k,A1,c1⟩ env35 w33 ⟨x34,bk42,i36,i37,e38,e39,e40,e41⟩
  refine c_seq (c_seq (c_reg (s_move (v := .int .i64 ((k : Nat) : Int)) (ej rfl e41) (w0 rfl) (s_field (off := 2) (o' := 2) F_f53_2 (ej rfl e38) rfl (w0 rfl) (s_load (v := .slice Ab x.body.length cb) F_o40 (ej rfl rfl) (cell_of_blk (i := 2) bk42 rfl) (w0 rfl) (s_lenL F_l40 (ej rfl rfl) (w0 rfl) (s_cmp (r := decide (((k : Nat) : Int) < (x.body.length : Int))) (ej rfl rfl) (ej rfl rfl) rfl (w0 rfl) (c_done (n_then ?_)))))))))
  by_cases h43 : ((k : Nat) : Int) < (x.body.length : Int)
  · refine c_cond1 (vb (ej rfl rfl) (decide_eq_true h43)) (c_skip (n_then (c_seq (c_block (c_reg (s_move (v := .slice A1 ((ruK x k).length) c1) (ej rfl e40) (w0 rfl) (s_field (off := 2) (o' := 2) F_f53_2 (ej rfl e38) rfl (w0 rfl) (s_load (v := .slice Ab x.body.length cb) F_o40 (ej rfl rfl) (cell_of_blk (i := 2) bk42 rfl) (w0 rfl) (s_move (v := .int .i64 ((k : Nat) : Int)) (ej rfl e41) (w0 rfl) ?_)))))))))
    obtain ⟨b44,o45,x46,csx46,hA47,hx48,hR49,hc50⟩ := Row.at_ hrb k (by omega)
    obtain rfl := ltAt_of hx48
    obtain ⟨Aa51,A52,A53,ca54,c55,c56,rfl,ho57,ra58,r59,r60⟩ := hR49
    have q61_a := Lt.okc.a ho57
    have q61_e1 := Lt.okc.e1 ho57
    have q61_e2 := Lt.okc.e2 ho57
    have := Ex.okc.l q61_e1
    have := Ex.okc.l q61_e2
    have := Ex.okc.c q61_e1
    have := Ex.okc.c q61_e2
    have := At.okc.l q61_a
    have := At.okc.c q61_a
    have := At.okc.p q61_a
    refine s_indexR (j := k) F_l40 (ej rfl rfl) hA47 (ej rfl rfl) rfl (by omega) (w0 rfl) (s_loadL (cs := [.int .i8 ((ltAt x.body k).k),.string ((ltAt x.body k).a.p),.slice Aa51 ((ltAt x.body k).a.args.length) ca54,.int .i8 ((ltAt x.body k).r),.int .i8 ((ltAt x.body k).e1.op),.string ((ltAt x.body k).e1.t.v),.int .i8 ((ltAt x.body k).e1.t.l.k),.int .i64 ((ltAt x.body k).e1.t.l.n),.string ((ltAt x.body k).e1.t.l.s),.slice A52 ((ltAt x.body k).e1.kids.length) c55,.int .i8 ((ltAt x.body k).e2.op),.string ((ltAt x.body k).e2.t.v),.int .i8 ((ltAt x.body k).e2.t.l.k),.int .i64 ((ltAt x.body k).e2.t.l.n),.string ((ltAt x.body k).e2.t.l.s),.slice A53 ((ltAt x.body k).e2.kids.length) c56]) F_m38 (ej rfl rfl) rfl rfl (sub_cells (cells_ext (KT.ext0 (Ext.refl w) x34) hc50) 0 rfl) (w0 rfl) (s_call F_e148 (w0 rfl) ev_f (m2 (ej rfl rfl) (ej rfl rfl)) (args := #[.slice A1 ((ruK x k).length) c1,.agg #[.int .i8 ((ltAt x.body k).k),.string ((ltAt x.body k).a.p),.slice Aa51 ((ltAt x.body k).a.args.length) ca54,.int .i8 ((ltAt x.body k).r),.int .i8 ((ltAt x.body k).e1.op),.string ((ltAt x.body k).e1.t.v),.int .i8 ((ltAt x.body k).e1.t.l.k),.int .i64 ((ltAt x.body k).e1.t.l.n),.string ((ltAt x.body k).e1.t.l.s),.slice A52 ((ltAt x.body k).e1.kids.length) c55,.int .i8 ((ltAt x.body k).e2.op),.string ((ltAt x.body k).e2.t.v),.int .i8 ((ltAt x.body k).e2.t.l.k),.int .i64 ((ltAt x.body k).e2.t.l.n),.string ((ltAt x.body k).e2.t.l.s),.slice A53 ((ltAt x.body k).e2.kids.length) c56]]) rfl (r4_literalTerms (ruK x k) A1 c1 (ltAt x.body k) Aa51 A52 A53 ca54 c55 c56 w _ (KT.ext0 (Ext.refl w) x34) i37 ho57 ra58 r59 r60 (hbod _ _ (ltAt_there (by omega))) (by have b_ := ruK_len hbod k; omega)) ?_))
    rintro _ w64 ⟨A62,c63,rfl,ow65,k66⟩
    refine s_assign (v := .slice A62 (((ruK x k) ++ ltTs (ltAt x.body k)).length) c63) (ej rfl rfl) (w0 rfl) (c_done (n_block (n_then (c_reg (s_move (v := .int .i64 ((k : Nat) : Int)) (ej rfl e41) (w0 rfl) (s_add (r := ((k + 1 : Nat) : Int)) (ej rfl rfl) ev_c (by omega) (by omega) (w0 rfl) (s_assign (v := .int .i64 ((k + 1 : Nat) : Int)) (ej rfl rfl) (w0 rfl) (c_done ?_))))))))
    exact ⟨(k + 1,A62,c63),_,rfl,⟨(KT.trans x34 k66),(KT.blk k66 bk42 (by decide)),by omega,(OT.cast ow65 (by rw [ruK_step (by omega)])),e38,e39,(congrArg (fun n_ => Value.slice A62 n_ c63) (show ((ruK x k) ++ ltTs (ltAt x.body k)).length = (ruK x (k + 1)).length by rw [ruK_step (by omega)])),rfl⟩,(show x.body.length - (k + 1) < x.body.length - k by omega)⟩
  refine c_cond0 (vb (ej rfl rfl) (decide_eq_false h43)) (c_exit (e_then (e_then (e_hit (n_then (c_seq (c_reg (s_move (v := .slice A1 ((ruK x k).length) c1) (ej rfl e40) (w0 rfl) (s_assign (v := .slice A1 ((ruK x k).length) c1) (ej rfl rfl) (w0 rfl) (c_done (n_then ?_)))))))))))
  refine c_ret (ret1 (v := .slice A1 ((ruK x k).length) c1) rfl rfl rfl ?_)
  have e67 : (ruK x k) = ruTs x := by rw [ruK_all (by omega)]
  exact ⟨_,rfl,A1,c1,congrArg (fun l_ => Value.slice A1 (List.length l_) c1) e67,OT.cast i37 e67,x34⟩
theorem r4_vars (l : List Tm) (A : Option Addr) (c : Nat) (w : World) (hl : l.length ≤ 1000000) (hr : Row RT 4 w A l) :
    Rt Tryz.prog 136 #[.slice A l.length c] w fun v w' => ∃ A' c',v = .slice A' (colL [] l).length c' ∧ Ext w w' := by
  refine enter Tryz.func136 rfl (l := [.slice A l.length c]) rfl Tryz.ntmps136 (Nat.le_of_ble_eq_true rfl) ?_
  refine c_seq (c_reg (s_assign (v := .slice none 0 0) ev_c (w0 rfl) (c_done (n_then (c_seq (c_reg (s_assign (v := .slice none 0 0) ev_c (w0 rfl) (c_done (n_then (c_seq (c_seq ?_)))))))))))
  refine c_reg (s_assign (v := .int .i64 0) ev_c (w0 rfl) (c_done (n_then (c_block (c_loop (α := Nat × List ByteArray × Option Addr × Nat) (fun x_ env_ w_ => match x_ with | (i,S,A1,c1) => Ext w w_ ∧ i ≤ l.length ∧ S = colL [] (l.take i) ∧ OS 9 w.heap.size w_ A1 c1 S ∧ S.length ≤ i ∧ env_ 0 = .slice A l.length c ∧ env_ 2 = .slice none 0 0 ∧ env_ 3 = .slice A1 S.length c1 ∧ env_ 4 = .int .i64 ((i : Nat) : Int)) (fun x_ => match x_ with | (i,S,A1,c1) => l.length - i) (0,[],none,0) ⟨(Ext.refl w),Nat.zero_le _,(by simp [colL]),OS.nil,Nat.le_refl 0,rfl,rfl,rfl,rfl⟩ ?_)))))
  rintro ⟨i,S,A1,c1⟩ env3 w1 ⟨x2,i4,i5,i6,i7,e8,e9,e10,e11⟩
  refine c_seq (c_seq (c_reg (s_move (v := .int .i64 ((i : Nat) : Int)) (ej rfl e11) (w0 rfl) (s_move (v := .slice A l.length c) (ej rfl e8) (w0 rfl) (s_lenL F_l22 (ej rfl rfl) (w0 rfl) (s_cmp (r := decide (((i : Nat) : Int) < (l.length : Int))) (ej rfl rfl) (ej rfl rfl) rfl (w0 rfl) (c_done (n_then ?_))))))))
  by_cases h12 : ((i : Nat) : Int) < (l.length : Int)
  · refine c_cond1 (vb (ej rfl rfl) (decide_eq_true h12)) (c_skip (n_then (c_seq (c_block (c_seq (c_reg (s_move (v := .slice A l.length c) (ej rfl e8) (w0 rfl) (s_move (v := .int .i64 ((i : Nat) : Int)) (ej rfl e11) (w0 rfl) ?_))))))))
    obtain ⟨b13,o14,x15,csx15,hA16,hx17,hR18,hc19⟩ := Row.at_ hr i (by omega)
    obtain rfl := tmAt_of hx17
    obtain ⟨rfl,wf20⟩ := hR18
    refine s_indexR (j := i) F_l22 (ej rfl rfl) hA16 (ej rfl rfl) rfl (by omega) (w0 rfl) (s_field (off := 0) (o' := o14 + i * 4) F_f33_0 (ej rfl rfl) rfl (w0 rfl) (s_load (v := .string ((tmAt l i).v)) F_o9 (ej rfl rfl) ((cells_ext x2 hc19) 0 _ rfl) (w0 rfl) (s_assign (v := .string ((tmAt l i).v)) (ej rfl rfl) (w0 rfl) (c_done (n_then (c_seq (c_reg (s_move (v := .string ((tmAt l i).v)) (ej rfl rfl) (w0 rfl) (s_cmpS (r := !decide ((tmAt l i).v = (⟨#[]⟩ : ByteArray))) (ej rfl rfl) ev_c rfl (w0 rfl) ?_)))))))))
    by_cases h21 : (tmAt l i).v = (⟨#[]⟩ : ByteArray)
    · refine s_move (v := .bool false) (vb (ej rfl rfl) (nb0 h21)) (w0 rfl) (s_skip (wn rfl rfl rfl rfl rfl) (s_skip (wn rfl rfl rfl rfl rfl) (s_pick0 (v := .bool false) (ej rfl rfl) ev_c (w0 rfl) (s_move (v := .bool false) (ej rfl rfl) (w0 rfl) (s_skip (wn rfl rfl rfl rfl rfl) (s_skip (wn rfl rfl rfl rfl rfl) (s_skip (wn rfl rfl rfl rfl rfl) (s_skip (wn rfl rfl rfl rfl rfl) (s_pick0 (v := .bool false) (ej rfl rfl) ev_c (w0 rfl) (c_done (n_then ?_)))))))))))
      refine c_cond0 (ej rfl rfl) (c_skip (n_block (n_then (c_reg (s_move (v := .int .i64 ((i : Nat) : Int)) (ej rfl e11) (w0 rfl) (s_add (r := ((i + 1 : Nat) : Int)) (ej rfl rfl) ev_c (by omega) (by omega) (w0 rfl) (s_assign (v := .int .i64 ((i + 1 : Nat) : Int)) (ej rfl rfl) (w0 rfl) (c_done ?_))))))))
      exact ⟨(i + 1,S,A1,c1),_,rfl,⟨x2,by omega,(colL_skip i5 (by omega) (by exact .inl (by assumption))),i6,(by first | omega | (simp only [List.length_append,List.length_singleton]; omega)),e8,e9,e10,rfl⟩,(show l.length - (i + 1) < l.length - i by omega)⟩
    refine s_move (v := .bool true) (vb (ej rfl rfl) (nb1 h21)) (w0 rfl) (s_move (v := .string ((tmAt l i).v)) (ej rfl rfl) (wy rfl rfl rfl rfl) (s_cmpS (r := !decide ((tmAt l i).v = (⟨#[95]⟩ : ByteArray))) (ej rfl rfl) ev_c rfl (wy rfl rfl rfl rfl) (s_pick1 (v := .bool (!decide ((tmAt l i).v = (⟨#[95]⟩ : ByteArray)))) (ej rfl rfl) (ej rfl rfl) (w0 rfl) ?_)))
    by_cases h22 : (tmAt l i).v = (⟨#[95]⟩ : ByteArray)
    · refine s_move (v := .bool false) (vb (ej rfl rfl) (nb0 h22)) (w0 rfl) (s_skip (wn rfl rfl rfl rfl rfl) (s_skip (wn rfl rfl rfl rfl rfl) (s_skip (wn rfl rfl rfl rfl rfl) (s_skip (wn rfl rfl rfl rfl rfl) (s_pick0 (v := .bool false) (ej rfl rfl) ev_c (w0 rfl) (c_done (n_then (c_cond0 (ej rfl rfl) (c_skip (n_block (n_then ?_)))))))))))
      refine c_reg (s_move (v := .int .i64 ((i : Nat) : Int)) (ej rfl e11) (w0 rfl) (s_add (r := ((i + 1 : Nat) : Int)) (ej rfl rfl) ev_c (by omega) (by omega) (w0 rfl) (s_assign (v := .int .i64 ((i + 1 : Nat) : Int)) (ej rfl rfl) (w0 rfl) (c_done ?_))))
      exact ⟨(i + 1,S,A1,c1),_,rfl,⟨x2,by omega,(colL_skip i5 (by omega) (by exact .inr (.inl (by assumption)))),i6,(by first | omega | (simp only [List.length_append,List.length_singleton]; omega)),e8,e9,e10,rfl⟩,(show l.length - (i + 1) < l.length - i by omega)⟩
    refine s_move (v := .bool true) (vb (ej rfl rfl) (nb1 h22)) (w0 rfl) (s_move (v := .string ((tmAt l i).v)) (ej rfl rfl) (wy rfl rfl rfl rfl) (s_move (v := .slice A1 S.length c1) (ej rfl e10) (wy rfl rfl rfl rfl) (s_call F_e147 (wy rfl rfl rfl rfl) ev_f (m2 (ej rfl rfl) (ej rfl rfl)) (args := #[.string ((tmAt l i).v),.slice A1 S.length c1]) rfl (r4_In ((tmAt l i).v) S A1 c1 _ (by omega) (OS.row i6)) ?_)))
    rintro _ w24 ⟨rfl,x23⟩
    refine s_not (b := inL ((tmAt l i).v) S) (ej rfl rfl) (wy rfl rfl rfl rfl) (s_pick1 (v := .bool (!(inL ((tmAt l i).v) S))) (ej rfl rfl) (ej rfl rfl) (w0 rfl) (c_done (n_then ?_)))
    rcases Bool.eq_false_or_eq_true (inL ((tmAt l i).v) S) with h25 | h25
    · refine c_cond0 (vb (ej rfl rfl) (nbt h25)) (c_skip (n_block (n_then (c_reg (s_move (v := .int .i64 ((i : Nat) : Int)) (ej rfl e11) (w0 rfl) (s_add (r := ((i + 1 : Nat) : Int)) (ej rfl rfl) ev_c (by omega) (by omega) (w0 rfl) (s_assign (v := .int .i64 ((i + 1 : Nat) : Int)) (ej rfl rfl) (w0 rfl) (c_done ?_))))))))
      exact ⟨(i + 1,S,A1,c1),_,rfl,⟨(Ext.trans x2 x23),by omega,(colL_skip i5 (by omega) (by exact .inr (.inr (by assumption)))),(OS.ext i6 x23),(by first | omega | (simp only [List.length_append,List.length_singleton]; omega)),e8,e9,e10,rfl⟩,(show l.length - (i + 1) < l.length - i by omega)⟩
    refine c_cond1 (vb (ej rfl rfl) (nbf h25)) (c_reg (s_move (v := .slice A1 S.length c1) (ej rfl e10) (w0 rfl) (s_move (v := .string ((tmAt l i).v)) (ej rfl rfl) (w0 rfl) (s_bslice (vs := [(0,.string ((tmAt l i).v))]) (cs := #[.string ((tmAt l i).v)]) (b1 (ej rfl rfl)) (bs106_1_0s ((tmAt l i).v)) (w0 rfl) ?_))))
    intro w27 g26 n28
    refine s_append (m := 1) (k := 1) (news := [.string ((tmAt l i).v)]) F_ul106 F_if9 rfl (by decide) (ej rfl rfl) (OS.own (OS.ext (OS.ext i6 x23) (NewB.ext n28))) (ej rfl rfl) rfl (by have z_ := blk_cells (NewB.blk n28) 0 (cs := [.string ((tmAt l i).v)]) rfl; exact z_) rfl (by omega) (by omega) (Keep.size (Ext.trans (Ext.trans x2 x23) (NewB.ext n28))) (w0 rfl) ?_
    intro A31 c32 w29 ow33 k30
    have ot34 := OS.snoc ow33
    refine s_assign (v := .slice A31 (S.length + 1) c32) (ej rfl rfl) (w0 rfl) (c_done (n_block (n_then (c_reg (s_move (v := .int .i64 ((i : Nat) : Int)) (ej rfl e11) (w0 rfl) (s_add (r := ((i + 1 : Nat) : Int)) (ej rfl rfl) ev_c (by omega) (by omega) (w0 rfl) (s_assign (v := .int .i64 ((i + 1 : Nat) : Int)) (ej rfl rfl) (w0 rfl) (c_done ?_))))))))
    exact ⟨(i + 1,(S ++ [(tmAt l i).v]),A31,c32),_,rfl,⟨(Keep.then_ (Ext.trans (Ext.trans x2 x23) (NewB.ext n28)) k30 (fun i_ hi_ h_ => by have a_ := own_ge (OS.own (OS.ext (OS.ext i6 x23) (NewB.ext n28))) i_ h_; omega)),by omega,(colL_new i5 (by omega) (fun h_ => h_.elim (fun h_ => absurd h_ (by assumption)) (fun h_ => h_.elim (fun h_ => absurd h_ (by assumption)) (fun h_ => Bool.noConfusion (h_.symm.trans (show inL (tmAt l i).v S = false by assumption)))))),ot34,(by (simp only [List.length_append,List.length_singleton]; omega)),e8,e9,(congrArg (fun n_ => Value.slice A31 n_ c32) (show (S.length + 1) = (S ++ [(tmAt l i).v]).length by simp)),rfl⟩,(show l.length - (i + 1) < l.length - i by omega)⟩
  refine c_cond0 (vb (ej rfl rfl) (decide_eq_false h12)) (c_exit (e_then (e_then (e_hit (n_then (c_seq (c_reg (s_move (v := .slice A1 S.length c1) (ej rfl e10) (w0 rfl) (s_assign (v := .slice A1 S.length c1) (ej rfl rfl) (w0 rfl) (c_done (n_then ?_)))))))))))
  refine c_ret (ret1 (v := .slice A1 S.length c1) rfl rfl rfl ?_)
  exact ⟨_,rfl,A1,c1,(by rw [i5,List.take_of_length_le (by omega)]),x2⟩
theorem r4_RuleVars (x : Ru) (Ah Ab : Option Addr) (ch cb : Nat) (w : World) (ho : x.okc ch cb) (hrh : Row RG 5 w Ah x.head) (hrb : Row RL 16 w Ab x.body) (h24 : x.head.length ≤ 24) (h16 : x.body.length ≤ 16) (hbod : ∀ (j : Nat) (y : Lt),x.body[j]? = some y → ltB y = true) :
    Rt Tryz.prog 118 #[.agg #[.string x.p,.slice Ah x.head.length ch,.slice Ab x.body.length cb]] w fun v w' => ∃ A' c',v = .slice A' (rvL x).length c' ∧ Ext w w' := by
  refine enter Tryz.func118 rfl (l := [.agg #[.string x.p,.slice Ah x.head.length ch,.slice Ab x.body.length cb]]) rfl Tryz.ntmps118 (Nat.le_of_ble_eq_true rfl) ?_
  have hpr_ := Ru.okc.p ho
  have hhl_ := Ru.okc.hl ho
  have hhc_ := Ru.okc.hc ho
  have hbl_ := Ru.okc.bl ho
  have hbc_ := Ru.okc.bc ho
  refine c_seq (c_reg (s_box (v := .agg #[.string x.p,.slice Ah x.head.length ch,.slice Ab x.body.length cb]) (cs := #[.string x.p,.slice Ah x.head.length ch,.slice Ab x.body.length cb]) (w0 rfl) (ej rfl rfl) rfl ?_))
  intro w2 g1 n3
  refine s_assign (v := .slice none 0 0) ev_c (w0 rfl) (c_done (n_then (c_seq (c_reg (s_loadL (cs := [.string x.p,.slice Ah x.head.length ch,.slice Ab x.body.length cb]) F_m53 (ej rfl rfl) rfl rfl (blk_cells (NewB.blk n3) 0 rfl) (w0 rfl) (s_call F_e137 (w0 rfl) ev_f (m1 (ej rfl rfl)) (args := #[.agg #[.string x.p,.slice Ah x.head.length ch,.slice Ab x.body.length cb]]) rfl (r4_ruleTerms x Ah Ab ch cb _ ho (Row.extG hrh (NewB.ext n3)) (Row.extL hrb (NewB.ext n3)) h24 h16 hbod) ?_))))))
  rintro _ w6 ⟨A4,c5,rfl,ow7,k8⟩
  refine s_call F_e136 (w0 rfl) ev_f (m1 (ej rfl rfl)) (args := #[.slice A4 ((ruTs x).length) c5]) rfl (r4_vars (ruTs x) A4 c5 _ (by have b_ := ruTs_len h24 h16 hbod; omega) (OT.row ow7 (ruTs_wf hrh hrb))) ?_
  rintro _ w11 ⟨A9,c10,rfl,x12⟩
  refine s_assign (v := .slice A9 ((colL [] (ruTs x)).length) c10) (ej rfl rfl) (w0 rfl) (c_done (n_then (c_ret (ret1 (v := .slice A9 ((colL [] (ruTs x)).length) c10) rfl rfl rfl ?_))))
  exact ⟨_,rfl,A9,c10,rfl,(Ext.trans (Ext.trans (NewB.ext n3) (KT.ext0 (Ext.refl _) k8)) x12)⟩
end Go.Proofs.Zw

set_option linter.unusedVariables false
set_option linter.unusedSimpArgs false
set_option maxRecDepth 10000
namespace Go.Proofs.Zw
open Go Go.Wk Go.Proofs Go.Lib
attribute [local irreducible] Go.wpList Go.wpStill Go.wpQuiet Go.Code.wp Go.Calls
theorem F_o106 : one Tryz.prog 106 = true := by kernel_rfl
theorem F_o169 : one Tryz.prog 169 = true := by kernel_rfl
theorem F_sz106 : (Tryz.prog.info? 106).map (·.size) = some 1 := by kernel_rfl
theorem mapOf : MapOf Tryz.prog 169 9 3 := ⟨by kernel_rfl,by kernel_rfl,by kernel_rfl,by kernel_rfl⟩
theorem t_vars1 (y : Tm) (b o gm gl : Nat) (S : List ByteArray) (wz : World) (w : World) (htm : ∀ (i : Nat) (u : Value),([.string y.v,.int .i8 y.l.k,.int .i64 y.l.n,.string y.l.s] : List Value)[i]? = some u → wz.cell? ⟨b,o + i,none⟩ = some u) (hy : y.wf) (hv : VS Tryz.prog 106 169 9 3 wz w gm gl S) (hS : S.length ≤ 100000) :
    Rt Tryz.prog 139 #[.pointer (some ⟨b,o,none⟩),.pointer (some ⟨gm,0,none⟩),.pointer (some ⟨gl,0,none⟩)] w fun v w' => v = .tuple #[] ∧ VS Tryz.prog 106 169 9 3 wz w' gm gl (colT S y.v) := by
  refine enter Tryz.func139 rfl (l := [.pointer (some ⟨b,o,none⟩),.pointer (some ⟨gm,0,none⟩),.pointer (some ⟨gl,0,none⟩)]) rfl Tryz.ntmps139 (Nat.le_of_ble_eq_true rfl) ?_
  have x0 := VS.ext hv
  obtain ⟨Aq,cq,mb,hgl_,hgm_,hos_,hmp_,hmb_⟩ := VS.st hv
  have hgl0_ := VS.gl0 hv
  have hgm0_ := VS.gm0 hv
  obtain ⟨q,hq_,hqr_,hlk_⟩ := omap_look mapOf hmp_ hy.v
  have hsz_ := Keep.size x0
  refine c_seq (c_seq (c_quiet mixed (by kernel_rfl) (q_val (v := .pointer (some ⟨b,o,none⟩)) (w0 rfl) (fun w_ c_ => r_move (v := .pointer (some ⟨b,o,none⟩)) (ej rfl rfl)) (q_val (v := .pointer (some ⟨b,o,none⟩)) (w0 rfl) (fun w_ c_ => r_nilCheck (ej rfl rfl)) (q_val (v := .pointer (some ⟨b,o,none⟩)) (w0 rfl) (fun w_ c_ => r_field (off := 0) (o' := o) F_f33_0 (ej rfl rfl) rfl) (q_val (v := .string y.v) (w0 rfl) (fun w_ c_ => r_load (v := .string y.v) F_o9 (ej rfl rfl) ((cells_ext c_ (cells_ext x0 htm)) 0 _ rfl)) (q_val (v := .bool (decide (y.v = (⟨#[]⟩ : ByteArray)))) (w0 rfl) (fun w_ c_ => r_cmpS (r := decide (y.v = (⟨#[]⟩ : ByteArray))) (ej rfl rfl) ev_c rfl) ?_)))))))
  by_cases h1 : y.v = (⟨#[]⟩ : ByteArray)
  · refine q_val (v := .bool true) (w0 rfl) (fun w_ c_ => r_move (v := .bool true) (vb (ej rfl rfl) (decide_eq_true h1))) (q_skip (wn rfl rfl rfl rfl rfl) (q_skip (wn rfl rfl rfl rfl rfl) (q_skip (wn rfl rfl rfl rfl rfl) (q_skip (wn rfl rfl rfl rfl rfl) (q_skip (wn rfl rfl rfl rfl rfl) (q_val (v := .bool true) (w0 rfl) (fun w_ c_ => r_pick1 (v := .bool true) (ej rfl rfl) ev_c) (q_val (v := .bool true) (w0 rfl) (fun w_ c_ => r_move (v := .bool true) (ej rfl rfl)) (q_skip (wn rfl rfl rfl rfl rfl) (q_skip (wn rfl rfl rfl rfl rfl) (q_skip (wn rfl rfl rfl rfl rfl) (q_skip (wn rfl rfl rfl rfl rfl) ?_)))))))))))
    refine q_skip (wn rfl rfl rfl rfl rfl) (q_skip (wn rfl rfl rfl rfl rfl) (q_skip (wn rfl rfl rfl rfl rfl) (q_val (v := .bool true) (w0 rfl) (fun w_ c_ => r_pick1 (v := .bool true) (ej rfl rfl) ev_c) (q_done ?_))))
    intro w2 x3
    refine n_then (c_cond1 (ej rfl rfl) (c_ret (r_then (ret0r rfl ?_))))
    exact ⟨_,rfl,rfl,VS.cast (VS.to hv x3) (by unfold colT; rw [if_pos (by first | exact .inl (by assumption) | exact .inr (.inl (by assumption)) | exact .inr (.inr (hq_.1 (by assumption))))])⟩
  refine q_val (v := .bool false) (w0 rfl) (fun w_ c_ => r_move (v := .bool false) (vb (ej rfl rfl) (decide_eq_false h1))) (q_val (v := .pointer (some ⟨b,o,none⟩)) (wy rfl rfl rfl rfl) (fun w_ c_ => r_move (v := .pointer (some ⟨b,o,none⟩)) (ej rfl rfl)) (q_val (v := .pointer (some ⟨b,o,none⟩)) (wy rfl rfl rfl rfl) (fun w_ c_ => r_nilCheck (ej rfl rfl)) (q_val (v := .pointer (some ⟨b,o,none⟩)) (wy rfl rfl rfl rfl) (fun w_ c_ => r_field (off := 0) (o' := o) F_f33_0 (ej rfl rfl) rfl) (q_val (v := .string y.v) (wy rfl rfl rfl rfl) (fun w_ c_ => r_load (v := .string y.v) F_o9 (ej rfl rfl) ((cells_ext c_ (cells_ext x0 htm)) 0 _ rfl)) (q_val (v := .bool (decide (y.v = (⟨#[95]⟩ : ByteArray)))) (wy rfl rfl rfl rfl) (fun w_ c_ => r_cmpS (r := decide (y.v = (⟨#[95]⟩ : ByteArray))) (ej rfl rfl) ev_c rfl) (q_val (v := .bool (decide (y.v = (⟨#[95]⟩ : ByteArray)))) (w0 rfl) (fun w_ c_ => r_pick0 (v := .bool (decide (y.v = (⟨#[95]⟩ : ByteArray)))) (ej rfl rfl) (ej rfl rfl)) ?_))))))
  by_cases h4 : y.v = (⟨#[95]⟩ : ByteArray)
  · refine q_val (v := .bool true) (w0 rfl) (fun w_ c_ => r_move (v := .bool true) (vb (ej rfl rfl) (decide_eq_true h4))) (q_skip (wn rfl rfl rfl rfl rfl) (q_skip (wn rfl rfl rfl rfl rfl) (q_skip (wn rfl rfl rfl rfl rfl) (q_skip (wn rfl rfl rfl rfl rfl) (q_skip (wn rfl rfl rfl rfl rfl) (q_skip (wn rfl rfl rfl rfl rfl) (q_skip (wn rfl rfl rfl rfl rfl) (q_val (v := .bool true) (w0 rfl) (fun w_ c_ => r_pick1 (v := .bool true) (ej rfl rfl) ev_c) (q_done ?_)))))))))
    intro w5 x6
    refine n_then (c_cond1 (ej rfl rfl) (c_ret (r_then (ret0r rfl ?_))))
    exact ⟨_,rfl,rfl,VS.cast (VS.to hv x6) (by unfold colT; rw [if_pos (by first | exact .inl (by assumption) | exact .inr (.inl (by assumption)) | exact .inr (.inr (hq_.1 (by assumption))))])⟩
  refine q_val (v := .bool false) (w0 rfl) (fun w_ c_ => r_move (v := .bool false) (vb (ej rfl rfl) (decide_eq_false h4))) (q_val (v := .map (some mb)) (wy rfl rfl rfl rfl) (fun w_ c_ => r_load (v := .map (some mb)) F_o169 (ej rfl rfl) (cell_of_blk (i := 0) (Ext.blk c_ hgm_) rfl)) (q_val (v := .pointer (some ⟨b,o,none⟩)) (wy rfl rfl rfl rfl) (fun w_ c_ => r_move (v := .pointer (some ⟨b,o,none⟩)) (ej rfl rfl)) (q_val (v := .pointer (some ⟨b,o,none⟩)) (wy rfl rfl rfl rfl) (fun w_ c_ => r_nilCheck (ej rfl rfl)) (q_val (v := .pointer (some ⟨b,o,none⟩)) (wy rfl rfl rfl rfl) (fun w_ c_ => r_field (off := 0) (o' := o) F_f33_0 (ej rfl rfl) rfl) (q_val (v := .string y.v) (wy rfl rfl rfl rfl) (fun w_ c_ => r_load (v := .string y.v) F_o9 (ej rfl rfl) ((cells_ext c_ (cells_ext x0 htm)) 0 _ rfl)) (q_val (v := .int .i64 q) (wy rfl rfl rfl rfl) (fun w_ c_ => r_lookup (v := .int .i64 q) (ej rfl rfl) (ej rfl rfl) (hlk_ _ c_)) (q_val (v := .bool (decide (0 < q))) (wy rfl rfl rfl rfl) (fun w_ c_ => r_cmp (r := decide (0 < q)) (ej rfl rfl) ev_c rfl) (q_val (v := .bool (decide (0 < q))) (w0 rfl) (fun w_ c_ => r_pick0 (v := .bool (decide (0 < q))) (ej rfl rfl) (ej rfl rfl)) (q_done ?_)))))))))
  intro w7 x8
  refine n_then ?_
  by_cases h9 : 0 < q
  · refine c_cond1 (vb (ej rfl rfl) (decide_eq_true h9)) (c_ret (r_then (ret0r rfl ?_)))
    exact ⟨_,rfl,rfl,VS.cast (VS.to hv x8) (by unfold colT; rw [if_pos (by first | exact .inl (by assumption) | exact .inr (.inl (by assumption)) | exact .inr (.inr (hq_.1 (by assumption))))])⟩
  refine c_cond0 (vb (ej rfl rfl) (decide_eq_false h9)) (c_skip (n_then (c_seq ?_)))
  refine c_trace (fun k v wb wa => match k with | 0 => v = .slice Aq S.length cq | 1 => v = .pointer (some ⟨b,o,none⟩) | 2 => v = .pointer (some ⟨b,o,none⟩) | 3 => v = .pointer (some ⟨b,o,none⟩) | 4 => v = .string y.v | 5 => ∃ g_,v = .slice (some ⟨g_,0,none⟩) 1 1 ∧ NewB wb g_ (.cells #[.string y.v] 9 (0,0)) wa | _ => True) (fun k => [25,26,27,28,29,30].getD k 999) (fun k => [[],[],[1],[2],[3],[4]].getD k []) 6 mixed (by kernel_rfl) (by decide) ?_ ?_
  · intro wd xd k_ hk_ env_ B_ A_ w_ hx_
    have hkm : k_ = 0 ∨ k_ = 1 ∨ k_ = 2 ∨ k_ = 3 ∨ k_ = 4 ∨ k_ = 5 := by omega
    rcases hkm with rfl | rfl | rfl | rfl | rfl | rfl
    · refine ⟨_,rfl,?_⟩
      refine s_load (v := .slice Aq S.length cq) F_o106 (ej rfl ((Tr.env hx_ 2 (by decide)).trans rfl)) (cell_of_blk (i := 0) (Ext.blk (Tr.ext hx_) (Ext.blk xd (Ext.blk x8 hgl_))) rfl) (w0 rfl) ?_
      exact tl_done ⟨_,rfl,rfl,Ext.refl _⟩
    · refine ⟨_,rfl,?_⟩
      refine s_move (v := .pointer (some ⟨b,o,none⟩)) (ej rfl ((Tr.env hx_ 0 (by decide)).trans rfl)) (w0 rfl) ?_
      exact tl_done ⟨_,rfl,rfl,Ext.refl _⟩
    · refine ⟨_,rfl,?_⟩
      refine s_nilCheck (ej rfl (Tr.g hx_ 1 (by decide))) (w0 rfl) ?_
      exact tl_done ⟨_,rfl,rfl,Ext.refl _⟩
    · refine ⟨_,rfl,?_⟩
      refine s_field (off := 0) (o' := o) F_f33_0 (ej rfl (Tr.g hx_ 2 (by decide))) rfl (w0 rfl) ?_
      exact tl_done ⟨_,rfl,rfl,Ext.refl _⟩
    · refine ⟨_,rfl,?_⟩
      refine s_load (v := .string y.v) F_o9 (ej rfl (Tr.g hx_ 3 (by decide))) ((cells_ext (Tr.ext hx_) (cells_ext xd (cells_ext x8 (cells_ext x0 htm)))) 0 _ rfl) (w0 rfl) ?_
      exact tl_done ⟨_,rfl,rfl,Ext.refl _⟩
    refine ⟨_,rfl,?_⟩
    refine s_bslice (vs := [(0,.string y.v)]) (cs := #[.string y.v]) (b1 (ej rfl (Tr.g hx_ 4 (by decide)))) (bs106_1_0s y.v) (w0 rfl) ?_
    intro w11 g10 n12
    exact tl_done ⟨_,rfl,⟨g10,rfl,n12⟩,(NewB.ext n12)⟩
  intro wd xd env_ B_ A_ w_ hx_
  obtain ⟨g10,e13,n14⟩ := Tr.g hx_ 5 (by decide)
  replace e13 : env_ 30 = _ := e13
  refine tl_cons ?_
  refine s_append (m := 1) (k := 1) (news := [.string y.v]) F_ul106 F_if9 rfl (by decide) (ej rfl (Tr.g hx_ 0 (by decide))) (OS.own (OS.ext (OS.ext (OS.ext hos_ x8) xd) (Tr.ext hx_))) (ej rfl e13) rfl (by have z_ := blk_cells (Ext.blk (Tr.x2 hx_ 5 (by decide)) (NewB.blk n14)) 0 (cs := [.string y.v]) rfl; exact z_) rfl (by omega) (by omega) (Keep.size (Ext.trans (Ext.trans (Ext.trans x0 x8) xd) (Tr.ext hx_))) (w0 rfl) ?_
  intro A17 c18 w15 ow19 k16
  have ot20 := OS.snoc ow19
  refine tl_done ⟨trivial,?_⟩
  refine tl_cons ?_
  refine s_store (cs' := #[.slice A17 (S.length + 1) c18]) F_sz106 (ej rfl ((Tr.env hx_ 2 (by decide)).trans rfl)) (ej rfl rfl) (l := [.slice A17 (S.length + 1) c18]) rfl rfl rfl (Keep.blk k16 (Ext.blk (Tr.ext hx_) (Ext.blk xd (Ext.blk x8 hgl_))) (own_ne (OS.own (OS.ext (OS.ext (OS.ext hos_ x8) xd) (Tr.ext hx_))) (Ext.blk (Tr.ext hx_) (Ext.blk xd (Ext.blk x8 hgl_))) (by first | decide | assumption))) (Nat.le_of_ble_eq_true rfl) rfl (w0 rfl) ?_
  intro w21 k22
  refine tl_done ⟨trivial,?_⟩
  refine tl_nil ?_
  refine n_then (c_tail 7 mixed (by kernel_rfl) rfl rfl ?_)
  intro w23 x24
  refine t_val (v := .map (some mb)) (w0 rfl) (r_load (v := .map (some mb)) F_o169 (ej rfl ((Tr.env hx_ 1 (by decide)).trans rfl)) (cell_of_blk (i := 0) (Ext.blk x24 (Keep.blk (Wrote.keep k22) (Keep.blk k16 (Ext.blk (Tr.ext hx_) (Ext.blk xd (Ext.blk x8 hgm_))) (own_ne (OS.own (OS.ext (OS.ext (OS.ext hos_ x8) xd) (Tr.ext hx_))) (Ext.blk (Tr.ext hx_) (Ext.blk xd (Ext.blk x8 hgm_))) (by first | decide | assumption))) (ne_blk hgm_ hgl_ (by decide)))) rfl)) (t_val (v := .pointer (some ⟨b,o,none⟩)) (w0 rfl) (r_move (v := .pointer (some ⟨b,o,none⟩)) (ej rfl ((Tr.env hx_ 0 (by decide)).trans rfl))) (t_val (v := .pointer (some ⟨b,o,none⟩)) (w0 rfl) (r_nilCheck (ej rfl rfl)) (t_val (v := .pointer (some ⟨b,o,none⟩)) (w0 rfl) (r_field (off := 0) (o' := o) F_f33_0 (ej rfl rfl) rfl) (t_val (v := .string y.v) (w0 rfl) (r_load (v := .string y.v) F_o9 (ej rfl rfl) ((cells_ext (Ext.trans (Keep.then_ (Keep.then_ (Ext.trans (Ext.trans (Ext.trans x0 x8) xd) (Tr.ext hx_)) k16 (fun i_ hi_ h_ => by have a_ := own_ge (OS.own (OS.ext (OS.ext (OS.ext hos_ x8) xd) (Tr.ext hx_))) i_ h_; omega)) (Wrote.keep k22) (fun i_ hi_ h_ => by have a_ := hgl0_; omega)) x24) htm) 0 _ rfl)) (t_val (v := .slice A17 (S.length + 1) c18) (w0 rfl) (r_load (v := .slice A17 (S.length + 1) c18) F_o106 (ej rfl ((Tr.env hx_ 2 (by decide)).trans rfl)) (cell_of_blk (i := 0) (Ext.blk x24 (Wrote.blk k22)) rfl)) (t_val (v := .int .i64 (((S.length + 1) : Nat) : Int)) (w0 rfl) (r_lenL F_l106 (ej rfl rfl)) (t_done ?_)))))))
  have hGL_ := Ext.blk (Ext.trans (Ext.trans x8 xd) (Tr.ext hx_)) hgl_
  have hGM_ := Ext.blk (Ext.trans (Ext.trans x8 xd) (Tr.ext hx_)) hgm_
  have hOS_ := own_ext (Ext.trans (Ext.trans x8 xd) (Tr.ext hx_)) hos_
  have m0_ := omap_keep hmp_ (Ext.trans (Ext.trans x8 xd) (Tr.ext hx_)) (fun h_ => h_)
  have m1_ := omap_keep m0_ k16 (omap_own m0_ hOS_)
  have hGL1_ := Keep.blk k16 hGL_ (own_ne hOS_ hGL_ (by decide))
  have m2_ := omap_keep m1_ (Wrote.keep k22) (fun e_ => omap_cells m1_ (e_ ▸ hGL1_))
  refine s_mapUpdate mapOf (S := S) (n0 := S.length) (s := y.v) (q := ((S.length + 1 : Nat) : Int)) (ej rfl rfl) (ej rfl rfl) (ej rfl rfl) (omap_keep m2_ x24 (fun h_ => h_)) (by omega) hy.v (by omega) ?_
  intro w25 hm26 k27
  refine c_done (ret0 rfl ?_)
  exact ⟨_,rfl,rfl,VS.cast (VS.next (Ext.trans (Ext.trans (Ext.trans x0 x8) xd) (Tr.ext hx_)) hgl0_ hgm0_ hmb_ (by decide) (by decide) (by decide) hGL_ hGM_ hOS_ k16 ow19 k22 (Keep.then_ (Keep.mono x24 (fun _ _ h_ => h_.elim)) k27 (fun _ _ h_ => h_)) m2_ hm26) (by unfold colT; rw [if_neg (fun h_ => h_.elim (fun h_ => absurd h_ (by assumption)) (fun h_ => h_.elim (fun h_ => absurd h_ (by assumption)) (fun h_ => absurd (hq_.2 h_) (by assumption))))])⟩
end Go.Proofs.Zw

set_option linter.unusedVariables false
set_option linter.unusedSimpArgs false
set_option maxRecDepth 10000
namespace Go.Proofs.Zw
open Go Go.Wk Go.Proofs Go.Lib
attribute [local irreducible] Go.wpList Go.wpStill Go.wpQuiet Go.Code.wp Go.Calls
theorem F_e138 : enterable Tryz.prog 138 = true := by kernel_rfl
theorem F_e139 : enterable Tryz.prog 139 = true := by kernel_rfl
theorem F_pt160 : ptrT Tryz.prog 160 = true := by kernel_rfl
theorem F_pt183 : ptrT Tryz.prog 183 = true := by kernel_rfl
theorem F_pt184 : ptrT Tryz.prog 184 = true := by kernel_rfl
theorem F_pt185 : ptrT Tryz.prog 185 = true := by kernel_rfl
theorem t_walkA (x : At) (A : Option Addr) (c : Nat) (b o gm gl : Nat) (S : List ByteArray) (wz : World) (w : World) (hcell : ∀ (i : Nat) (u : Value),([.string x.p,.slice A x.args.length c] : List Value)[i]? = some u → wz.cell? ⟨b,o + i,none⟩ = some u) (ho : x.okc c) (hr : Row RT 4 wz A x.args) (hn : S.length + x.args.length ≤ 100000) (hv : VS Tryz.prog 106 169 9 3 wz w gm gl S) :
    Rt Tryz.prog 138 #[.iface 184 (.pointer (some ⟨b,o,none⟩)),.func (.func 139) #[] #[.pointer (some ⟨gm,0,none⟩),.pointer (some ⟨gl,0,none⟩)]] w fun v w' => v = .tuple #[] ∧ VS Tryz.prog 106 169 9 3 wz w' gm gl (colL S x.args) := by
  refine enter Tryz.func138 rfl (l := [.iface 184 (.pointer (some ⟨b,o,none⟩)),.func (.func 139) #[] #[.pointer (some ⟨gm,0,none⟩),.pointer (some ⟨gl,0,none⟩)]]) rfl Tryz.ntmps138 (Nat.le_of_ble_eq_true rfl) ?_
  have x0 := VS.ext hv
  have hl_ := At.okc.l ho
  have hc_ := At.okc.c ho
  have hp_ := At.okc.p ho
  refine c_seq (c_reg (s_move (v := .iface 184 (.pointer (some ⟨b,o,none⟩))) (ej rfl rfl) (w0 rfl) (c_done (n_then (c_block (c_seq (c_reg (s_isnt F_pt160 (ej rfl rfl) (by decide) (w0 rfl) (s_extract (v := .bool false) (ej rfl rfl) rfl (w0 rfl) (s_extract (v := .pointer none) (ej rfl rfl) rfl (w0 rfl) (c_done ?_)))))))))))
  refine n_then (c_cond0 (ej rfl rfl) (c_seq (c_reg (s_isnt F_pt183 (ej rfl rfl) (by decide) (w0 rfl) (s_extract (v := .bool false) (ej rfl rfl) rfl (w0 rfl) (s_extract (v := .pointer none) (ej rfl rfl) rfl (w0 rfl) (c_done (n_then (c_cond0 (ej rfl rfl) (c_seq (c_reg ?_)))))))))))
  refine s_isnt F_pt185 (ej rfl rfl) (by decide) (w0 rfl) (s_extract (v := .bool false) (ej rfl rfl) rfl (w0 rfl) (s_extract (v := .pointer none) (ej rfl rfl) rfl (w0 rfl) (c_done (n_then (c_cond0 (ej rfl rfl) (c_seq (c_reg (s_is F_pt184 (ej rfl rfl) (w0 rfl) (s_extract (v := .bool true) (ej rfl rfl) rfl (w0 rfl) (s_extract (v := .pointer (some ⟨b,o,none⟩)) (ej rfl rfl) rfl (w0 rfl) (c_done ?_)))))))))))
  refine n_then (c_cond1 (ej rfl rfl) (c_seq (c_reg (s_assign (v := .pointer (some ⟨b,o,none⟩)) (ej rfl rfl) (w0 rfl) (c_done (n_then (c_seq (c_reg (s_move (v := .pointer (some ⟨b,o,none⟩)) (ej rfl rfl) (w0 rfl) (s_nilCheck (ej rfl rfl) (w0 rfl) (s_field (off := 1) (o' := o + 1) F_f24_1 (ej rfl rfl) rfl (w0 rfl) ?_)))))))))))
  refine s_load (v := .slice A x.args.length c) F_o22 (ej rfl rfl) ((cells_ext x0 hcell) 1 _ rfl) (w0 rfl) (s_lenL F_l22 (ej rfl rfl) (w0 rfl) (s_move (v := .int .i64 0) ev_c (w0 rfl) (c_done (n_then (c_block (c_loop (α := Nat) (fun (i : Nat) env_ w_ => VS Tryz.prog 106 169 9 3 wz w_ gm gl (colL S (x.args.take i)) ∧ i ≤ x.args.length ∧ env_ 1 = .func (.func 139) #[] #[.pointer (some ⟨gm,0,none⟩),.pointer (some ⟨gl,0,none⟩)] ∧ env_ 10 = .pointer (some ⟨b,o,none⟩) ∧ env_ 106 = .int .i64 (x.args.length : Int) ∧ env_ 107 = .int .i64 ((i : Nat) : Int)) (fun i => x.args.length - i) (0) ⟨(VS.cast hv (congrArg (colL S) (show [] = (x.args.take 0) by simp))),Nat.zero_le _,rfl,rfl,rfl,rfl⟩ ?_))))))
  rintro i env3 w1 ⟨x2,i4,e5,e6,e7,e8⟩
  refine c_seq (c_reg (s_cmp (r := decide (((i : Nat) : Int) < (x.args.length : Int))) (ej rfl e8) (ej rfl e7) rfl (w0 rfl) (c_done (n_then (c_seq ?_)))))
  by_cases h9 : ((i : Nat) : Int) < (x.args.length : Int)
  · refine c_cond1 (vb (ej rfl rfl) (decide_eq_true h9)) (c_skip (n_then (c_seq (c_block (c_seq (c_reg (s_move (v := .int .i64 ((i : Nat) : Int)) (ej rfl e8) (w0 rfl) (s_assign (v := .int .i64 ((i : Nat) : Int)) (ej rfl rfl) (w0 rfl) (c_done (n_then (c_reg ?_)))))))))))
    refine s_move (v := .func (.func 139) #[] #[.pointer (some ⟨gm,0,none⟩),.pointer (some ⟨gl,0,none⟩)]) (ej rfl e5) (w0 rfl) (s_move (v := .pointer (some ⟨b,o,none⟩)) (ej rfl e6) (w0 rfl) (s_nilCheck (ej rfl rfl) (w0 rfl) (s_field (off := 1) (o' := o + 1) F_f24_1 (ej rfl rfl) rfl (w0 rfl) (s_load (v := .slice A x.args.length c) F_o22 (ej rfl rfl) ((cells_ext (VS.ext x2) hcell) 1 _ rfl) (w0 rfl) (s_move (v := .int .i64 ((i : Nat) : Int)) (ej rfl rfl) (w0 rfl) ?_)))))
    obtain ⟨b10,o11,x12,csx12,hA13,hx14,hR15,hc16⟩ := Row.at_ hr i (by omega)
    obtain rfl := tmAt_of hx14
    obtain ⟨rfl,wf17⟩ := hR15
    refine s_indexR (j := i) F_l22 (ej rfl rfl) hA13 (ej rfl rfl) rfl (by omega) (w0 rfl) (s_call F_e139 (w0 rfl) (ej rfl rfl) (m1 (ej rfl rfl)) (args := #[.pointer (some ⟨b10,o11 + i * 4,none⟩),.pointer (some ⟨gm,0,none⟩),.pointer (some ⟨gl,0,none⟩)]) rfl (t_vars1 (tmAt x.args i) b10 (o11 + i * 4) gm gl (colL S (x.args.take i)) wz _ (sub_cells hc16 0 (cs2 := [.string ((tmAt x.args i).v),.int .i8 ((tmAt x.args i).l.k),.int .i64 ((tmAt x.args i).l.n),.string ((tmAt x.args i).l.s)]) rfl) wf17 x2 (by have b_ := colL_len S (x.args.take i); simp only [List.length_append,List.length_take,List.length_map,List.length_nil,List.length_cons] at b_; omega)) ?_)
    rintro _ w18 ⟨rfl,hv19⟩
    have hv20 : VS Tryz.prog 106 169 9 3 wz w18 gm gl (colL S ((x.args.take i) ++ [(tmAt x.args i)])) := VS.cast hv19 (colL_app S (x.args.take i) [(tmAt x.args i)]).symm
    refine c_done (n_block (n_then (c_reg (s_add (r := ((i + 1 : Nat) : Int)) (ej rfl e8) ev_c (by omega) (by omega) (w0 rfl) (s_move (v := .int .i64 ((i + 1 : Nat) : Int)) (ej rfl rfl) (w0 rfl) (c_done ?_))))))
    exact ⟨(i + 1),_,rfl,⟨(VS.cast hv20 (congrArg (colL S) (show ((x.args.take i) ++ [(tmAt x.args i)]) = (x.args.take (i + 1)) by exact tkA (by omega)))),by omega,e5,e6,e7,rfl⟩,(show x.args.length - (i + 1) < x.args.length - i by omega)⟩
  refine c_cond0 (vb (ej rfl rfl) (decide_eq_false h9)) (c_exit (e_then (e_then (e_hit (n_block (ret0 rfl ?_))))))
  exact ⟨_,rfl,rfl,VS.cast x2 (congrArg (colL S) (show (x.args.take i) = x.args by exact List.take_of_length_le (by omega)))⟩
theorem t_walkE_step (d : Nat) (x : Ex) (A : Option Addr) (c : Nat) (b o gm gl : Nat) (S : List ByteArray) (wz : World) (w : World) (hcell : ∀ (i : Nat) (u : Value),([.int .i8 x.op,.string x.t.v,.int .i8 x.t.l.k,.int .i64 x.t.l.n,.string x.t.l.s,.slice A x.kids.length c] : List Value)[i]? = some u → wz.cell? ⟨b,o + i,none⟩ = some u) (ho : x.okc c) (hr : Row RE 6 wz A x.kids) (hsm : smE d x) (hn : S.length + 2 ^ d ≤ 100000) (ih : ∀ (j : Nat) (y : Ex),x.kids[j]? = some y → ∀ (A : Option Addr) (c : Nat) (b o : Nat) (S : List ByteArray) (w : World),(∀ (i : Nat) (u : Value),([.int .i8 y.op,.string y.t.v,.int .i8 y.t.l.k,.int .i64 y.t.l.n,.string y.t.l.s,.slice A y.kids.length c] : List Value)[i]? = some u → wz.cell? ⟨b,o + i,none⟩ = some u) → y.okc c → Row RE 6 wz A y.kids → S.length + 2 ^ (d - 1) ≤ 100000 → VS Tryz.prog 106 169 9 3 wz w gm gl S → Rt Tryz.prog 138 #[.iface 185 (.pointer (some ⟨b,o,none⟩)),.func (.func 139) #[] #[.pointer (some ⟨gm,0,none⟩),.pointer (some ⟨gl,0,none⟩)]] w (fun v w' => v = .tuple #[] ∧ VS Tryz.prog 106 169 9 3 wz w' gm gl (colL S (exTs (d - 1) y)))) (hv : VS Tryz.prog 106 169 9 3 wz w gm gl S) :
    Rt Tryz.prog 138 #[.iface 185 (.pointer (some ⟨b,o,none⟩)),.func (.func 139) #[] #[.pointer (some ⟨gm,0,none⟩),.pointer (some ⟨gl,0,none⟩)]] w fun v w' => v = .tuple #[] ∧ VS Tryz.prog 106 169 9 3 wz w' gm gl (colL S (exTs d x)) := by
  refine enter Tryz.func138 rfl (l := [.iface 185 (.pointer (some ⟨b,o,none⟩)),.func (.func 139) #[] #[.pointer (some ⟨gm,0,none⟩),.pointer (some ⟨gl,0,none⟩)]]) rfl Tryz.ntmps138 (Nat.le_of_ble_eq_true rfl) ?_
  have x0 := VS.ext hv
  have hl_ := Ex.okc.l ho
  have hc_ := Ex.okc.c ho
  have hd0_ := smE.pos hsm
  have hk2_ := smE.kids hsm hd0_
  have hp1_ : 1 ≤ 2 ^ d := one_pow
  refine c_seq (c_reg (s_move (v := .iface 185 (.pointer (some ⟨b,o,none⟩))) (ej rfl rfl) (w0 rfl) (c_done (n_then (c_block (c_seq (c_reg (s_isnt F_pt160 (ej rfl rfl) (by decide) (w0 rfl) (s_extract (v := .bool false) (ej rfl rfl) rfl (w0 rfl) (s_extract (v := .pointer none) (ej rfl rfl) rfl (w0 rfl) (c_done ?_)))))))))))
  refine n_then (c_cond0 (ej rfl rfl) (c_seq (c_reg (s_isnt F_pt183 (ej rfl rfl) (by decide) (w0 rfl) (s_extract (v := .bool false) (ej rfl rfl) rfl (w0 rfl) (s_extract (v := .pointer none) (ej rfl rfl) rfl (w0 rfl) (c_done (n_then (c_cond0 (ej rfl rfl) (c_seq (c_reg ?_)))))))))))
  refine s_is F_pt185 (ej rfl rfl) (w0 rfl) (s_extract (v := .bool true) (ej rfl rfl) rfl (w0 rfl) (s_extract (v := .pointer (some ⟨b,o,none⟩)) (ej rfl rfl) rfl (w0 rfl) (c_done (n_then (c_cond1 (ej rfl rfl) (c_seq (c_reg (s_assign (v := .pointer (some ⟨b,o,none⟩)) (ej rfl rfl) (w0 rfl) (c_done (n_then (c_seq ?_)))))))))))
  refine c_reg (s_move (v := .func (.func 139) #[] #[.pointer (some ⟨gm,0,none⟩),.pointer (some ⟨gl,0,none⟩)]) (ej rfl rfl) (w0 rfl) (s_move (v := .pointer (some ⟨b,o,none⟩)) (ej rfl rfl) (w0 rfl) (s_nilCheck (ej rfl rfl) (w0 rfl) (s_field (off := 1) (o' := o + 1) F_f36_1 (ej rfl rfl) rfl (w0 rfl) (s_call F_e139 (w0 rfl) (ej rfl rfl) (m1 (ej rfl rfl)) (args := #[.pointer (some ⟨b,o + 1,none⟩),.pointer (some ⟨gm,0,none⟩),.pointer (some ⟨gl,0,none⟩)]) rfl (t_vars1 x.t b (o + 1) gm gl (colL S []) wz _ (sub_cells hcell 1 (cs2 := [.string x.t.v,.int .i8 x.t.l.k,.int .i64 x.t.l.n,.string x.t.l.s]) rfl) (Ex.okc.t ho) hv (by have b_ := colL_len S []; simp only [List.length_append,List.length_take,List.length_map,List.length_nil,List.length_cons] at b_; omega)) ?_)))))
  rintro _ w1 ⟨rfl,hv2⟩
  have hv3 : VS Tryz.prog 106 169 9 3 wz w1 gm gl (colL S ([] ++ [x.t])) := VS.cast hv2 (colL_app S [] [x.t]).symm
  refine c_done (n_then (c_seq (c_reg (s_move (v := .pointer (some ⟨b,o,none⟩)) (ej rfl rfl) (w0 rfl) (s_nilCheck (ej rfl rfl) (w0 rfl) (s_field (off := 5) (o' := o + 5) F_f36_2 (ej rfl rfl) rfl (w0 rfl) (s_load (v := .slice A x.kids.length c) F_o34 (ej rfl rfl) ((cells_ext (VS.ext hv3) hcell) 5 _ rfl) (w0 rfl) (s_lenL F_l34 (ej rfl rfl) (w0 rfl) (s_move (v := .int .i64 0) ev_c (w0 rfl) (c_done (n_then ?_)))))))))))
  refine c_block (c_loop (α := Nat) (fun (i : Nat) env_ w_ => VS Tryz.prog 106 169 9 3 wz w_ gm gl (colL S (exK (d - 1) x i)) ∧ i ≤ x.kids.length ∧ env_ 1 = .func (.func 139) #[] #[.pointer (some ⟨gm,0,none⟩),.pointer (some ⟨gl,0,none⟩)] ∧ env_ 8 = .pointer (some ⟨b,o,none⟩) ∧ env_ 85 = .int .i64 (x.kids.length : Int) ∧ env_ 86 = .int .i64 ((i : Nat) : Int)) (fun i => x.kids.length - i) (0) ⟨(VS.cast hv3 (congrArg (colL S) (show ([] ++ [x.t]) = (exK (d - 1) x 0) by rw [exK_zero]; rfl))),Nat.zero_le _,rfl,rfl,rfl,rfl⟩ ?_)
  rintro i env6 w4 ⟨x5,i7,e8,e9,e10,e11⟩
  refine c_seq (c_reg (s_cmp (r := decide (((i : Nat) : Int) < (x.kids.length : Int))) (ej rfl e11) (ej rfl e10) rfl (w0 rfl) (c_done (n_then (c_seq ?_)))))
  by_cases h12 : ((i : Nat) : Int) < (x.kids.length : Int)
  · refine c_cond1 (vb (ej rfl rfl) (decide_eq_true h12)) (c_skip (n_then (c_seq (c_block (c_seq (c_reg (s_move (v := .int .i64 ((i : Nat) : Int)) (ej rfl e11) (w0 rfl) (s_assign (v := .int .i64 ((i : Nat) : Int)) (ej rfl rfl) (w0 rfl) (c_done (n_then (c_reg ?_)))))))))))
    refine s_move (v := .pointer (some ⟨b,o,none⟩)) (ej rfl e9) (w0 rfl) (s_nilCheck (ej rfl rfl) (w0 rfl) (s_field (off := 5) (o' := o + 5) F_f36_2 (ej rfl rfl) rfl (w0 rfl) (s_load (v := .slice A x.kids.length c) F_o34 (ej rfl rfl) ((cells_ext (VS.ext x5) hcell) 5 _ rfl) (w0 rfl) (s_move (v := .int .i64 ((i : Nat) : Int)) (ej rfl rfl) (w0 rfl) ?_))))
    obtain ⟨b13,o14,x15,csx15,hA16,hx17,hR18,hc19⟩ := Row.at_ hr i (by omega)
    obtain rfl := Ex.kid_of hx17
    obtain ⟨A20,c21,rfl,ho22,hr23⟩ := RE.open_ hR18
    refine s_indexR (j := i) F_l34 (ej rfl rfl) hA16 (ej rfl rfl) rfl (by omega) (w0 rfl) (s_iface F_pt185 (ej rfl rfl) (w0 rfl) (s_move (v := .func (.func 139) #[] #[.pointer (some ⟨gm,0,none⟩),.pointer (some ⟨gl,0,none⟩)]) (ej rfl e8) (w0 rfl) (s_call F_e138 (w0 rfl) ev_f (m2 (ej rfl rfl) (ej rfl rfl)) (args := #[.iface 185 (.pointer (some ⟨b13,o14 + i * 6,none⟩)),.func (.func 139) #[] #[.pointer (some ⟨gm,0,none⟩),.pointer (some ⟨gl,0,none⟩)]]) rfl (ih i _ (kid_there (x := x) (j := i) (by omega)) A20 c21 b13 (o14 + i * 6) (colL S (exK (d - 1) x i)) _ hc19 ho22 hr23 (by have b_ := colL_len S (exK (d - 1) x i); have b2_ := exK_bound hsm (i := i) (by omega); omega) x5) ?_)))
    rintro _ w24 ⟨rfl,hv25⟩
    have hv26 : VS Tryz.prog 106 169 9 3 wz w24 gm gl (colL S ((exK (d - 1) x i) ++ exTs (d - 1) (x.kid i))) := VS.cast hv25 (colL_app S (exK (d - 1) x i) (exTs (d - 1) (x.kid i))).symm
    refine c_done (n_block (n_then (c_reg (s_add (r := ((i + 1 : Nat) : Int)) (ej rfl e11) ev_c (by omega) (by omega) (w0 rfl) (s_move (v := .int .i64 ((i + 1 : Nat) : Int)) (ej rfl rfl) (w0 rfl) (c_done ?_))))))
    exact ⟨(i + 1),_,rfl,⟨(VS.cast hv26 (congrArg (colL S) (show ((exK (d - 1) x i) ++ exTs (d - 1) (x.kid i)) = (exK (d - 1) x (i + 1)) by exact (exK_step (by omega)).symm))),by omega,e8,e9,e10,rfl⟩,(show x.kids.length - (i + 1) < x.kids.length - i by omega)⟩
  refine c_cond0 (vb (ej rfl rfl) (decide_eq_false h12)) (c_exit (e_then (e_then (e_hit (n_block (ret0 rfl ?_))))))
  exact ⟨_,rfl,rfl,VS.cast x5 (congrArg (colL S) (show (exK (d - 1) x i) = exTs d x by exact exK_all' hd0_ (by omega)))⟩
theorem t_walkE (gm gl : Nat) (wz : World) : ∀ (d : Nat) (x : Ex) (A : Option Addr) (c : Nat) (b o : Nat) (S : List ByteArray) (w : World),smE d x → (∀ (i : Nat) (u : Value),([.int .i8 x.op,.string x.t.v,.int .i8 x.t.l.k,.int .i64 x.t.l.n,.string x.t.l.s,.slice A x.kids.length c] : List Value)[i]? = some u → wz.cell? ⟨b,o + i,none⟩ = some u) → x.okc c → Row RE 6 wz A x.kids → S.length + 2 ^ d ≤ 100000 → VS Tryz.prog 106 169 9 3 wz w gm gl S → Rt Tryz.prog 138 #[.iface 185 (.pointer (some ⟨b,o,none⟩)),.func (.func 139) #[] #[.pointer (some ⟨gm,0,none⟩),.pointer (some ⟨gl,0,none⟩)]] w (fun v w' => v = .tuple #[] ∧ VS Tryz.prog 106 169 9 3 wz w' gm gl (colL S (exTs d x))) := by
  intro d
  induction d with
  | zero => intro x A c b o S w hsm; exact hsm.elim
  | succ d ih =>
    intro x A c b o S w hsm hcell ho hr hn hv
    exact t_walkE_step (d + 1) x A c b o gm gl S wz w hcell ho hr hsm hn (fun j y hy A c b o S w hcell ho hr hn hv => ih y A c b o S w (hsm.kid hy) hcell ho hr hn hv) hv
theorem t_walkL (x : Lt) (Aa A1 A2 : Option Addr) (ca c1 c2 : Nat) (b o gm gl : Nat) (S : List ByteArray) (wz : World) (w : World) (hcell : ∀ (i : Nat) (u : Value),([.int .i8 x.k,.string x.a.p,.slice Aa x.a.args.length ca,.int .i8 x.r,.int .i8 x.e1.op,.string x.e1.t.v,.int .i8 x.e1.t.l.k,.int .i64 x.e1.t.l.n,.string x.e1.t.l.s,.slice A1 x.e1.kids.length c1,.int .i8 x.e2.op,.string x.e2.t.v,.int .i8 x.e2.t.l.k,.int .i64 x.e2.t.l.n,.string x.e2.t.l.s,.slice A2 x.e2.kids.length c2] : List Value)[i]? = some u → wz.cell? ⟨b,o + i,none⟩ = some u) (ho : x.okc ca c1 c2) (hra : Row RT 4 wz Aa x.a.args) (hr1 : Row RE 6 wz A1 x.e1.kids) (hr2 : Row RE 6 wz A2 x.e2.kids) (hlt : ltB x = true) (hn : S.length + 600 ≤ 100000) (hv : VS Tryz.prog 106 169 9 3 wz w gm gl S) :
    Rt Tryz.prog 138 #[.iface 183 (.pointer (some ⟨b,o,none⟩)),.func (.func 139) #[] #[.pointer (some ⟨gm,0,none⟩),.pointer (some ⟨gl,0,none⟩)]] w fun v w' => v = .tuple #[] ∧ VS Tryz.prog 106 169 9 3 wz w' gm gl (colL S (ltTs x)) := by
  refine enter Tryz.func138 rfl (l := [.iface 183 (.pointer (some ⟨b,o,none⟩)),.func (.func 139) #[] #[.pointer (some ⟨gm,0,none⟩),.pointer (some ⟨gl,0,none⟩)]]) rfl Tryz.ntmps138 (Nat.le_of_ble_eq_true rfl) ?_
  have x0 := VS.ext hv
  have hoa_ := Lt.okc.a ho
  have ho1_ := Lt.okc.e1 ho
  have ho2_ := Lt.okc.e2 ho
  have hl1_ := Ex.okc.l ho1_
  have hl2_ := Ex.okc.l ho2_
  have hc1_ := Ex.okc.c ho1_
  have hc2_ := Ex.okc.c ho2_
  have hla_ := At.okc.l hoa_
  have hca_ := At.okc.c hoa_
  have hpa_ := At.okc.p hoa_
  obtain ⟨hsm1_,hsm2_,hl24_⟩ := lt_sm hlt
  have hz1_ := exTs_len 8 _ hsm1_
  have hz2_ := exTs_len 8 _ hsm2_
  refine c_seq (c_reg (s_move (v := .iface 183 (.pointer (some ⟨b,o,none⟩))) (ej rfl rfl) (w0 rfl) (c_done (n_then (c_block (c_seq (c_reg (s_isnt F_pt160 (ej rfl rfl) (by decide) (w0 rfl) (s_extract (v := .bool false) (ej rfl rfl) rfl (w0 rfl) (s_extract (v := .pointer none) (ej rfl rfl) rfl (w0 rfl) (c_done ?_)))))))))))
  refine n_then (c_cond0 (ej rfl rfl) (c_seq (c_reg (s_is F_pt183 (ej rfl rfl) (w0 rfl) (s_extract (v := .bool true) (ej rfl rfl) rfl (w0 rfl) (s_extract (v := .pointer (some ⟨b,o,none⟩)) (ej rfl rfl) rfl (w0 rfl) (c_done (n_then (c_cond1 (ej rfl rfl) (c_seq (c_reg ?_)))))))))))
  refine s_assign (v := .pointer (some ⟨b,o,none⟩)) (ej rfl rfl) (w0 rfl) (c_done (n_then (c_seq (c_reg (s_move (v := .pointer (some ⟨b,o,none⟩)) (ej rfl rfl) (w0 rfl) (s_nilCheck (ej rfl rfl) (w0 rfl) (s_field (off := 1) (o' := o + 1) F_f38_1 (ej rfl rfl) rfl (w0 rfl) (s_iface F_pt184 (ej rfl rfl) (w0 rfl) (s_move (v := .func (.func 139) #[] #[.pointer (some ⟨gm,0,none⟩),.pointer (some ⟨gl,0,none⟩)]) (ej rfl rfl) (w0 rfl) (s_call F_e138 (w0 rfl) ev_f (m2 (ej rfl rfl) (ej rfl rfl)) (args := #[.iface 184 (.pointer (some ⟨b,o + 1,none⟩)),.func (.func 139) #[] #[.pointer (some ⟨gm,0,none⟩),.pointer (some ⟨gl,0,none⟩)]]) rfl (t_walkA x.a Aa ca b (o + 1) gm gl (colL S []) wz _ (sub_cells hcell 1 (cs2 := [.string x.a.p,.slice Aa x.a.args.length ca]) rfl) hoa_ hra (by have b_ := colL_len S []; simp only [List.length_append,List.length_take,List.length_map,List.length_nil,List.length_cons] at b_; omega) hv) ?_))))))))))
  rintro _ w1 ⟨rfl,hv2⟩
  have hv3 : VS Tryz.prog 106 169 9 3 wz w1 gm gl (colL S ([] ++ x.a.args)) := VS.cast hv2 (colL_app S [] x.a.args).symm
  refine c_done (n_then (c_seq (c_reg (s_move (v := .pointer (some ⟨b,o,none⟩)) (ej rfl rfl) (w0 rfl) (s_nilCheck (ej rfl rfl) (w0 rfl) (s_field (off := 4) (o' := o + 4) F_f38_3 (ej rfl rfl) rfl (w0 rfl) (s_iface F_pt185 (ej rfl rfl) (w0 rfl) (s_move (v := .func (.func 139) #[] #[.pointer (some ⟨gm,0,none⟩),.pointer (some ⟨gl,0,none⟩)]) (ej rfl rfl) (w0 rfl) (s_call F_e138 (w0 rfl) ev_f (m2 (ej rfl rfl) (ej rfl rfl)) (args := #[.iface 185 (.pointer (some ⟨b,o + 4,none⟩)),.func (.func 139) #[] #[.pointer (some ⟨gm,0,none⟩),.pointer (some ⟨gl,0,none⟩)]]) rfl (t_walkE gm gl wz 8 x.e1 A1 c1 b (o + 4) (colL S ([] ++ x.a.args)) _ hsm1_ (sub_cells hcell 4 (cs2 := [.int .i8 x.e1.op,.string x.e1.t.v,.int .i8 x.e1.t.l.k,.int .i64 x.e1.t.l.n,.string x.e1.t.l.s,.slice A1 x.e1.kids.length c1]) rfl) ho1_ hr1 (by have b_ := colL_len S ([] ++ x.a.args); simp only [List.length_append,List.length_take,List.length_map,List.length_nil,List.length_cons] at b_; omega) hv3) ?_)))))))))
  rintro _ w4 ⟨rfl,hv5⟩
  have hv6 : VS Tryz.prog 106 169 9 3 wz w4 gm gl (colL S (([] ++ x.a.args) ++ exTs 8 x.e1)) := VS.cast hv5 (colL_app S ([] ++ x.a.args) (exTs 8 x.e1)).symm
  refine c_done (n_then (c_reg (s_move (v := .pointer (some ⟨b,o,none⟩)) (ej rfl rfl) (w0 rfl) (s_nilCheck (ej rfl rfl) (w0 rfl) (s_field (off := 10) (o' := o + 10) F_f38_4 (ej rfl rfl) rfl (w0 rfl) (s_iface F_pt185 (ej rfl rfl) (w0 rfl) (s_move (v := .func (.func 139) #[] #[.pointer (some ⟨gm,0,none⟩),.pointer (some ⟨gl,0,none⟩)]) (ej rfl rfl) (w0 rfl) (s_call F_e138 (w0 rfl) ev_f (m2 (ej rfl rfl) (ej rfl rfl)) (args := #[.iface 185 (.pointer (some ⟨b,o + 10,none⟩)),.func (.func 139) #[] #[.pointer (some ⟨gm,0,none⟩),.pointer (some ⟨gl,0,none⟩)]]) rfl (t_walkE gm gl wz 8 x.e2 A2 c2 b (o + 10) (colL S (([] ++ x.a.args) ++ exTs 8 x.e1)) _ hsm2_ (sub_cells hcell 10 (cs2 := [.int .i8 x.e2.op,.string x.e2.t.v,.int .i8 x.e2.t.l.k,.int .i64 x.e2.t.l.n,.string x.e2.t.l.s,.slice A2 x.e2.kids.length c2]) rfl) ho2_ hr2 (by have b_ := colL_len S (([] ++ x.a.args) ++ exTs 8 x.e1); simp only [List.length_append,List.length_take,List.length_map,List.length_nil,List.length_cons] at b_; omega) hv6) ?_))))))))
  rintro _ w7 ⟨rfl,hv8⟩
  have hv9 : VS Tryz.prog 106 169 9 3 wz w7 gm gl (colL S ((([] ++ x.a.args) ++ exTs 8 x.e1) ++ exTs 8 x.e2)) := VS.cast hv8 (colL_app S (([] ++ x.a.args) ++ exTs 8 x.e1) (exTs 8 x.e2)).symm
  refine c_done (n_block (ret0 rfl ?_))
  exact ⟨_,rfl,rfl,VS.cast hv9 (congrArg (colL S) (show ((([] ++ x.a.args) ++ exTs 8 x.e1) ++ exTs 8 x.e2) = ltTs x by unfold ltTs; simp only [List.nil_append]))⟩
theorem t_walkU (x : Ru) (Ah Ab : Option Addr) (ch cb : Nat) (b o gm gl : Nat) (S : List ByteArray) (wz : World) (w : World) (hcell : ∀ (i : Nat) (u : Value),([.string x.p,.slice Ah x.head.length ch,.slice Ab x.body.length cb] : List Value)[i]? = some u → wz.cell? ⟨b,o + i,none⟩ = some u) (ho : x.okc ch cb) (hrh : Row RG 5 wz Ah x.head) (hrb : Row RL 16 wz Ab x.body) (h24 : x.head.length ≤ 24) (h16 : x.body.length ≤ 16) (hbod : ∀ (j : Nat) (y : Lt),x.body[j]? = some y → ltB y = true) (hn : S.length ≤ 100) (hv : VS Tryz.prog 106 169 9 3 wz w gm gl S) :
    Rt Tryz.prog 138 #[.iface 160 (.pointer (some ⟨b,o,none⟩)),.func (.func 139) #[] #[.pointer (some ⟨gm,0,none⟩),.pointer (some ⟨gl,0,none⟩)]] w fun v w' => v = .tuple #[] ∧ VS Tryz.prog 106 169 9 3 wz w' gm gl (colL S (ruTs x)) := by
  refine enter Tryz.func138 rfl (l := [.iface 160 (.pointer (some ⟨b,o,none⟩)),.func (.func 139) #[] #[.pointer (some ⟨gm,0,none⟩),.pointer (some ⟨gl,0,none⟩)]]) rfl Tryz.ntmps138 (Nat.le_of_ble_eq_true rfl) ?_
  have x0 := VS.ext hv
  have hpr_ := Ru.okc.p ho
  have hhl_ := Ru.okc.hl ho
  have hhc_ := Ru.okc.hc ho
  have hbl_ := Ru.okc.bl ho
  have hbc_ := Ru.okc.bc ho
  refine c_seq (c_reg (s_move (v := .iface 160 (.pointer (some ⟨b,o,none⟩))) (ej rfl rfl) (w0 rfl) (c_done (n_then (c_block (c_seq (c_reg (s_is F_pt160 (ej rfl rfl) (w0 rfl) (s_extract (v := .bool true) (ej rfl rfl) rfl (w0 rfl) (s_extract (v := .pointer (some ⟨b,o,none⟩)) (ej rfl rfl) rfl (w0 rfl) (c_done ?_)))))))))))
  refine n_then (c_cond1 (ej rfl rfl) (c_seq (c_reg (s_assign (v := .pointer (some ⟨b,o,none⟩)) (ej rfl rfl) (w0 rfl) (c_done (n_then (c_seq (c_seq (c_reg (s_move (v := .pointer (some ⟨b,o,none⟩)) (ej rfl rfl) (w0 rfl) (s_nilCheck (ej rfl rfl) (w0 rfl) ?_)))))))))))
  refine s_field (off := 1) (o' := o + 1) F_f53_1 (ej rfl rfl) rfl (w0 rfl) (s_load (v := .slice Ah x.head.length ch) F_o51 (ej rfl rfl) ((cells_ext x0 hcell) 1 _ rfl) (w0 rfl) (s_lenL F_l51 (ej rfl rfl) (w0 rfl) (s_move (v := .int .i64 0) ev_c (w0 rfl) (c_done (n_then (c_block (c_loop (α := Nat) (fun (i : Nat) env_ w_ => VS Tryz.prog 106 169 9 3 wz w_ gm gl (colL S ((x.head.take i).map (fun g_ : Ag => g_.t))) ∧ i ≤ x.head.length ∧ env_ 1 = .func (.func 139) #[] #[.pointer (some ⟨gm,0,none⟩),.pointer (some ⟨gl,0,none⟩)] ∧ env_ 4 = .pointer (some ⟨b,o,none⟩) ∧ env_ 20 = .int .i64 (x.head.length : Int) ∧ env_ 21 = .int .i64 ((i : Nat) : Int)) (fun i => x.head.length - i) (0) ⟨(VS.cast hv (congrArg (colL S) (show [] = ((x.head.take 0).map (fun g_ : Ag => g_.t)) by simp))),Nat.zero_le _,rfl,rfl,rfl,rfl⟩ ?_)))))))
  rintro i env3 w1 ⟨x2,i4,e5,e6,e7,e8⟩
  refine c_seq (c_reg (s_cmp (r := decide (((i : Nat) : Int) < (x.head.length : Int))) (ej rfl e8) (ej rfl e7) rfl (w0 rfl) (c_done (n_then (c_seq ?_)))))
  by_cases h9 : ((i : Nat) : Int) < (x.head.length : Int)
  · refine c_cond1 (vb (ej rfl rfl) (decide_eq_true h9)) (c_skip (n_then (c_seq (c_block (c_seq (c_reg (s_move (v := .int .i64 ((i : Nat) : Int)) (ej rfl e8) (w0 rfl) (s_assign (v := .int .i64 ((i : Nat) : Int)) (ej rfl rfl) (w0 rfl) (c_done (n_then (c_reg ?_)))))))))))
    refine s_move (v := .func (.func 139) #[] #[.pointer (some ⟨gm,0,none⟩),.pointer (some ⟨gl,0,none⟩)]) (ej rfl e5) (w0 rfl) (s_move (v := .pointer (some ⟨b,o,none⟩)) (ej rfl e6) (w0 rfl) (s_nilCheck (ej rfl rfl) (w0 rfl) (s_field (off := 1) (o' := o + 1) F_f53_1 (ej rfl rfl) rfl (w0 rfl) (s_load (v := .slice Ah x.head.length ch) F_o51 (ej rfl rfl) ((cells_ext (VS.ext x2) hcell) 1 _ rfl) (w0 rfl) (s_move (v := .int .i64 ((i : Nat) : Int)) (ej rfl rfl) (w0 rfl) ?_)))))
    obtain ⟨b10,o11,x12,csx12,hA13,hx14,hR15,hc16⟩ := Row.at_ hrh i (by omega)
    obtain rfl := agAt_of hx14
    obtain ⟨rfl,wf17⟩ := hR15
    refine s_indexR (j := i) F_l51 (ej rfl rfl) hA13 (ej rfl rfl) rfl (by omega) (w0 rfl) (s_field (off := 1) (o' := o11 + i * 5 + 1) F_f129_1 (ej rfl rfl) rfl (w0 rfl) (s_call F_e139 (w0 rfl) (ej rfl rfl) (m1 (ej rfl rfl)) (args := #[.pointer (some ⟨b10,o11 + i * 5 + 1,none⟩),.pointer (some ⟨gm,0,none⟩),.pointer (some ⟨gl,0,none⟩)]) rfl (t_vars1 ((agAt x.head i).t) b10 (o11 + i * 5 + 1) gm gl (colL S ((x.head.take i).map (fun g_ : Ag => g_.t))) wz _ (sub_cells hc16 1 (cs2 := [.string ((agAt x.head i).t.v),.int .i8 ((agAt x.head i).t.l.k),.int .i64 ((agAt x.head i).t.l.n),.string ((agAt x.head i).t.l.s)]) rfl) (Ag.wf.t wf17) x2 (by have b_ := colL_len S ((x.head.take i).map (fun g_ : Ag => g_.t)); simp only [List.length_append,List.length_take,List.length_map,List.length_nil,List.length_cons] at b_; omega)) ?_))
    rintro _ w18 ⟨rfl,hv19⟩
    have hv20 : VS Tryz.prog 106 169 9 3 wz w18 gm gl (colL S (((x.head.take i).map (fun g_ : Ag => g_.t)) ++ [(agAt x.head i).t])) := VS.cast hv19 (colL_app S ((x.head.take i).map (fun g_ : Ag => g_.t)) [(agAt x.head i).t]).symm
    refine c_done (n_block (n_then (c_reg (s_add (r := ((i + 1 : Nat) : Int)) (ej rfl e8) ev_c (by omega) (by omega) (w0 rfl) (s_move (v := .int .i64 ((i + 1 : Nat) : Int)) (ej rfl rfl) (w0 rfl) (c_done ?_))))))
    exact ⟨(i + 1),_,rfl,⟨(VS.cast hv20 (congrArg (colL S) (show (((x.head.take i).map (fun g_ : Ag => g_.t)) ++ [(agAt x.head i).t]) = ((x.head.take (i + 1)).map (fun g_ : Ag => g_.t)) by exact (hd_step (by omega)).symm))),by omega,e5,e6,e7,rfl⟩,(show x.head.length - (i + 1) < x.head.length - i by omega)⟩
  refine c_cond0 (vb (ej rfl rfl) (decide_eq_false h9)) (c_exit (e_then (e_then (e_hit (n_then (c_seq (c_reg (s_move (v := .pointer (some ⟨b,o,none⟩)) (ej rfl e6) (w0 rfl) (s_nilCheck (ej rfl rfl) (w0 rfl) (s_field (off := 2) (o' := o + 2) F_f53_2 (ej rfl rfl) rfl (w0 rfl) (s_load (v := .slice Ab x.body.length cb) F_o40 (ej rfl rfl) ((cells_ext (VS.ext x2) hcell) 2 _ rfl) (w0 rfl) ?_)))))))))))
  refine s_lenL F_l40 (ej rfl rfl) (w0 rfl) (s_move (v := .int .i64 0) ev_c (w0 rfl) (c_done (n_then (c_block (c_loop (α := Nat) (fun (k : Nat) env_ w_ => VS Tryz.prog 106 169 9 3 wz w_ gm gl (colL S (ruK x k)) ∧ k ≤ x.body.length ∧ env_ 1 = .func (.func 139) #[] #[.pointer (some ⟨gm,0,none⟩),.pointer (some ⟨gl,0,none⟩)] ∧ env_ 4 = .pointer (some ⟨b,o,none⟩) ∧ env_ 38 = .int .i64 (x.body.length : Int) ∧ env_ 39 = .int .i64 ((k : Nat) : Int)) (fun k => x.body.length - k) (0) ⟨(VS.cast x2 (congrArg (colL S) (show ((x.head.take i).map (fun g_ : Ag => g_.t)) = (ruK x 0) by rw [ruK_zero,List.take_of_length_le (by omega)]))),Nat.zero_le _,e5,e6,rfl,rfl⟩ ?_)))))
  rintro k env23 w21 ⟨x22,i24,e25,e26,e27,e28⟩
  refine c_seq (c_reg (s_cmp (r := decide (((k : Nat) : Int) < (x.body.length : Int))) (ej rfl e28) (ej rfl e27) rfl (w0 rfl) (c_done (n_then (c_seq ?_)))))
  by_cases h29 : ((k : Nat) : Int) < (x.body.length : Int)
  · refine c_cond1 (vb (ej rfl rfl) (decide_eq_true h29)) (c_skip (n_then (c_seq (c_block (c_seq (c_reg (s_move (v := .int .i64 ((k : Nat) : Int)) (ej rfl e28) (w0 rfl) (s_assign (v := .int .i64 ((k : Nat) : Int)) (ej rfl rfl) (w0 rfl) (c_done (n_then (c_reg ?_)))))))))))
    refine s_move (v := .pointer (some ⟨b,o,none⟩)) (ej rfl e26) (w0 rfl) (s_nilCheck (ej rfl rfl) (w0 rfl) (s_field (off := 2) (o' := o + 2) F_f53_2 (ej rfl rfl) rfl (w0 rfl) (s_load (v := .slice Ab x.body.length cb) F_o40 (ej rfl rfl) ((cells_ext (VS.ext x22) hcell) 2 _ rfl) (w0 rfl) (s_move (v := .int .i64 ((k : Nat) : Int)) (ej rfl rfl) (w0 rfl) ?_))))
    obtain ⟨b30,o31,x32,csx32,hA33,hx34,hR35,hc36⟩ := Row.at_ hrb k (by omega)
    obtain rfl := ltAt_of hx34
    obtain ⟨Aa37,A38,A39,ca40,c41,c42,rfl,ho43,ra44,r45,r46⟩ := hR35
    have q47_a := Lt.okc.a ho43
    have q47_e1 := Lt.okc.e1 ho43
    have q47_e2 := Lt.okc.e2 ho43
    have := Ex.okc.l q47_e1
    have := Ex.okc.l q47_e2
    have := Ex.okc.c q47_e1
    have := Ex.okc.c q47_e2
    have := At.okc.l q47_a
    have := At.okc.c q47_a
    have := At.okc.p q47_a
    refine s_indexR (j := k) F_l40 (ej rfl rfl) hA33 (ej rfl rfl) rfl (by omega) (w0 rfl) (s_iface F_pt183 (ej rfl rfl) (w0 rfl) (s_move (v := .func (.func 139) #[] #[.pointer (some ⟨gm,0,none⟩),.pointer (some ⟨gl,0,none⟩)]) (ej rfl e25) (w0 rfl) (s_call F_e138 (w0 rfl) ev_f (m2 (ej rfl rfl) (ej rfl rfl)) (args := #[.iface 183 (.pointer (some ⟨b30,o31 + k * 16,none⟩)),.func (.func 139) #[] #[.pointer (some ⟨gm,0,none⟩),.pointer (some ⟨gl,0,none⟩)]]) rfl (t_walkL (ltAt x.body k) Aa37 A38 A39 ca40 c41 c42 b30 (o31 + k * 16) gm gl (colL S (ruK x k)) wz _ hc36 ho43 ra44 r45 r46 (hbod _ _ (ltAt_there (by omega))) (by have b_ := colL_len S (ruK x k); have b2_ := ruK_len hbod k; omega) x22) ?_)))
    rintro _ w48 ⟨rfl,hv49⟩
    have hv50 : VS Tryz.prog 106 169 9 3 wz w48 gm gl (colL S ((ruK x k) ++ ltTs (ltAt x.body k))) := VS.cast hv49 (colL_app S (ruK x k) (ltTs (ltAt x.body k))).symm
    refine c_done (n_block (n_then (c_reg (s_add (r := ((k + 1 : Nat) : Int)) (ej rfl e28) ev_c (by omega) (by omega) (w0 rfl) (s_move (v := .int .i64 ((k + 1 : Nat) : Int)) (ej rfl rfl) (w0 rfl) (c_done ?_))))))
    exact ⟨(k + 1),_,rfl,⟨(VS.cast hv50 (congrArg (colL S) (show ((ruK x k) ++ ltTs (ltAt x.body k)) = (ruK x (k + 1)) by exact (ruK_step (by omega)).symm))),by omega,e25,e26,e27,rfl⟩,(show x.body.length - (k + 1) < x.body.length - k by omega)⟩
  refine c_cond0 (vb (ej rfl rfl) (decide_eq_false h29)) (c_exit (e_then (e_then (e_hit (n_block (ret0 rfl ?_))))))
  exact ⟨_,rfl,rfl,VS.cast x22 (congrArg (colL S) (show (ruK x k) = ruTs x by exact ruK_all (by omega)))⟩
end Go.Proofs.Zw

set_option linter.unusedVariables false
set_option linter.unusedSimpArgs false
set_option maxRecDepth 10000
namespace Go.Proofs.Zw
open Go Go.Wk Go.Proofs Go.Lib
attribute [local irreducible] Go.wpList Go.wpStill Go.wpQuiet Go.Code.wp Go.Calls
theorem F_e117 : enterable Tryz.prog 117 = true := by kernel_rfl
theorem F_e118 : enterable Tryz.prog 118 = true := by kernel_rfl
theorem F_e120 : enterable Tryz.prog 120 = true := by kernel_rfl
theorem F_e87 : enterable Tryz.prog 87 = true := by kernel_rfl
theorem F_e89 : enterable Tryz.prog 89 = true := by kernel_rfl
theorem F_e90 : enterable Tryz.prog 90 = true := by kernel_rfl
theorem F_sz169 : (Tryz.prog.info? 169).map (·.size) = some 1 := by kernel_rfl
theorem F_z106 : (Tryz.prog.info? 106).bind (·.zero) = some (.slice none 0 0) := by kernel_rfl
theorem F_z169 : (Tryz.prog.info? 169).bind (·.zero) = some (.map none) := by kernel_rfl
theorem t_varsU (x : Ru) (Ah Ab : Option Addr) (ch cb : Nat) (b o : Nat) (w : World) (hcell : ∀ (i : Nat) (u : Value),([.string x.p,.slice Ah x.head.length ch,.slice Ab x.body.length cb] : List Value)[i]? = some u → w.cell? ⟨b,o + i,none⟩ = some u) (ho : x.okc ch cb) (hrh : Row RG 5 w Ah x.head) (hrb : Row RL 16 w Ab x.body) (h24 : x.head.length ≤ 24) (h16 : x.body.length ≤ 16) (hbod : ∀ (j : Nat) (y : Lt),x.body[j]? = some y → ltB y = true) :
    Rt Tryz.prog 120 #[.iface 160 (.pointer (some ⟨b,o,none⟩))] w fun v w' => ∃ A' c',v = .slice A' (rvL x).length c' ∧ Ext w w' := by
  refine enter Tryz.func120 rfl (l := [.iface 160 (.pointer (some ⟨b,o,none⟩))]) rfl Tryz.ntmps120 (Nat.le_of_ble_eq_true rfl) ?_
  have hpr_ := Ru.okc.p ho
  have hhl_ := Ru.okc.hl ho
  have hhc_ := Ru.okc.hc ho
  have hbl_ := Ru.okc.bl ho
  have hbc_ := Ru.okc.bc ho
  refine c_seq (c_reg (s_assign (v := .slice none 0 0) ev_c (w0 rfl) (c_done (n_then (c_seq (c_reg (s_alloc (cs := #[.slice none 0 0]) (w0 rfl) F_z106 rfl ?_)))))))
  intro w2 g1 n3
  refine c_done (n_then (c_seq (c_reg (s_makeMap (w0 rfl) ?_))))
  intro w5 g4 n6
  refine s_alloc (cs := #[.map none]) (w0 rfl) F_z169 rfl ?_
  intro w8 g7 n9
  refine s_store (cs' := #[.map (some g4)]) F_sz169 (ej rfl rfl) (ej rfl rfl) (l := [.map (some g4)]) rfl rfl rfl (NewB.blk n9) (Nat.le_of_ble_eq_true rfl) rfl (w0 rfl) ?_
  intro w10 k11
  refine c_done (n_then (c_seq (c_reg (s_move (v := .iface 160 (.pointer (some ⟨b,o,none⟩))) (ej rfl rfl) (w0 rfl) (s_makeFunc (vf := #[]) (vc := #[.pointer (some ⟨g7,0,none⟩),.pointer (some ⟨g1,0,none⟩)]) m0 (m2 (ej rfl rfl) (ej rfl rfl)) (w0 rfl) ?_)))))
  have hv12 : VS Tryz.prog 106 169 9 3 w w10 g7 g1 [] := ⟨(Keep.then_ (Ext.trans (Ext.trans (NewB.ext n3) (NewB.ext n6)) (NewB.ext n9)) (Wrote.keep k11) (fun i_ hi_ h_ => by have a_ := NewB.eq n9; have b_ := Keep.size (Ext.trans (NewB.ext n3) (NewB.ext n6)); omega)),(by have a_ := NewB.eq n3; have b_ := (Nat.le_refl 0); omega),(by have a_ := NewB.eq n9; have b_ := (Nat.le_trans (Keep.size (NewB.ext n3)) (Keep.size (NewB.ext n6))); omega),none,0,g4,(Ext.blk (Keep.then_ (Ext.trans (NewB.ext n6) (NewB.ext n9)) (Wrote.keep k11) (fun i_ hi_ h_ => by have a_ := NewB.eq n9; have b_ := Keep.size (NewB.ext n6); omega)) (NewB.blk n3)),(Wrote.blk k11),own_nil _ _ _,omap_nil (Ext.blk (Keep.then_ (NewB.ext n9) (Wrote.keep k11) (fun i_ hi_ h_ => by have a_ := NewB.eq n9; have b_ := Keep.size (Ext.refl w5); omega)) (NewB.blk n6)),(by have a_ := NewB.eq n6; have b_ := (Keep.size (NewB.ext n3)); omega)⟩
  refine s_call F_e138 (w0 rfl) ev_f (m2 (ej rfl rfl) (ej rfl rfl)) (args := #[.iface 160 (.pointer (some ⟨b,o,none⟩)),.func (.func 139) #[] #[.pointer (some ⟨g7,0,none⟩),.pointer (some ⟨g1,0,none⟩)]]) rfl (t_walkU x Ah Ab ch cb b o g7 g1 [] w _ hcell ho hrh hrb h24 h16 hbod (by decide) hv12) ?_
  rintro _ w13 ⟨rfl,hv14⟩
  have hv15 : VS Tryz.prog 106 169 9 3 w w13 g7 g1 (colL [] ([] ++ ruTs x)) := VS.cast hv14 (colL_app [] [] (ruTs x)).symm
  obtain ⟨A16,c17,mb18,h19,_⟩ := VS.st hv15
  refine c_done (n_then (c_seq (c_reg (s_load (v := .slice A16 ((colL [] ([] ++ ruTs x)).length) c17) F_o106 (ej rfl rfl) (cell_of_blk (i := 0) h19 rfl) (w0 rfl) (s_assign (v := .slice A16 ((colL [] ([] ++ ruTs x)).length) c17) (ej rfl rfl) (w0 rfl) (c_done (n_then (c_ret (ret1 (v := .slice A16 ((colL [] ([] ++ ruTs x)).length) c17) rfl rfl rfl ?_)))))))))
  exact ⟨_,rfl,A16,c17,rfl,(VS.ext hv15)⟩
theorem t_RuleVars (x : Ru) (Ah Ab : Option Addr) (ch cb : Nat) (w : World) (ho : x.okc ch cb) (hrh : Row RG 5 w Ah x.head) (hrb : Row RL 16 w Ab x.body) (h24 : x.head.length ≤ 24) (h16 : x.body.length ≤ 16) (hbod : ∀ (j : Nat) (y : Lt),x.body[j]? = some y → ltB y = true) :
    Rt Tryz.prog 90 #[.agg #[.string x.p,.slice Ah x.head.length ch,.slice Ab x.body.length cb]] w fun v w' => ∃ A' c',v = .slice A' (rvL x).length c' ∧ Ext w w' := by
  refine enter Tryz.func90 rfl (l := [.agg #[.string x.p,.slice Ah x.head.length ch,.slice Ab x.body.length cb]]) rfl Tryz.ntmps90 (Nat.le_of_ble_eq_true rfl) ?_
  have hpr_ := Ru.okc.p ho
  have hhl_ := Ru.okc.hl ho
  have hhc_ := Ru.okc.hc ho
  have hbl_ := Ru.okc.bl ho
  have hbc_ := Ru.okc.bc ho
  refine c_seq (c_reg (s_box (v := .agg #[.string x.p,.slice Ah x.head.length ch,.slice Ab x.body.length cb]) (cs := #[.string x.p,.slice Ah x.head.length ch,.slice Ab x.body.length cb]) (w0 rfl) (ej rfl rfl) rfl ?_))
  intro w2 g1 n3
  refine s_assign (v := .slice none 0 0) ev_c (w0 rfl) (c_done (n_then (c_seq (c_reg (s_iface F_pt160 (ej rfl rfl) (w0 rfl) (s_call F_e120 (w0 rfl) ev_f (m1 (ej rfl rfl)) (args := #[.iface 160 (.pointer (some ⟨g1,0,none⟩))]) rfl (t_varsU x Ah Ab ch cb g1 0 _ (blk_cells (NewB.blk n3) 0 (cs := [.string x.p,.slice Ah x.head.length ch,.slice Ab x.body.length cb]) rfl) ho (Row.extG hrh (NewB.ext n3)) (Row.extL hrb (NewB.ext n3)) h24 h16 hbod) ?_))))))
  rintro _ w6 ⟨A4,c5,rfl,x7⟩
  refine s_assign (v := .slice A4 ((rvL x).length) c5) (ej rfl rfl) (w0 rfl) (c_done (n_then (c_ret (ret1 (v := .slice A4 ((rvL x).length) c5) rfl rfl rfl ?_))))
  exact ⟨_,rfl,A4,c5,rfl,(Ext.trans (NewB.ext n3) x7)⟩
theorem r4_rule (x : Ru) (Ah Ab : Option Addr) (ch cb : Nat) (w : World) (ho : x.okc ch cb) (hrh : Row RG 5 w Ah x.head) (hrb : Row RL 16 w Ab x.body) :
    Rt Tryz.prog 87 #[.agg #[.string x.p,.slice Ah x.head.length ch,.slice Ab x.body.length cb]] w fun v w' => v = .bool (ruB x) ∧ Ext w w' := by
  refine enter Tryz.func87 rfl (l := [.agg #[.string x.p,.slice Ah x.head.length ch,.slice Ab x.body.length cb]]) rfl Tryz.ntmps87 (Nat.le_of_ble_eq_true rfl) ?_
  have hpr_ := Ru.okc.p ho
  have hhl_ := Ru.okc.hl ho
  have hhc_ := Ru.okc.hc ho
  have hbl_ := Ru.okc.bl ho
  have hbc_ := Ru.okc.bc ho
  refine c_seq (c_reg (s_box (v := .agg #[.string x.p,.slice Ah x.head.length ch,.slice Ab x.body.length cb]) (cs := #[.string x.p,.slice Ah x.head.length ch,.slice Ab x.body.length cb]) (w0 rfl) (ej rfl rfl) rfl ?_))
  intro w2 g1 n3
  refine s_assign (v := .bool false) ev_c (w0 rfl) (c_done (n_then (c_seq (c_seq (c_reg (s_field (off := 0) (o' := 0) F_f53_0 (ej rfl rfl) rfl (w0 rfl) (s_load (v := .string x.p) F_o9 (ej rfl rfl) (cell_of_blk (i := 0) (NewB.blk n3) rfl) (w0 rfl) (s_call F_e100 (w0 rfl) ev_f (m1 (ej rfl rfl)) (args := #[.string x.p]) rfl (r1_Name x.p _ (by omega)) ?_))))))))
  rintro _ w5 ⟨rfl,x4⟩
  refine s_not (b := nameB x.p) (ej rfl rfl) (w0 rfl) ?_
  rcases Bool.eq_false_or_eq_true (nameB x.p) with h6 | h6
  · refine s_move (v := .bool false) (vb (ej rfl rfl) (nbt h6)) (w0 rfl) (s_field (off := 1) (o' := 1) F_f53_1 (ej rfl rfl) rfl (wy rfl rfl rfl rfl) (s_load (v := .slice Ah x.head.length ch) F_o51 (ej rfl rfl) (cell_of_blk (i := 1) (Ext.blk x4 (NewB.blk n3)) rfl) (wy rfl rfl rfl rfl) (s_lenL F_l51 (ej rfl rfl) (wy rfl rfl rfl rfl) (s_cmp (r := decide (24 < (x.head.length : Int))) (ej rfl rfl) ev_c rfl (wy rfl rfl rfl rfl) (s_pick0 (v := .bool (decide (24 < (x.head.length : Int)))) (ej rfl rfl) (ej rfl rfl) (w0 rfl) ?_)))))
    by_cases h7 : 24 < (x.head.length : Int)
    · refine s_move (v := .bool true) (vb (ej rfl rfl) (decide_eq_true h7)) (w0 rfl) (s_skip (wn rfl rfl rfl rfl rfl) (s_skip (wn rfl rfl rfl rfl rfl) (s_skip (wn rfl rfl rfl rfl rfl) (s_skip (wn rfl rfl rfl rfl rfl) (s_pick1 (v := .bool true) (ej rfl rfl) ev_c (w0 rfl) (c_done (n_then (c_cond1 (ej rfl rfl) (c_seq (c_reg (s_assign (v := .bool false) ev_c (w0 rfl) ?_)))))))))))
      refine c_done (n_then (c_ret (r_then (ret1 (v := .bool false) rfl rfl rfl ?_))))
      refine ⟨_,rfl,?_,(Ext.trans (NewB.ext n3) x4)⟩
      (refine congrArg Value.bool ?_; unfold ruB; (rw [show decide ((x.head.length : Int) ≤ 24) = false from decide_eq_false (by omega)]; simp only [Bool.and_false,Bool.false_and]; first | done | rfl | (simp only [*]; done)))
    refine s_move (v := .bool false) (vb (ej rfl rfl) (decide_eq_false h7)) (w0 rfl) (s_field (off := 2) (o' := 2) F_f53_2 (ej rfl rfl) rfl (wy rfl rfl rfl rfl) (s_load (v := .slice Ab x.body.length cb) F_o40 (ej rfl rfl) (cell_of_blk (i := 2) (Ext.blk x4 (NewB.blk n3)) rfl) (wy rfl rfl rfl rfl) (s_lenL F_l40 (ej rfl rfl) (wy rfl rfl rfl rfl) (s_cmp (r := decide (16 < (x.body.length : Int))) (ej rfl rfl) ev_c rfl (wy rfl rfl rfl rfl) (s_pick0 (v := .bool (decide (16 < (x.body.length : Int)))) (ej rfl rfl) (ej rfl rfl) (w0 rfl) (c_done (n_then ?_)))))))
    by_cases h8 : 16 < (x.body.length : Int)
    · refine c_cond1 (vb (ej rfl rfl) (decide_eq_true h8)) (c_seq (c_reg (s_assign (v := .bool false) ev_c (w0 rfl) (c_done (n_then (c_ret (r_then (ret1 (v := .bool false) rfl rfl rfl ?_))))))))
      refine ⟨_,rfl,?_,(Ext.trans (NewB.ext n3) x4)⟩
      (refine congrArg Value.bool ?_; unfold ruB; (rw [show decide ((x.body.length : Int) ≤ 16) = false from decide_eq_false (by omega)]; simp only [Bool.and_false,Bool.false_and]; first | done | rfl | (simp only [*]; done)))
    refine c_cond0 (vb (ej rfl rfl) (decide_eq_false h8)) (c_skip (n_then (c_seq (c_seq (c_reg (s_assign (v := .int .i64 0) ev_c (w0 rfl) (c_done (n_then (c_block ?_)))))))))
    refine c_loop (α := Nat) (fun (i : Nat) env_ w_ => Ext w5 w_ ∧ i ≤ x.head.length ∧ (∀ j y,j < i → x.head[j]? = some y → argB y = true) ∧ env_ 1 = .pointer (some ⟨g1,0,none⟩) ∧ env_ 3 = .int .i64 ((i : Nat) : Int)) (fun i => x.head.length - i) (0) ⟨Ext.refl _,Nat.zero_le _,(fun j y h => absurd h (Nat.not_lt_zero j)),rfl,rfl⟩ ?_
    rintro i env11 w9 ⟨x10,i12,i13,e14,e15⟩
    refine c_seq (c_seq (c_reg (s_move (v := .int .i64 ((i : Nat) : Int)) (ej rfl e15) (w0 rfl) (s_field (off := 1) (o' := 1) F_f53_1 (ej rfl e14) rfl (w0 rfl) (s_load (v := .slice Ah x.head.length ch) F_o51 (ej rfl rfl) (cell_of_blk (i := 1) (Ext.blk x10 (Ext.blk x4 (NewB.blk n3))) rfl) (w0 rfl) (s_lenL F_l51 (ej rfl rfl) (w0 rfl) (s_cmp (r := decide (((i : Nat) : Int) < (x.head.length : Int))) (ej rfl rfl) (ej rfl rfl) rfl (w0 rfl) (c_done (n_then ?_)))))))))
    by_cases h16 : ((i : Nat) : Int) < (x.head.length : Int)
    · refine c_cond1 (vb (ej rfl rfl) (decide_eq_true h16)) (c_skip (n_then (c_seq (c_block (c_seq (c_reg (s_field (off := 1) (o' := 1) F_f53_1 (ej rfl e14) rfl (w0 rfl) (s_load (v := .slice Ah x.head.length ch) F_o51 (ej rfl rfl) (cell_of_blk (i := 1) (Ext.blk x10 (Ext.blk x4 (NewB.blk n3))) rfl) (w0 rfl) (s_move (v := .int .i64 ((i : Nat) : Int)) (ej rfl e15) (w0 rfl) ?_)))))))))
      obtain ⟨b17,o18,x19,csx19,hA20,hx21,hR22,hc23⟩ := Row.at_ hrh i (by omega)
      obtain rfl := agAt_of hx21
      obtain ⟨rfl,wf24⟩ := hR22
      refine s_indexR (j := i) F_l51 (ej rfl rfl) hA20 (ej rfl rfl) rfl (by omega) (w0 rfl) (s_loadL (cs := [.int .i8 ((agAt x.head i).k),.string ((agAt x.head i).t.v),.int .i8 ((agAt x.head i).t.l.k),.int .i64 ((agAt x.head i).t.l.n),.string ((agAt x.head i).t.l.s)]) F_m129 (ej rfl rfl) rfl rfl (sub_cells (cells_ext x10 (cells_ext x4 (cells_ext (NewB.ext n3) hc23))) 0 rfl) (w0 rfl) (s_call F_e117 (w0 rfl) ev_f (m1 (ej rfl rfl)) (args := #[.agg #[.int .i8 ((agAt x.head i).k),.string ((agAt x.head i).t.v),.int .i8 ((agAt x.head i).t.l.k),.int .i64 ((agAt x.head i).t.l.n),.string ((agAt x.head i).t.l.s)]]) rfl (r4_argument (agAt x.head i) _ wf24) ?_))
      rintro _ w26 ⟨rfl,x25⟩
      refine s_not (b := argB (agAt x.head i)) (ej rfl rfl) (w0 rfl) (c_done (n_then ?_))
      rcases Bool.eq_false_or_eq_true (argB (agAt x.head i)) with h27 | h27
      · refine c_cond0 (vb (ej rfl rfl) (nbt h27)) (c_skip (n_block (n_then (c_reg (s_move (v := .int .i64 ((i : Nat) : Int)) (ej rfl e15) (w0 rfl) (s_add (r := ((i + 1 : Nat) : Int)) (ej rfl rfl) ev_c (by omega) (by omega) (w0 rfl) (s_assign (v := .int .i64 ((i + 1 : Nat) : Int)) (ej rfl rfl) (w0 rfl) (c_done ?_))))))))
        exact ⟨(i + 1),_,rfl,⟨(Ext.trans x10 x25),by omega,(kids_step i13 (agAt_there (by omega)) (by assumption)),e14,rfl⟩,(show x.head.length - (i + 1) < x.head.length - i by omega)⟩
      refine c_cond1 (vb (ej rfl rfl) (nbf h27)) (c_seq (c_reg (s_assign (v := .bool false) ev_c (w0 rfl) (c_done (n_then (c_ret (r_block (r_then (r_then (r_block (r_then ?_)))))))))))
      refine ret1 (v := .bool false) rfl rfl rfl ?_
      refine ⟨_,rfl,?_,(Ext.trans (Ext.trans (Ext.trans (NewB.ext n3) x4) x10) x25)⟩
      (refine congrArg Value.bool ?_; unfold ruB; (rw [all_no (agAt_there (l := x.head) (j := i) (by omega)) (by assumption)]; simp only [Bool.and_false,Bool.false_and]; first | done | rfl | (simp only [*]; done)))
    refine c_cond0 (vb (ej rfl rfl) (decide_eq_false h16)) (c_exit (e_then (e_then (e_hit (n_then (c_seq (c_seq (c_reg (s_assign (v := .int .i64 0) ev_c (w0 rfl) (c_done (n_then ?_)))))))))))
    refine c_block ?_
    have hall_ : x.head.all argB = true := all_yes (by omega) i13
    refine c_loop (α := Nat) (fun (k : Nat) env_ w_ => Ext w9 w_ ∧ k ≤ x.body.length ∧ (∀ j y,j < k → x.body[j]? = some y → ltB y = true) ∧ env_ 1 = .pointer (some ⟨g1,0,none⟩) ∧ env_ 4 = .int .i64 ((k : Nat) : Int)) (fun k => x.body.length - k) (0) ⟨Ext.refl _,Nat.zero_le _,(fun j y h => absurd h (Nat.not_lt_zero j)),e14,rfl⟩ ?_
    rintro k env30 w28 ⟨x29,i31,i32,e33,e34⟩
    refine c_seq (c_seq (c_reg (s_move (v := .int .i64 ((k : Nat) : Int)) (ej rfl e34) (w0 rfl) (s_field (off := 2) (o' := 2) F_f53_2 (ej rfl e33) rfl (w0 rfl) (s_load (v := .slice Ab x.body.length cb) F_o40 (ej rfl rfl) (cell_of_blk (i := 2) (Ext.blk x29 (Ext.blk x10 (Ext.blk x4 (NewB.blk n3)))) rfl) (w0 rfl) (s_lenL F_l40 (ej rfl rfl) (w0 rfl) (s_cmp (r := decide (((k : Nat) : Int) < (x.body.length : Int))) (ej rfl rfl) (ej rfl rfl) rfl (w0 rfl) (c_done (n_then ?_)))))))))
    by_cases h35 : ((k : Nat) : Int) < (x.body.length : Int)
    · refine c_cond1 (vb (ej rfl rfl) (decide_eq_true h35)) (c_skip (n_then (c_seq (c_block (c_seq (c_reg (s_field (off := 2) (o' := 2) F_f53_2 (ej rfl e33) rfl (w0 rfl) (s_load (v := .slice Ab x.body.length cb) F_o40 (ej rfl rfl) (cell_of_blk (i := 2) (Ext.blk x29 (Ext.blk x10 (Ext.blk x4 (NewB.blk n3)))) rfl) (w0 rfl) (s_move (v := .int .i64 ((k : Nat) : Int)) (ej rfl e34) (w0 rfl) ?_)))))))))
      obtain ⟨b36,o37,x38,csx38,hA39,hx40,hR41,hc42⟩ := Row.at_ hrb k (by omega)
      obtain rfl := ltAt_of hx40
      obtain ⟨Aa43,A44,A45,ca46,c47,c48,rfl,ho49,ra50,r51,r52⟩ := hR41
      have q53_a := Lt.okc.a ho49
      have q53_e1 := Lt.okc.e1 ho49
      have q53_e2 := Lt.okc.e2 ho49
      have := Ex.okc.l q53_e1
      have := Ex.okc.l q53_e2
      have := Ex.okc.c q53_e1
      have := Ex.okc.c q53_e2
      have := At.okc.l q53_a
      have := At.okc.c q53_a
      have := At.okc.p q53_a
      refine s_indexR (j := k) F_l40 (ej rfl rfl) hA39 (ej rfl rfl) rfl (by omega) (w0 rfl) (s_loadL (cs := [.int .i8 ((ltAt x.body k).k),.string ((ltAt x.body k).a.p),.slice Aa43 ((ltAt x.body k).a.args.length) ca46,.int .i8 ((ltAt x.body k).r),.int .i8 ((ltAt x.body k).e1.op),.string ((ltAt x.body k).e1.t.v),.int .i8 ((ltAt x.body k).e1.t.l.k),.int .i64 ((ltAt x.body k).e1.t.l.n),.string ((ltAt x.body k).e1.t.l.s),.slice A44 ((ltAt x.body k).e1.kids.length) c47,.int .i8 ((ltAt x.body k).e2.op),.string ((ltAt x.body k).e2.t.v),.int .i8 ((ltAt x.body k).e2.t.l.k),.int .i64 ((ltAt x.body k).e2.t.l.n),.string ((ltAt x.body k).e2.t.l.s),.slice A45 ((ltAt x.body k).e2.kids.length) c48]) F_m38 (ej rfl rfl) rfl rfl (sub_cells (cells_ext x29 (cells_ext x10 (cells_ext x4 (cells_ext (NewB.ext n3) hc42)))) 0 rfl) (w0 rfl) (s_call F_e72 (w0 rfl) ev_f (m1 (ej rfl rfl)) (args := #[.agg #[.int .i8 ((ltAt x.body k).k),.string ((ltAt x.body k).a.p),.slice Aa43 ((ltAt x.body k).a.args.length) ca46,.int .i8 ((ltAt x.body k).r),.int .i8 ((ltAt x.body k).e1.op),.string ((ltAt x.body k).e1.t.v),.int .i8 ((ltAt x.body k).e1.t.l.k),.int .i64 ((ltAt x.body k).e1.t.l.n),.string ((ltAt x.body k).e1.t.l.s),.slice A44 ((ltAt x.body k).e1.kids.length) c47,.int .i8 ((ltAt x.body k).e2.op),.string ((ltAt x.body k).e2.t.v),.int .i8 ((ltAt x.body k).e2.t.l.k),.int .i64 ((ltAt x.body k).e2.t.l.n),.string ((ltAt x.body k).e2.t.l.s),.slice A45 ((ltAt x.body k).e2.kids.length) c48]]) rfl (r4_literal (ltAt x.body k) Aa43 A44 A45 ca46 c47 c48 _ ho49 (Row.extT (Row.extT (Row.extT (Row.extT ra50 (NewB.ext n3)) x4) x10) x29) (Row.extE (Row.extE (Row.extE (Row.extE r51 (NewB.ext n3)) x4) x10) x29) (Row.extE (Row.extE (Row.extE (Row.extE r52 (NewB.ext n3)) x4) x10) x29)) ?_))
      rintro _ w55 ⟨rfl,x54⟩
      refine s_not (b := ltB (ltAt x.body k)) (ej rfl rfl) (w0 rfl) (c_done (n_then ?_))
      rcases Bool.eq_false_or_eq_true (ltB (ltAt x.body k)) with h56 | h56
      · refine c_cond0 (vb (ej rfl rfl) (nbt h56)) (c_skip (n_block (n_then (c_reg (s_move (v := .int .i64 ((k : Nat) : Int)) (ej rfl e34) (w0 rfl) (s_add (r := ((k + 1 : Nat) : Int)) (ej rfl rfl) ev_c (by omega) (by omega) (w0 rfl) (s_assign (v := .int .i64 ((k + 1 : Nat) : Int)) (ej rfl rfl) (w0 rfl) (c_done ?_))))))))
        exact ⟨(k + 1),_,rfl,⟨(Ext.trans x29 x54),by omega,(kids_step i32 (ltAt_there (by omega)) (by assumption)),e33,rfl⟩,(show x.body.length - (k + 1) < x.body.length - k by omega)⟩
      refine c_cond1 (vb (ej rfl rfl) (nbf h56)) (c_seq (c_reg (s_assign (v := .bool false) ev_c (w0 rfl) (c_done (n_then (c_ret (r_block (r_then (r_then (r_block (r_then ?_)))))))))))
      refine ret1 (v := .bool false) rfl rfl rfl ?_
      refine ⟨_,rfl,?_,(Ext.trans (Ext.trans (Ext.trans (Ext.trans (NewB.ext n3) x4) x10) x29) x54)⟩
      (refine congrArg Value.bool ?_; unfold ruB; (rw [all_no (ltAt_there (l := x.body) (j := k) (by omega)) (by assumption)]; simp only [Bool.and_false,Bool.false_and]; first | done | rfl | (simp only [*]; done)))
    refine c_cond0 (vb (ej rfl rfl) (decide_eq_false h35)) (c_exit (e_then (e_then (e_hit (n_then (c_seq (c_reg (s_loadL (cs := [.string x.p,.slice Ah x.head.length ch,.slice Ab x.body.length cb]) F_m53 (ej rfl e33) rfl rfl (blk_cells (Ext.blk x29 (Ext.blk x10 (Ext.blk x4 (NewB.blk n3)))) 0 rfl) (w0 rfl) ?_))))))))
    have hallb_ : x.body.all ltB = true := all_yes (by omega) i32
    have h24_ : x.head.length ≤ 24 := by omega
    have h16_ : x.body.length ≤ 16 := by omega
    have hbod_ : ∀ (j : Nat) (y : Lt),x.body[j]? = some y → ltB y = true := fun j_ y_ h_ => all_kid hallb_ h_
    refine s_call F_e118 (w0 rfl) ev_f (m1 (ej rfl rfl)) (args := #[.agg #[.string x.p,.slice Ah x.head.length ch,.slice Ab x.body.length cb]]) rfl (r4_RuleVars x Ah Ab ch cb _ ho (Row.extG (Row.extG (Row.extG (Row.extG hrh (NewB.ext n3)) x4) x10) x29) (Row.extL (Row.extL (Row.extL (Row.extL hrb (NewB.ext n3)) x4) x10) x29) h24_ h16_ hbod_) ?_
    rintro _ w59 ⟨A57,c58,rfl,x60⟩
    refine s_lenL F_l106 (ej rfl rfl) (w0 rfl) (s_cmp (r := decide (((rvL x).length : Int) ≤ 24)) (ej rfl rfl) ev_c rfl (w0 rfl) (s_assign (v := .bool (decide (((rvL x).length : Int) ≤ 24))) (ej rfl rfl) (w0 rfl) (c_done (n_then (c_ret (ret1 (v := .bool (decide (((rvL x).length : Int) ≤ 24))) rfl rfl rfl ?_))))))
    refine ⟨_,rfl,?_,(Ext.trans (Ext.trans (Ext.trans (Ext.trans (NewB.ext n3) x4) x10) x29) x60)⟩
    (refine congrArg Value.bool ?_; unfold ruB; (rw [show decide ((x.head.length : Int) ≤ 24) = true from decide_eq_true (by omega),show decide ((x.body.length : Int) ≤ 16) = true from decide_eq_true (by omega)]; ((try simp only [*,decide_true,decide_false,if_true,if_false,Bool.and_true,Bool.true_and,Bool.false_and,Bool.and_false,Bool.not_true,Bool.not_false,Bool.false_eq_true,reduceIte,not_true_eq_false,not_false_eq_true]); first | done | rfl); done))
  refine s_move (v := .bool true) (vb (ej rfl rfl) (nbf h6)) (w0 rfl) (s_skip (wn rfl rfl rfl rfl rfl) (s_skip (wn rfl rfl rfl rfl rfl) (s_skip (wn rfl rfl rfl rfl rfl) (s_skip (wn rfl rfl rfl rfl rfl) (s_pick1 (v := .bool true) (ej rfl rfl) ev_c (w0 rfl) (s_move (v := .bool true) (ej rfl rfl) (w0 rfl) (s_skip (wn rfl rfl rfl rfl rfl) (s_skip (wn rfl rfl rfl rfl rfl) (s_skip (wn rfl rfl rfl rfl rfl) (s_skip (wn rfl rfl rfl rfl rfl) (s_pick1 (v := .bool true) (ej rfl rfl) ev_c (w0 rfl) ?_)))))))))))
  refine c_done (n_then (c_cond1 (ej rfl rfl) (c_seq (c_reg (s_assign (v := .bool false) ev_c (w0 rfl) (c_done (n_then (c_ret (r_then (ret1 (v := .bool false) rfl rfl rfl ?_))))))))))
  refine ⟨_,rfl,?_,(Ext.trans (NewB.ext n3) x4)⟩
  (refine congrArg Value.bool ?_; unfold ruB; (((try simp only [*,decide_true,decide_false,if_true,if_false,Bool.and_true,Bool.true_and,Bool.false_and,Bool.and_false,Bool.not_true,Bool.not_false,Bool.false_eq_true,reduceIte,not_true_eq_false,not_false_eq_true]); first | done | rfl); done))
theorem r4_CheckRule (x : Ru) (Ah Ab : Option Addr) (ch cb : Nat) (w : World) (ho : x.okc ch cb) (hrh : Row RG 5 w Ah x.head) (hrb : Row RL 16 w Ab x.body) :
    Rt Tryz.prog 46 #[.agg #[.string x.p,.slice Ah x.head.length ch,.slice Ab x.body.length cb]] w fun v w' => v = .int .i64 (code (ruB x)) ∧ Ext w w' := by
  refine enter Tryz.func46 rfl (l := [.agg #[.string x.p,.slice Ah x.head.length ch,.slice Ab x.body.length cb]]) rfl Tryz.ntmps46 (Nat.le_of_ble_eq_true rfl) ?_
  have hpr_ := Ru.okc.p ho
  have hhl_ := Ru.okc.hl ho
  have hhc_ := Ru.okc.hc ho
  have hbl_ := Ru.okc.bl ho
  have hbc_ := Ru.okc.bc ho
  refine c_seq (c_reg (s_box (v := .agg #[.string x.p,.slice Ah x.head.length ch,.slice Ab x.body.length cb]) (cs := #[.string x.p,.slice Ah x.head.length ch,.slice Ab x.body.length cb]) (w0 rfl) (ej rfl rfl) rfl ?_))
  intro w2 g1 n3
  refine s_assign (v := .int .i64 0) ev_c (w0 rfl) (c_done (n_then (c_seq (c_reg (s_loadL (cs := [.string x.p,.slice Ah x.head.length ch,.slice Ab x.body.length cb]) F_m53 (ej rfl rfl) rfl rfl (blk_cells (NewB.blk n3) 0 rfl) (w0 rfl) (s_call F_e87 (w0 rfl) ev_f (m1 (ej rfl rfl)) (args := #[.agg #[.string x.p,.slice Ah x.head.length ch,.slice Ab x.body.length cb]]) rfl (r4_rule x Ah Ab ch cb _ ho (Row.extG hrh (NewB.ext n3)) (Row.extL hrb (NewB.ext n3))) ?_))))))
  rintro _ w5 ⟨rfl,x4⟩
  refine s_call F_e60 (w0 rfl) ev_f (m1 (ej rfl rfl)) (args := #[.bool (ruB x)]) rfl (r4_said (ruB x) _) ?_
  rintro _ w7 ⟨rfl,x6⟩
  refine s_assign (v := .int .i64 (code (ruB x))) (ej rfl rfl) (w0 rfl) (c_done (n_then (c_ret (ret1 (v := .int .i64 (code (ruB x))) rfl rfl rfl ?_))))
  refine ⟨_,rfl,?_,(Ext.trans (Ext.trans (NewB.ext n3) x4) x6)⟩
  rfl
theorem t_CheckRule (x : Ru) (Ah Ab : Option Addr) (ch cb : Nat) (w : World) (ho : x.okc ch cb) (hrh : Row RG 5 w Ah x.head) (hrb : Row RL 16 w Ab x.body) :
    Rt Tryz.prog 49 #[.agg #[.string x.p,.slice Ah x.head.length ch,.slice Ab x.body.length cb]] w fun v w' => v = .int .i64 (code (ruB x)) ∧ Ext w w' := by
  refine enter Tryz.func49 rfl (l := [.agg #[.string x.p,.slice Ah x.head.length ch,.slice Ab x.body.length cb]]) rfl Tryz.ntmps49 (Nat.le_of_ble_eq_true rfl) ?_
  have hpr_ := Ru.okc.p ho
  have hhl_ := Ru.okc.hl ho
  have hhc_ := Ru.okc.hc ho
  have hbl_ := Ru.okc.bl ho
  have hbc_ := Ru.okc.bc ho
  refine c_seq (c_reg (s_box (v := .agg #[.string x.p,.slice Ah x.head.length ch,.slice Ab x.body.length cb]) (cs := #[.string x.p,.slice Ah x.head.length ch,.slice Ab x.body.length cb]) (w0 rfl) (ej rfl rfl) rfl ?_))
  intro w2 g1 n3
  refine s_assign (v := .int .i64 0) ev_c (w0 rfl) (c_done (n_then (c_seq (c_seq (c_reg (s_field (off := 0) (o' := 0) F_f53_0 (ej rfl rfl) rfl (w0 rfl) (s_load (v := .string x.p) F_o9 (ej rfl rfl) (cell_of_blk (i := 0) (NewB.blk n3) rfl) (w0 rfl) (s_call F_e65 (w0 rfl) ev_f (m1 (ej rfl rfl)) (args := #[.string x.p]) rfl (t_name x.p _ (by omega)) ?_))))))))
  rintro _ w5 ⟨rfl,x4⟩
  refine s_not (b := nameB x.p) (ej rfl rfl) (w0 rfl) ?_
  rcases Bool.eq_false_or_eq_true (nameB x.p) with h6 | h6
  · refine s_move (v := .bool false) (vb (ej rfl rfl) (nbt h6)) (w0 rfl) (s_field (off := 1) (o' := 1) F_f53_1 (ej rfl rfl) rfl (wy rfl rfl rfl rfl) (s_load (v := .slice Ah x.head.length ch) F_o51 (ej rfl rfl) (cell_of_blk (i := 1) (Ext.blk x4 (NewB.blk n3)) rfl) (wy rfl rfl rfl rfl) (s_lenL F_l51 (ej rfl rfl) (wy rfl rfl rfl rfl) (s_cmp (r := decide (24 < (x.head.length : Int))) (ej rfl rfl) ev_c rfl (wy rfl rfl rfl rfl) (s_pick0 (v := .bool (decide (24 < (x.head.length : Int)))) (ej rfl rfl) (ej rfl rfl) (w0 rfl) ?_)))))
    by_cases h7 : 24 < (x.head.length : Int)
    · refine s_move (v := .bool true) (vb (ej rfl rfl) (decide_eq_true h7)) (w0 rfl) (s_skip (wn rfl rfl rfl rfl rfl) (s_skip (wn rfl rfl rfl rfl rfl) (s_skip (wn rfl rfl rfl rfl rfl) (s_skip (wn rfl rfl rfl rfl rfl) (s_pick1 (v := .bool true) (ej rfl rfl) ev_c (w0 rfl) (c_done (n_then (c_cond1 (ej rfl rfl) (c_seq (c_reg (s_assign (v := .int .i64 40) ev_c (w0 rfl) ?_)))))))))))
      refine c_done (n_then (c_ret (r_then (ret1 (v := .int .i64 40) rfl rfl rfl ?_))))
      refine ⟨_,rfl,?_,(Ext.trans (NewB.ext n3) x4)⟩
      (refine congrArg (Value.int .i64) ?_; unfold ruB; (rw [show decide ((x.head.length : Int) ≤ 24) = false from decide_eq_false (by omega)]; simp only [Bool.and_false,Bool.false_and]; first | done | rfl | (simp only [*]; done)))
    refine s_move (v := .bool false) (vb (ej rfl rfl) (decide_eq_false h7)) (w0 rfl) (s_field (off := 2) (o' := 2) F_f53_2 (ej rfl rfl) rfl (wy rfl rfl rfl rfl) (s_load (v := .slice Ab x.body.length cb) F_o40 (ej rfl rfl) (cell_of_blk (i := 2) (Ext.blk x4 (NewB.blk n3)) rfl) (wy rfl rfl rfl rfl) (s_lenL F_l40 (ej rfl rfl) (wy rfl rfl rfl rfl) (s_cmp (r := decide (16 < (x.body.length : Int))) (ej rfl rfl) ev_c rfl (wy rfl rfl rfl rfl) (s_pick0 (v := .bool (decide (16 < (x.body.length : Int)))) (ej rfl rfl) (ej rfl rfl) (w0 rfl) (c_done (n_then ?_)))))))
    by_cases h8 : 16 < (x.body.length : Int)
    · refine c_cond1 (vb (ej rfl rfl) (decide_eq_true h8)) (c_seq (c_reg (s_assign (v := .int .i64 40) ev_c (w0 rfl) (c_done (n_then (c_ret (r_then (ret1 (v := .int .i64 40) rfl rfl rfl ?_))))))))
      refine ⟨_,rfl,?_,(Ext.trans (NewB.ext n3) x4)⟩
      (refine congrArg (Value.int .i64) ?_; unfold ruB; (rw [show decide ((x.body.length : Int) ≤ 16) = false from decide_eq_false (by omega)]; simp only [Bool.and_false,Bool.false_and]; first | done | rfl | (simp only [*]; done)))
    refine c_cond0 (vb (ej rfl rfl) (decide_eq_false h8)) (c_skip (n_then (c_seq (c_seq (c_reg (s_field (off := 1) (o' := 1) F_f53_1 (ej rfl rfl) rfl (w0 rfl) (s_load (v := .slice Ah x.head.length ch) F_o51 (ej rfl rfl) (cell_of_blk (i := 1) (Ext.blk x4 (NewB.blk n3)) rfl) (w0 rfl) (s_lenL F_l51 (ej rfl rfl) (w0 rfl) (s_move (v := .int .i64 0) ev_c (w0 rfl) (c_done (n_then ?_)))))))))))
    refine c_block ?_
    refine c_loop (α := Nat) (fun (i : Nat) env_ w_ => Ext w5 w_ ∧ i ≤ x.head.length ∧ (∀ j y,j < i → x.head[j]? = some y → argB y = true) ∧ env_ 1 = .pointer (some ⟨g1,0,none⟩) ∧ env_ 25 = .slice Ah x.head.length ch ∧ env_ 26 = .int .i64 (x.head.length : Int) ∧ env_ 27 = .int .i64 ((i : Nat) : Int)) (fun i => x.head.length - i) (0) ⟨Ext.refl _,Nat.zero_le _,(fun j y h => absurd h (Nat.not_lt_zero j)),rfl,rfl,rfl,rfl⟩ ?_
    rintro i env11 w9 ⟨x10,i12,i13,e14,e15,e16,e17⟩
    refine c_seq (c_reg (s_cmp (r := decide (((i : Nat) : Int) < (x.head.length : Int))) (ej rfl e17) (ej rfl e16) rfl (w0 rfl) (c_done (n_then (c_seq ?_)))))
    by_cases h18 : ((i : Nat) : Int) < (x.head.length : Int)
    · refine c_cond1 (vb (ej rfl rfl) (decide_eq_true h18)) (c_skip (n_then (c_seq (c_block (c_seq (c_reg ?_))))))
      obtain ⟨b19,o20,x21,csx21,hA22,hx23,hR24,hc25⟩ := Row.at_ hrh i (by omega)
      obtain rfl := agAt_of hx23
      obtain ⟨rfl,wf26⟩ := hR24
      refine s_indexR (j := i) F_l51 (ej rfl e15) hA22 (ej rfl e17) rfl (by omega) (w0 rfl) (s_loadL (cs := [.int .i8 ((agAt x.head i).k),.string ((agAt x.head i).t.v),.int .i8 ((agAt x.head i).t.l.k),.int .i64 ((agAt x.head i).t.l.n),.string ((agAt x.head i).t.l.s)]) F_m129 (ej rfl rfl) rfl rfl (sub_cells (cells_ext x10 (cells_ext x4 (cells_ext (NewB.ext n3) hc25))) 0 rfl) (w0 rfl) (s_alloc (cs := #[.int .i8 0,.string (⟨#[]⟩ : ByteArray),.int .i8 0,.int .i64 0,.string (⟨#[]⟩ : ByteArray)]) (w0 rfl) F_z129 rfl ?_))
      intro w28 g27 n29
      refine s_store (cs' := #[.int .i8 ((agAt x.head i).k),.string ((agAt x.head i).t.v),.int .i8 ((agAt x.head i).t.l.k),.int .i64 ((agAt x.head i).t.l.n),.string ((agAt x.head i).t.l.s)]) F_sz129 (ej rfl rfl) (ej rfl rfl) (l := [.int .i8 ((agAt x.head i).k),.string ((agAt x.head i).t.v),.int .i8 ((agAt x.head i).t.l.k),.int .i64 ((agAt x.head i).t.l.n),.string ((agAt x.head i).t.l.s)]) rfl rfl rfl (NewB.blk n29) (Nat.le_of_ble_eq_true rfl) rfl (w0 rfl) ?_
      intro w30 k31
      refine c_done (n_then (c_seq (c_reg (s_loadL (cs := [.int .i8 ((agAt x.head i).k),.string ((agAt x.head i).t.v),.int .i8 ((agAt x.head i).t.l.k),.int .i64 ((agAt x.head i).t.l.n),.string ((agAt x.head i).t.l.s)]) F_m129 (ej rfl rfl) rfl rfl (blk_cells (Wrote.blk k31) 0 rfl) (w0 rfl) (s_call F_e89 (w0 rfl) ev_f (m1 (ej rfl rfl)) (args := #[.agg #[.int .i8 ((agAt x.head i).k),.string ((agAt x.head i).t.v),.int .i8 ((agAt x.head i).t.l.k),.int .i64 ((agAt x.head i).t.l.n),.string ((agAt x.head i).t.l.s)]]) rfl (t_argument (agAt x.head i) _ wf26) ?_)))))
      rintro _ w33 ⟨rfl,x32⟩
      refine s_not (b := argB (agAt x.head i)) (ej rfl rfl) (w0 rfl) (c_done (n_then ?_))
      rcases Bool.eq_false_or_eq_true (argB (agAt x.head i)) with h34 | h34
      · refine c_cond0 (vb (ej rfl rfl) (nbt h34)) (c_skip (n_block (n_then (c_reg (s_add (r := ((i + 1 : Nat) : Int)) (ej rfl e17) ev_c (by omega) (by omega) (w0 rfl) (s_move (v := .int .i64 ((i + 1 : Nat) : Int)) (ej rfl rfl) (w0 rfl) (c_done ?_)))))))
        exact ⟨(i + 1),_,rfl,⟨(Ext.trans (Keep.then_ (Ext.trans x10 (NewB.ext n29)) (Wrote.keep k31) (fun i_ hi_ h_ => by have a_ := NewB.eq n29; have b_ := Keep.size x10; omega)) x32),by omega,(kids_step i13 (agAt_there (by omega)) (by assumption)),e14,e15,e16,rfl⟩,(show x.head.length - (i + 1) < x.head.length - i by omega)⟩
      refine c_cond1 (vb (ej rfl rfl) (nbf h34)) (c_seq (c_reg (s_assign (v := .int .i64 40) ev_c (w0 rfl) (c_done (n_then (c_ret (r_block (r_then (r_then (r_block (r_then ?_)))))))))))
      refine ret1 (v := .int .i64 40) rfl rfl rfl ?_
      refine ⟨_,rfl,?_,(Ext.trans (Keep.then_ (Ext.trans (Ext.trans (Ext.trans (NewB.ext n3) x4) x10) (NewB.ext n29)) (Wrote.keep k31) (fun i_ hi_ h_ => by have a_ := NewB.eq n29; have b_ := Keep.size (Ext.trans (Ext.trans (NewB.ext n3) x4) x10); omega)) x32)⟩
      (refine congrArg (Value.int .i64) ?_; unfold ruB; (rw [all_no (agAt_there (l := x.head) (j := i) (by omega)) (by assumption)]; simp only [Bool.and_false,Bool.false_and]; first | done | rfl | (simp only [*]; done)))
    refine c_cond0 (vb (ej rfl rfl) (decide_eq_false h18)) (c_exit (e_then (e_then (e_hit (n_then (c_seq (c_seq (c_reg (s_field (off := 2) (o' := 2) F_f53_2 (ej rfl e14) rfl (w0 rfl) (s_load (v := .slice Ab x.body.length cb) F_o40 (ej rfl rfl) (cell_of_blk (i := 2) (Ext.blk x10 (Ext.blk x4 (NewB.blk n3))) rfl) (w0 rfl) (s_lenL F_l40 (ej rfl rfl) (w0 rfl) ?_)))))))))))
    refine s_move (v := .int .i64 0) ev_c (w0 rfl) (c_done (n_then (c_block ?_)))
    have hall_ : x.head.all argB = true := all_yes (by omega) i13
    refine c_loop (α := Nat) (fun (k : Nat) env_ w_ => Ext w9 w_ ∧ k ≤ x.body.length ∧ (∀ j y,j < k → x.body[j]? = some y → ltB y = true) ∧ env_ 1 = .pointer (some ⟨g1,0,none⟩) ∧ env_ 36 = .slice Ab x.body.length cb ∧ env_ 37 = .int .i64 (x.body.length : Int) ∧ env_ 38 = .int .i64 ((k : Nat) : Int)) (fun k => x.body.length - k) (0) ⟨Ext.refl _,Nat.zero_le _,(fun j y h => absurd h (Nat.not_lt_zero j)),e14,rfl,rfl,rfl⟩ ?_
    rintro k env37 w35 ⟨x36,i38,i39,e40,e41,e42,e43⟩
    refine c_seq (c_reg (s_cmp (r := decide (((k : Nat) : Int) < (x.body.length : Int))) (ej rfl e43) (ej rfl e42) rfl (w0 rfl) (c_done (n_then (c_seq ?_)))))
    by_cases h44 : ((k : Nat) : Int) < (x.body.length : Int)
    · refine c_cond1 (vb (ej rfl rfl) (decide_eq_true h44)) (c_skip (n_then (c_seq (c_block (c_seq (c_reg ?_))))))
      obtain ⟨b45,o46,x47,csx47,hA48,hx49,hR50,hc51⟩ := Row.at_ hrb k (by omega)
      obtain rfl := ltAt_of hx49
      obtain ⟨Aa52,A53,A54,ca55,c56,c57,rfl,ho58,ra59,r60,r61⟩ := hR50
      have q62_a := Lt.okc.a ho58
      have q62_e1 := Lt.okc.e1 ho58
      have q62_e2 := Lt.okc.e2 ho58
      have := Ex.okc.l q62_e1
      have := Ex.okc.l q62_e2
      have := Ex.okc.c q62_e1
      have := Ex.okc.c q62_e2
      have := At.okc.l q62_a
      have := At.okc.c q62_a
      have := At.okc.p q62_a
      refine s_indexR (j := k) F_l40 (ej rfl e41) hA48 (ej rfl e43) rfl (by omega) (w0 rfl) (s_loadL (cs := [.int .i8 ((ltAt x.body k).k),.string ((ltAt x.body k).a.p),.slice Aa52 ((ltAt x.body k).a.args.length) ca55,.int .i8 ((ltAt x.body k).r),.int .i8 ((ltAt x.body k).e1.op),.string ((ltAt x.body k).e1.t.v),.int .i8 ((ltAt x.body k).e1.t.l.k),.int .i64 ((ltAt x.body k).e1.t.l.n),.string ((ltAt x.body k).e1.t.l.s),.slice A53 ((ltAt x.body k).e1.kids.length) c56,.int .i8 ((ltAt x.body k).e2.op),.string ((ltAt x.body k).e2.t.v),.int .i8 ((ltAt x.body k).e2.t.l.k),.int .i64 ((ltAt x.body k).e2.t.l.n),.string ((ltAt x.body k).e2.t.l.s),.slice A54 ((ltAt x.body k).e2.kids.length) c57]) F_m38 (ej rfl rfl) rfl rfl (sub_cells (cells_ext x36 (cells_ext x10 (cells_ext x4 (cells_ext (NewB.ext n3) hc51)))) 0 rfl) (w0 rfl) (s_alloc (cs := #[.int .i8 0,.string (⟨#[]⟩ : ByteArray),.slice none 0 0,.int .i8 0,.int .i8 0,.string (⟨#[]⟩ : ByteArray),.int .i8 0,.int .i64 0,.string (⟨#[]⟩ : ByteArray),.slice none 0 0,.int .i8 0,.string (⟨#[]⟩ : ByteArray),.int .i8 0,.int .i64 0,.string (⟨#[]⟩ : ByteArray),.slice none 0 0]) (w0 rfl) F_z38 rfl ?_))
      intro w64 g63 n65
      refine s_store (cs' := #[.int .i8 ((ltAt x.body k).k),.string ((ltAt x.body k).a.p),.slice Aa52 ((ltAt x.body k).a.args.length) ca55,.int .i8 ((ltAt x.body k).r),.int .i8 ((ltAt x.body k).e1.op),.string ((ltAt x.body k).e1.t.v),.int .i8 ((ltAt x.body k).e1.t.l.k),.int .i64 ((ltAt x.body k).e1.t.l.n),.string ((ltAt x.body k).e1.t.l.s),.slice A53 ((ltAt x.body k).e1.kids.length) c56,.int .i8 ((ltAt x.body k).e2.op),.string ((ltAt x.body k).e2.t.v),.int .i8 ((ltAt x.body k).e2.t.l.k),.int .i64 ((ltAt x.body k).e2.t.l.n),.string ((ltAt x.body k).e2.t.l.s),.slice A54 ((ltAt x.body k).e2.kids.length) c57]) F_sz38 (ej rfl rfl) (ej rfl rfl) (l := [.int .i8 ((ltAt x.body k).k),.string ((ltAt x.body k).a.p),.slice Aa52 ((ltAt x.body k).a.args.length) ca55,.int .i8 ((ltAt x.body k).r),.int .i8 ((ltAt x.body k).e1.op),.string ((ltAt x.body k).e1.t.v),.int .i8 ((ltAt x.body k).e1.t.l.k),.int .i64 ((ltAt x.body k).e1.t.l.n),.string ((ltAt x.body k).e1.t.l.s),.slice A53 ((ltAt x.body k).e1.kids.length) c56,.int .i8 ((ltAt x.body k).e2.op),.string ((ltAt x.body k).e2.t.v),.int .i8 ((ltAt x.body k).e2.t.l.k),.int .i64 ((ltAt x.body k).e2.t.l.n),.string ((ltAt x.body k).e2.t.l.s),.slice A54 ((ltAt x.body k).e2.kids.length) c57]) rfl rfl rfl (NewB.blk n65) (Nat.le_of_ble_eq_true rfl) rfl (w0 rfl) ?_
      intro w66 k67
      refine c_done (n_then (c_seq (c_reg (s_loadL (cs := [.int .i8 ((ltAt x.body k).k),.string ((ltAt x.body k).a.p),.slice Aa52 ((ltAt x.body k).a.args.length) ca55,.int .i8 ((ltAt x.body k).r),.int .i8 ((ltAt x.body k).e1.op),.string ((ltAt x.body k).e1.t.v),.int .i8 ((ltAt x.body k).e1.t.l.k),.int .i64 ((ltAt x.body k).e1.t.l.n),.string ((ltAt x.body k).e1.t.l.s),.slice A53 ((ltAt x.body k).e1.kids.length) c56,.int .i8 ((ltAt x.body k).e2.op),.string ((ltAt x.body k).e2.t.v),.int .i8 ((ltAt x.body k).e2.t.l.k),.int .i64 ((ltAt x.body k).e2.t.l.n),.string ((ltAt x.body k).e2.t.l.s),.slice A54 ((ltAt x.body k).e2.kids.length) c57]) F_m38 (ej rfl rfl) rfl rfl (blk_cells (Wrote.blk k67) 0 rfl) (w0 rfl) (s_call F_e39 (w0 rfl) ev_f (m1 (ej rfl rfl)) (args := #[.agg #[.int .i8 ((ltAt x.body k).k),.string ((ltAt x.body k).a.p),.slice Aa52 ((ltAt x.body k).a.args.length) ca55,.int .i8 ((ltAt x.body k).r),.int .i8 ((ltAt x.body k).e1.op),.string ((ltAt x.body k).e1.t.v),.int .i8 ((ltAt x.body k).e1.t.l.k),.int .i64 ((ltAt x.body k).e1.t.l.n),.string ((ltAt x.body k).e1.t.l.s),.slice A53 ((ltAt x.body k).e1.kids.length) c56,.int .i8 ((ltAt x.body k).e2.op),.string ((ltAt x.body k).e2.t.v),.int .i8 ((ltAt x.body k).e2.t.l.k),.int .i64 ((ltAt x.body k).e2.t.l.n),.string ((ltAt x.body k).e2.t.l.s),.slice A54 ((ltAt x.body k).e2.kids.length) c57]]) rfl (t_CheckLiteral (ltAt x.body k) Aa52 A53 A54 ca55 c56 c57 _ ho58 (Row.extT ra59 (Keep.then_ (Ext.trans (Ext.trans (Ext.trans (Ext.trans (NewB.ext n3) x4) x10) x36) (NewB.ext n65)) (Wrote.keep k67) (fun i_ hi_ h_ => by have a_ := NewB.eq n65; have b_ := Keep.size (Ext.trans (Ext.trans (Ext.trans (NewB.ext n3) x4) x10) x36); omega))) (Row.extE r60 (Keep.then_ (Ext.trans (Ext.trans (Ext.trans (Ext.trans (NewB.ext n3) x4) x10) x36) (NewB.ext n65)) (Wrote.keep k67) (fun i_ hi_ h_ => by have a_ := NewB.eq n65; have b_ := Keep.size (Ext.trans (Ext.trans (Ext.trans (NewB.ext n3) x4) x10) x36); omega))) (Row.extE r61 (Keep.then_ (Ext.trans (Ext.trans (Ext.trans (Ext.trans (NewB.ext n3) x4) x10) x36) (NewB.ext n65)) (Wrote.keep k67) (fun i_ hi_ h_ => by have a_ := NewB.eq n65; have b_ := Keep.size (Ext.trans (Ext.trans (Ext.trans (NewB.ext n3) x4) x10) x36); omega)))) ?_)))))
      rintro _ w69 ⟨rfl,x68⟩
      refine s_assign (v := .int .i64 (code (ltB (ltAt x.body k)))) (ej rfl rfl) (w0 rfl) (c_done (n_then (c_seq (c_reg (s_move (v := .int .i64 (code (ltB (ltAt x.body k)))) (ej rfl rfl) (w0 rfl) (s_cmp (r := !(ltB (ltAt x.body k))) (ej rfl rfl) ev_c (ci_tn (b := (ltB (ltAt x.body k))) (by decide)) (w0 rfl) (c_done (n_then ?_))))))))
      rcases Bool.eq_false_or_eq_true (ltB (ltAt x.body k)) with h70 | h70
      · refine c_cond0 (vb (ej rfl rfl) (nbt h70)) (c_skip (n_block (n_then (c_reg (s_add (r := ((k + 1 : Nat) : Int)) (ej rfl e43) ev_c (by omega) (by omega) (w0 rfl) (s_move (v := .int .i64 ((k + 1 : Nat) : Int)) (ej rfl rfl) (w0 rfl) (c_done ?_)))))))
        exact ⟨(k + 1),_,rfl,⟨(Ext.trans (Keep.then_ (Ext.trans x36 (NewB.ext n65)) (Wrote.keep k67) (fun i_ hi_ h_ => by have a_ := NewB.eq n65; have b_ := Keep.size x36; omega)) x68),by omega,(kids_step i39 (ltAt_there (by omega)) (by assumption)),e40,e41,e42,rfl⟩,(show x.body.length - (k + 1) < x.body.length - k by omega)⟩
      refine c_cond1 (vb (ej rfl rfl) (nbf h70)) (c_seq (c_reg (s_move (v := .int .i64 (code (ltB (ltAt x.body k)))) (ej rfl rfl) (w0 rfl) (s_assign (v := .int .i64 (code (ltB (ltAt x.body k)))) (ej rfl rfl) (w0 rfl) (c_done (n_then (c_ret (r_block (r_then (r_then (r_block ?_)))))))))))
      refine r_then (ret1 (v := .int .i64 (code (ltB (ltAt x.body k)))) rfl rfl rfl ?_)
      refine ⟨_,rfl,?_,(Ext.trans (Keep.then_ (Ext.trans (Ext.trans (Ext.trans (Ext.trans (NewB.ext n3) x4) x10) x36) (NewB.ext n65)) (Wrote.keep k67) (fun i_ hi_ h_ => by have a_ := NewB.eq n65; have b_ := Keep.size (Ext.trans (Ext.trans (Ext.trans (NewB.ext n3) x4) x10) x36); omega)) x68)⟩
      (refine congrArg (Value.int .i64) ?_; unfold ruB; (rw [all_no (ltAt_there (l := x.body) (j := k) (by omega)) (by assumption)]; simp only [Bool.and_false,Bool.false_and]; first | done | rfl | (simp only [*]; done)))
    refine c_cond0 (vb (ej rfl rfl) (decide_eq_false h44)) (c_exit (e_then (e_then (e_hit (n_then (c_seq (c_reg (s_loadL (cs := [.string x.p,.slice Ah x.head.length ch,.slice Ab x.body.length cb]) F_m53 (ej rfl e40) rfl rfl (blk_cells (Ext.blk x36 (Ext.blk x10 (Ext.blk x4 (NewB.blk n3)))) 0 rfl) (w0 rfl) ?_))))))))
    have hallb_ : x.body.all ltB = true := all_yes (by omega) i39
    have h24_ : x.head.length ≤ 24 := by omega
    have h16_ : x.body.length ≤ 16 := by omega
    have hbod_ : ∀ (j : Nat) (y : Lt),x.body[j]? = some y → ltB y = true := fun j_ y_ h_ => all_kid hallb_ h_
    refine s_call F_e90 (w0 rfl) ev_f (m1 (ej rfl rfl)) (args := #[.agg #[.string x.p,.slice Ah x.head.length ch,.slice Ab x.body.length cb]]) rfl (t_RuleVars x Ah Ab ch cb _ ho (Row.extG (Row.extG (Row.extG (Row.extG hrh (NewB.ext n3)) x4) x10) x36) (Row.extL (Row.extL (Row.extL (Row.extL hrb (NewB.ext n3)) x4) x10) x36) h24_ h16_ hbod_) ?_
    rintro _ w73 ⟨A71,c72,rfl,x74⟩
    refine s_lenL F_l106 (ej rfl rfl) (w0 rfl) (s_cmp (r := decide (((rvL x).length : Int) ≤ 24)) (ej rfl rfl) ev_c rfl (w0 rfl) (s_call F_e64 (w0 rfl) ev_f (m1 (ej rfl rfl)) (args := #[.bool (decide (((rvL x).length : Int) ≤ 24))]) rfl (t_code (decide (((rvL x).length : Int) ≤ 24)) _) ?_))
    rintro _ w76 ⟨rfl,x75⟩
    refine s_assign (v := .int .i64 (code (decide (((rvL x).length : Int) ≤ 24)))) (ej rfl rfl) (w0 rfl) (c_done (n_then (c_ret (ret1 (v := .int .i64 (code (decide (((rvL x).length : Int) ≤ 24)))) rfl rfl rfl ?_))))
    refine ⟨_,rfl,?_,(Ext.trans (Ext.trans (Ext.trans (Ext.trans (Ext.trans (NewB.ext n3) x4) x10) x36) x74) x75)⟩
    (refine congrArg (Value.int .i64) ?_; unfold ruB; (rw [show decide ((x.head.length : Int) ≤ 24) = true from decide_eq_true (by omega),show decide ((x.body.length : Int) ≤ 16) = true from decide_eq_true (by omega)]; ((try simp only [*,decide_true,decide_false,if_true,if_false,Bool.and_true,Bool.true_and,Bool.false_and,Bool.and_false,Bool.not_true,Bool.not_false,Bool.false_eq_true,reduceIte,not_true_eq_false,not_false_eq_true]); first | done | rfl); done))
  refine s_move (v := .bool true) (vb (ej rfl rfl) (nbf h6)) (w0 rfl) (s_skip (wn rfl rfl rfl rfl rfl) (s_skip (wn rfl rfl rfl rfl rfl) (s_skip (wn rfl rfl rfl rfl rfl) (s_skip (wn rfl rfl rfl rfl rfl) (s_pick1 (v := .bool true) (ej rfl rfl) ev_c (w0 rfl) (s_move (v := .bool true) (ej rfl rfl) (w0 rfl) (s_skip (wn rfl rfl rfl rfl rfl) (s_skip (wn rfl rfl rfl rfl rfl) (s_skip (wn rfl rfl rfl rfl rfl) (s_skip (wn rfl rfl rfl rfl rfl) (s_pick1 (v := .bool true) (ej rfl rfl) ev_c (w0 rfl) ?_)))))))))))
  refine c_done (n_then (c_cond1 (ej rfl rfl) (c_seq (c_reg (s_assign (v := .int .i64 40) ev_c (w0 rfl) (c_done (n_then (c_ret (r_then (ret1 (v := .int .i64 40) rfl rfl rfl ?_))))))))))
  refine ⟨_,rfl,?_,(Ext.trans (NewB.ext n3) x4)⟩
  (refine congrArg (Value.int .i64) ?_; unfold ruB; (((try simp only [*,decide_true,decide_false,if_true,if_false,Bool.and_true,Bool.true_and,Bool.false_and,Bool.and_false,Bool.not_true,Bool.not_false,Bool.false_eq_true,reduceIte,not_true_eq_false,not_false_eq_true]); first | done | rfl); done))
end Go.Proofs.Zw

set_option linter.unusedVariables false
set_option linter.unusedSimpArgs false
namespace Go.Wk
open Go Go.RowKit Go.Lib
/-! ### texts of rules: sizes; the table of folds -/
theorem z7 {a b c e f g h : UInt8} : (⟨#[a,b,c,e,f,g,h]⟩ : ByteArray).size = 7 := rfl
def FoldT (P : Program) (w : World) : Prop := w.var? P "pedigree/print.folds" = some #[.string ⟨#[]⟩, .string ⟨#[]⟩, .string ⟨#[115, 117, 109]⟩, .string ⟨#[109, 105, 110]⟩, .string ⟨#[109, 97, 120]⟩]
theorem FoldT.ext {P : Program} {w w' : World} (h : FoldT P w) (k : Ext w w') : FoldT P w' := var_ext h k
theorem FoldT.at_ {P : Program} {w : World} {g : Nat} {op : Int} (h : FoldT P w) (hg : P.globalNamed "pedigree/print.folds" = some g) (ho : 0 ≤ op ∧ op ≤ 4) : w.cell? ⟨g, 0 + op.toNat * 1, none⟩ = some (.string (foldB op)) := by
  refine var_cell h hg ?_
  have : op = 0 ∨ op = 1 ∨ op = 2 ∨ op = 3 ∨ op = 4 := by omega
  rcases this with rfl | rfl | rfl | rfl | rfl <;> rfl
theorem arg_kinds {x : Ag} (h : argB x = true) : 0 ≤ x.k ∧ x.k ≤ 4 := by
  unfold argB at h
  split at h
  · omega
  · split at h
    · omega
    · split at h
      · omega
      · cases h
theorem arg_term {x : Ag} (h : argB x = true) (h0 : x.k = 0) : tmB x.t = true := by
  unfold argB at h; rw [if_pos h0] at h
  simp only [Bool.and_eq_true] at h; exact h.2
theorem arg_var {x : Ag} (h : argB x = true) (h0 : x.k = 2 ∨ x.k = 3 ∨ x.k = 4) : ¬ x.t.v = ⟨#[]⟩ ∧ tmB x.t = true := by
  unfold argB at h; rw [if_neg (by omega),if_neg (by omega),if_pos h0] at h
  simp only [Bool.and_eq_true,Bool.not_eq_true',decide_eq_false_iff_not] at h; exact ⟨h.1,h.2.2⟩
theorem arg_vsize {x : Ag} (h : argB x = true) (hx : x.wf) (h0 : x.k = 2 ∨ x.k = 3 ∨ x.k = 4) : x.t.v.size ≤ 802 := by
  obtain ⟨h1,h2⟩ := arg_var h h0
  have := termW_size h2 hx.t
  unfold termW at this
  rwa [if_neg h1] at this
theorem foldB_size (k : Int) : (foldB k).size ≤ 3 := by unfold foldB; (repeat' split) <;> decide
theorem argW_size {x : Ag} (h : argB x = true) (hx : x.wf) : (argW x).size ≤ 900 := by
  unfold argW
  split
  · decide
  · split
    · rename_i h0
      have := arg_vsize h hx h0
      have := foldB_size x.k
      simp only [ByteArray.size_append,z1]; omega
    · rename_i h1 h2
      have := arg_kinds h
      have := termW_size (arg_term h (by omega)) hx.t
      omega
theorem RG_wf {w : World} {A : Option Addr} {l : List Ag} {m i : Nat} (h : Row RG m w A l) (hi : i < l.length) : (agAt l i).wf := by
  obtain ⟨_,_,y,_,_,hy,h,_⟩ := h.at_ i hi
  rw [agAt_of hy]
  exact h.2
theorem argW_at {l : List Ag} {i : Nat} (h : i < l.length) : (l.map argW).getD i ⟨#[]⟩ = argW (agAt l i) := by
  simp [agAt,List.getD_eq_getElem?_getD,h]
theorem ltW_size {x : Lt} {w : World} {Aa A1 A2 : Option Addr} {ca c1 c2 : Nat} (h : ltB x = true) (ho : x.okc ca c1 c2) (hra : Row RT 4 w Aa x.a.args) (hr1 : Row RE 6 w A1 x.e1.kids) (hr2 : Row RE 6 w A2 x.e2.kids) : (ltW x).size ≤ 500000 := by
  unfold ltW
  split
  · rename_i hk; have := atW_size (lt_at h (.inl hk)) hra; omega
  · split
    · rename_i hk; have := atW_size (lt_at h (.inr hk)) hra; simp only [ByteArray.size_append,z4]; omega
    · rename_i h1 h2
      obtain ⟨_,_,_,he1,he2⟩ := lt_cmp h h1 h2
      have := exW_le (d := 8) (by decide) he1 (Go.Wk.Row.ok hr1 ho.e1.t)
      have := exW_le (d := 8) (by decide) he2 (Go.Wk.Row.ok hr2 ho.e2.t)
      have := relW_size x.r
      simp only [ByteArray.size_append,z1]; omega
theorem ltW_at {w : World} {A : Option Addr} {l : List Lt} {i : Nat} (hr : Row RL 16 w A l) (hb : ∀ i,i < l.length → ltB (ltAt l i) = true) (hi : i < l.length) : (ltW (ltAt l i)).size ≤ 500000 := by
  obtain ⟨_,_,y,_,_,hy,hR,_⟩ := hr.at_ i hi
  have e := ltAt_of hy
  obtain ⟨Aa,A1,A2,ca,c1,c2,_,ho,ra,r1,r2⟩ := hR
  have := hb i hi
  rw [e] at this ⊢
  exact ltW_size this ho ra r1 r2
theorem ruP_le {w : World} {A : Option Addr} {l : List Lt} (hr : Row RL 16 w A l) (hb : ∀ i,i < l.length → ltB (ltAt l i) = true) : ∀ i,i ≤ l.length → (ruP l i).size ≤ i * 500004
  | 0,_ => by simp [ruP,z0]
  | i + 1,hi => by
    have h1 := ruP_le hr hb i (by omega)
    have h2 := ltW_at hr hb (i := i) (by omega)
    have h3 : (if i = 0 then (⟨#[32,58,45,32]⟩ : ByteArray) else ⟨#[44,32]⟩).size ≤ 4 := by split <;> decide
    simp only [ruP,ByteArray.size_append,Nat.add_mul,Nat.one_mul]
    omega
theorem headW_size {x : Ru} {w : World} {A : Option Addr} (h : ruB x = true) (hr : Row RG 5 w A x.head) : (colW x.p (x.head.map argW)).size ≤ 30000 := by
  obtain ⟨_,hp,h24,_,hh,_⟩ := ruB_parts h
  unfold colW
  split
  · omega
  · have := colP_le (l := x.head.map argW) (M := 900) (fun i hi => by rw [List.length_map] at hi; rw [argW_at hi]; exact argW_size (hh i hi) (RG_wf hr hi)) (x.head.map argW).length (Nat.le_refl _)
    rw [List.length_map] at this
    have h2 : x.head.length * (900 + 2) ≤ 24 * 902 := Nat.mul_le_mul_right _ h24
    simp only [ByteArray.size_append,z1,List.length_map]; omega
theorem ruW_size {x : Ru} {w : World} {Ah Ab : Option Addr} (h : ruB x = true) (hh : Row RG 5 w Ah x.head) (hb : Row RL 16 w Ab x.body) : (ruW x).size ≤ 8100000 := by
  have h1 := headW_size h hh
  obtain ⟨_,_,_,h16,_,hl⟩ := ruB_parts h
  have h2 := ruP_le hb hl x.body.length (Nat.le_refl _)
  have h3 : x.body.length * 500004 ≤ 16 * 500004 := Nat.mul_le_mul_right _ h16
  simp only [ruW,ByteArray.size_append,z1]; omega
end Go.Wk

set_option linter.unusedVariables false
set_option linter.unusedSimpArgs false
set_option maxRecDepth 10000
namespace Go.Proofs.Zw
open Go Go.Wk Go.Proofs Go.Lib
attribute [local irreducible] Go.wpList Go.wpStill Go.wpQuiet Go.Code.wp Go.Calls
theorem F_e46 : enterable Tryz.prog 46 = true := by kernel_rfl
theorem F_e47 : enterable Tryz.prog 47 = true := by kernel_rfl
theorem F_e88 : enterable Tryz.prog 88 = true := by kernel_rfl
theorem r6_arg (x : Ag) (w : World) (hx : x.wf) (hag : argB x = true) :
    Rt Tryz.prog 88 #[.agg #[.int .i8 x.k,.string x.t.v,.int .i8 x.t.l.k,.int .i64 x.t.l.n,.string x.t.l.s]] w fun v w' => v = .string (argW x) ∧ Ext w w' := by
  refine enter Tryz.func88 rfl (l := [.agg #[.int .i8 x.k,.string x.t.v,.int .i8 x.t.l.k,.int .i64 x.t.l.n,.string x.t.l.s]]) rfl Tryz.ntmps88 (Nat.le_of_ble_eq_true rfl) ?_
  have hv_ := Tm.wf.v (Ag.wf.t hx)
  have hvs_ : x.k = 2 ∨ x.k = 3 ∨ x.k = 4 → x.t.v.size ≤ 802 := arg_vsize hag hx
  refine c_seq (c_reg (s_box (v := .agg #[.int .i8 x.k,.string x.t.v,.int .i8 x.t.l.k,.int .i64 x.t.l.n,.string x.t.l.s]) (cs := #[.int .i8 x.k,.string x.t.v,.int .i8 x.t.l.k,.int .i64 x.t.l.n,.string x.t.l.s]) (w0 rfl) (ej rfl rfl) rfl ?_))
  intro w2 g1 n3
  refine s_assign (v := .string (⟨#[]⟩ : ByteArray)) ev_c (w0 rfl) (c_done (n_then (c_seq (c_seq (c_reg (s_field (off := 0) (o' := 0) F_f129_0 (ej rfl rfl) rfl (w0 rfl) (s_load (v := .int .i8 x.k) F_o127 (ej rfl rfl) (cell_of_blk (i := 0) (NewB.blk n3) rfl) (w0 rfl) (c_done (n_then (c_block (c_seq ?_)))))))))))
  refine c_reg (s_cmp (r := decide (x.k = 1)) (ej rfl rfl) ev_c rfl (w0 rfl) (s_assign (v := .bool (decide (x.k = 1))) (ej rfl rfl) (w0 rfl) (c_done (n_then ?_))))
  by_cases h4 : x.k = 1
  · refine c_cond1 (vb (ej rfl rfl) (decide_eq_true h4)) (c_seq (c_reg (s_assign (v := .string (⟨#[99,111,117,110,116,40,41]⟩ : ByteArray)) ev_c (w0 rfl) (c_done (n_then (c_ret (r_block (r_then (ret1 (v := .string (⟨#[99,111,117,110,116,40,41]⟩ : ByteArray)) rfl rfl rfl ?_)))))))))
    refine ⟨_,rfl,?_,(NewB.ext n3)⟩
    (refine congrArg Value.string ?_; unfold argW; first | (rw [if_pos (by omega)]; done) | (rw [if_neg (by omega),if_pos (by omega),show foldB x.k ++ (⟨#[40]⟩ : ByteArray) = ⟨#[115,117,109,40]⟩ from by rw [show x.k = 2 by omega]; rfl]; done) | (rw [if_neg (by omega),if_pos (by omega),show foldB x.k ++ (⟨#[40]⟩ : ByteArray) = ⟨#[109,105,110,40]⟩ from by rw [show x.k = 3 by omega]; rfl]; done) | (rw [if_neg (by omega),if_pos (by omega),show foldB x.k ++ (⟨#[40]⟩ : ByteArray) = ⟨#[109,97,120,40]⟩ from by rw [show x.k = 4 by omega]; rfl]; done) | (rw [if_neg (by omega),if_neg (by omega)]; done))
  refine c_cond0 (vb (ej rfl rfl) (decide_eq_false h4)) (c_seq (c_reg (s_cmp (r := decide (x.k = 2)) (ej rfl rfl) ev_c rfl (w0 rfl) (s_assign (v := .bool (decide (x.k = 2))) (ej rfl rfl) (w0 rfl) (c_done (n_then ?_))))))
  by_cases h5 : x.k = 2
  · refine c_cond1 (vb (ej rfl rfl) (decide_eq_true h5)) (c_seq (c_reg (s_field (off := 1) (o' := 1) F_f129_1 (ej rfl rfl) rfl (w0 rfl) (s_field (off := 0) (o' := 1) F_f33_0 (ej rfl rfl) rfl (w0 rfl) (s_load (v := .string x.t.v) F_o9 (ej rfl rfl) (cell_of_blk (i := 1) (NewB.blk n3) rfl) (w0 rfl) (s_cat ev_c (ej rfl rfl) (by (try simp only [ByteArray.size_append,z0,z1,z2,z3,z4,z5,z6]); omega) (w0 rfl) (s_cat (ej rfl rfl) ev_c (by (try simp only [ByteArray.size_append,z0,z1,z2,z3,z4,z5,z6]); omega) (w0 rfl) (s_assign (v := .string ((⟨#[115,117,109,40]⟩ : ByteArray) ++ x.t.v ++ (⟨#[41]⟩ : ByteArray))) (ej rfl rfl) (w0 rfl) (c_done (n_then (c_ret ?_)))))))))))
    refine r_block (r_then (ret1 (v := .string ((⟨#[115,117,109,40]⟩ : ByteArray) ++ x.t.v ++ (⟨#[41]⟩ : ByteArray))) rfl rfl rfl ?_))
    refine ⟨_,rfl,?_,(NewB.ext n3)⟩
    (refine congrArg Value.string ?_; unfold argW; first | (rw [if_pos (by omega)]; done) | (rw [if_neg (by omega),if_pos (by omega),show foldB x.k ++ (⟨#[40]⟩ : ByteArray) = ⟨#[115,117,109,40]⟩ from by rw [show x.k = 2 by omega]; rfl]; done) | (rw [if_neg (by omega),if_pos (by omega),show foldB x.k ++ (⟨#[40]⟩ : ByteArray) = ⟨#[109,105,110,40]⟩ from by rw [show x.k = 3 by omega]; rfl]; done) | (rw [if_neg (by omega),if_pos (by omega),show foldB x.k ++ (⟨#[40]⟩ : ByteArray) = ⟨#[109,97,120,40]⟩ from by rw [show x.k = 4 by omega]; rfl]; done) | (rw [if_neg (by omega),if_neg (by omega)]; done))
  refine c_cond0 (vb (ej rfl rfl) (decide_eq_false h5)) (c_seq (c_reg (s_cmp (r := decide (x.k = 3)) (ej rfl rfl) ev_c rfl (w0 rfl) (s_assign (v := .bool (decide (x.k = 3))) (ej rfl rfl) (w0 rfl) (c_done (n_then ?_))))))
  by_cases h6 : x.k = 3
  · refine c_cond1 (vb (ej rfl rfl) (decide_eq_true h6)) (c_seq (c_reg (s_field (off := 1) (o' := 1) F_f129_1 (ej rfl rfl) rfl (w0 rfl) (s_field (off := 0) (o' := 1) F_f33_0 (ej rfl rfl) rfl (w0 rfl) (s_load (v := .string x.t.v) F_o9 (ej rfl rfl) (cell_of_blk (i := 1) (NewB.blk n3) rfl) (w0 rfl) (s_cat ev_c (ej rfl rfl) (by (try simp only [ByteArray.size_append,z0,z1,z2,z3,z4,z5,z6]); omega) (w0 rfl) (s_cat (ej rfl rfl) ev_c (by (try simp only [ByteArray.size_append,z0,z1,z2,z3,z4,z5,z6]); omega) (w0 rfl) (s_assign (v := .string ((⟨#[109,105,110,40]⟩ : ByteArray) ++ x.t.v ++ (⟨#[41]⟩ : ByteArray))) (ej rfl rfl) (w0 rfl) (c_done (n_then (c_ret ?_)))))))))))
    refine r_block (r_then (ret1 (v := .string ((⟨#[109,105,110,40]⟩ : ByteArray) ++ x.t.v ++ (⟨#[41]⟩ : ByteArray))) rfl rfl rfl ?_))
    refine ⟨_,rfl,?_,(NewB.ext n3)⟩
    (refine congrArg Value.string ?_; unfold argW; first | (rw [if_pos (by omega)]; done) | (rw [if_neg (by omega),if_pos (by omega),show foldB x.k ++ (⟨#[40]⟩ : ByteArray) = ⟨#[115,117,109,40]⟩ from by rw [show x.k = 2 by omega]; rfl]; done) | (rw [if_neg (by omega),if_pos (by omega),show foldB x.k ++ (⟨#[40]⟩ : ByteArray) = ⟨#[109,105,110,40]⟩ from by rw [show x.k = 3 by omega]; rfl]; done) | (rw [if_neg (by omega),if_pos (by omega),show foldB x.k ++ (⟨#[40]⟩ : ByteArray) = ⟨#[109,97,120,40]⟩ from by rw [show x.k = 4 by omega]; rfl]; done) | (rw [if_neg (by omega),if_neg (by omega)]; done))
  refine c_cond0 (vb (ej rfl rfl) (decide_eq_false h6)) (c_seq (c_reg (s_cmp (r := decide (x.k = 4)) (ej rfl rfl) ev_c rfl (w0 rfl) (s_assign (v := .bool (decide (x.k = 4))) (ej rfl rfl) (w0 rfl) (c_done (n_then ?_))))))
  by_cases h7 : x.k = 4
  · refine c_cond1 (vb (ej rfl rfl) (decide_eq_true h7)) (c_seq (c_reg (s_field (off := 1) (o' := 1) F_f129_1 (ej rfl rfl) rfl (w0 rfl) (s_field (off := 0) (o' := 1) F_f33_0 (ej rfl rfl) rfl (w0 rfl) (s_load (v := .string x.t.v) F_o9 (ej rfl rfl) (cell_of_blk (i := 1) (NewB.blk n3) rfl) (w0 rfl) (s_cat ev_c (ej rfl rfl) (by (try simp only [ByteArray.size_append,z0,z1,z2,z3,z4,z5,z6]); omega) (w0 rfl) (s_cat (ej rfl rfl) ev_c (by (try simp only [ByteArray.size_append,z0,z1,z2,z3,z4,z5,z6]); omega) (w0 rfl) (s_assign (v := .string ((⟨#[109,97,120,40]⟩ : ByteArray) ++ x.t.v ++ (⟨#[41]⟩ : ByteArray))) (ej rfl rfl) (w0 rfl) (c_done (n_then (c_ret ?_)))))))))))
    refine r_block (r_then (ret1 (v := .string ((⟨#[109,97,120,40]⟩ : ByteArray) ++ x.t.v ++ (⟨#[41]⟩ : ByteArray))) rfl rfl rfl ?_))
    refine ⟨_,rfl,?_,(NewB.ext n3)⟩
    (refine congrArg Value.string ?_; unfold argW; first | (rw [if_pos (by omega)]; done) | (rw [if_neg (by omega),if_pos (by omega),show foldB x.k ++ (⟨#[40]⟩ : ByteArray) = ⟨#[115,117,109,40]⟩ from by rw [show x.k = 2 by omega]; rfl]; done) | (rw [if_neg (by omega),if_pos (by omega),show foldB x.k ++ (⟨#[40]⟩ : ByteArray) = ⟨#[109,105,110,40]⟩ from by rw [show x.k = 3 by omega]; rfl]; done) | (rw [if_neg (by omega),if_pos (by omega),show foldB x.k ++ (⟨#[40]⟩ : ByteArray) = ⟨#[109,97,120,40]⟩ from by rw [show x.k = 4 by omega]; rfl]; done) | (rw [if_neg (by omega),if_neg (by omega)]; done))
  refine c_cond0 (vb (ej rfl rfl) (decide_eq_false h7)) (c_skip (n_block (n_then (c_seq (c_reg (s_field (off := 1) (o' := 1) F_f129_1 (ej rfl rfl) rfl (w0 rfl) (s_loadL (cs := [.string x.t.v,.int .i8 x.t.l.k,.int .i64 x.t.l.n,.string x.t.l.s]) F_m33 (ej rfl rfl) rfl rfl (blk_cells (NewB.blk n3) 1 rfl) (w0 rfl) (s_call F_e62 (w0 rfl) ev_f (m1 (ej rfl rfl)) (args := #[.agg #[.string x.t.v,.int .i8 x.t.l.k,.int .i64 x.t.l.n,.string x.t.l.s]]) rfl (r6_term x.t _ (Ag.wf.t hx)) ?_))))))))
  rintro _ w9 ⟨rfl,x8⟩
  refine s_assign (v := .string (termW x.t)) (ej rfl rfl) (w0 rfl) (c_done (n_then (c_ret (ret1 (v := .string (termW x.t)) rfl rfl rfl ?_))))
  refine ⟨_,rfl,?_,(Ext.trans (NewB.ext n3) x8)⟩
  (refine congrArg Value.string ?_; unfold argW; first | (rw [if_pos (by omega)]; done) | (rw [if_neg (by omega),if_pos (by omega),show foldB x.k ++ (⟨#[40]⟩ : ByteArray) = ⟨#[115,117,109,40]⟩ from by rw [show x.k = 2 by omega]; rfl]; done) | (rw [if_neg (by omega),if_pos (by omega),show foldB x.k ++ (⟨#[40]⟩ : ByteArray) = ⟨#[109,105,110,40]⟩ from by rw [show x.k = 3 by omega]; rfl]; done) | (rw [if_neg (by omega),if_pos (by omega),show foldB x.k ++ (⟨#[40]⟩ : ByteArray) = ⟨#[109,97,120,40]⟩ from by rw [show x.k = 4 by omega]; rfl]; done) | (rw [if_neg (by omega),if_neg (by omega)]; done))
theorem hdW_step {l : List Ag} {i : Nat} (h : i < l.length) : (l.take (i + 1)).map argW = (l.take i).map argW ++ [argW (agAt l i)] := by
  rw [List.take_add_one,agAt_there h]; simp
theorem r6_rule (x : Ru) (Ah Ab : Option Addr) (ch cb : Nat) (w : World) (ho : x.okc ch cb) (hrh : Row RG 5 w Ah x.head) (hrb : Row RL 16 w Ab x.body) (hru : ruB x = true) :
    Rt Tryz.prog 47 #[.agg #[.string x.p,.slice Ah x.head.length ch,.slice Ab x.body.length cb]] w fun v w' => v = .string (ruW x) ∧ Ext w w' := by
  refine enter Tryz.func47 rfl (l := [.agg #[.string x.p,.slice Ah x.head.length ch,.slice Ab x.body.length cb]]) rfl Tryz.ntmps47 (Nat.le_of_ble_eq_true rfl) ?_
  have hpr_ := Ru.okc.p ho
  have hhl_ := Ru.okc.hl ho
  have hhc_ := Ru.okc.hc ho
  have hbl_ := Ru.okc.bl ho
  have hbc_ := Ru.okc.bc ho
  obtain ⟨hnm_,hpz_,h24_,h16_,hha_,hlb_⟩ := ruB_parts hru
  have hcw_ := headW_size hru hrh
  refine c_seq (c_reg (s_box (v := .agg #[.string x.p,.slice Ah x.head.length ch,.slice Ab x.body.length cb]) (cs := #[.string x.p,.slice Ah x.head.length ch,.slice Ab x.body.length cb]) (w0 rfl) (ej rfl rfl) rfl ?_))
  intro w2 g1 n3
  refine s_assign (v := .string (⟨#[]⟩ : ByteArray)) ev_c (w0 rfl) (c_done (n_then (c_seq (c_reg (s_assign (v := .slice none 0 0) ev_c (w0 rfl) (c_done (n_then (c_seq (c_seq (c_reg (s_assign (v := .int .i64 0) ev_c (w0 rfl) ?_)))))))))))
  refine c_done (n_then (c_block ?_))
  have ge4 : w.heap.size ≤ g1 := by have a_ := NewB.eq n3; have b_ := Keep.size (Ext.refl w); omega
  refine c_loop (α := Nat × Option Addr × Nat) (fun x_ env_ w_ => match x_ with | (i,A1,c1) => Ext w w_ ∧ w_.heap[g1]? = some (.cells #[.string x.p,.slice Ah x.head.length ch,.slice Ab x.body.length cb] 53 (0,0)) ∧ i ≤ x.head.length ∧ OS 9 w.heap.size w_ A1 c1 ((x.head.take i).map argW) ∧ env_ 1 = .pointer (some ⟨g1,0,none⟩) ∧ env_ 2 = .string (⟨#[]⟩ : ByteArray) ∧ env_ 3 = .slice A1 (((x.head.take i).map argW).length) c1 ∧ env_ 4 = .int .i64 ((i : Nat) : Int)) (fun x_ => match x_ with | (i,A1,c1) => x.head.length - i) (0,none,0) ⟨(NewB.ext n3),(NewB.blk n3),Nat.zero_le _,(OS.cast OS.nil (by simp)),rfl,rfl,(congrArg (fun n_ => Value.slice none n_ 0) (show 0 = ((x.head.take 0).map argW).length by simp)),rfl⟩ ?_
  rintro ⟨i,A1,c1⟩ env7 w5 ⟨x6,bk14,i8,i9,e10,e11,e12,e13⟩
  refine c_seq (c_seq (c_reg (s_move (v := .int .i64 ((i : Nat) : Int)) (ej rfl e13) (w0 rfl) (s_field (off := 1) (o' := 1) F_f53_1 (ej rfl e10) rfl (w0 rfl) (s_load (v := .slice Ah x.head.length ch) F_o51 (ej rfl rfl) (cell_of_blk (i := 1) bk14 rfl) (w0 rfl) (s_lenL F_l51 (ej rfl rfl) (w0 rfl) (s_cmp (r := decide (((i : Nat) : Int) < (x.head.length : Int))) (ej rfl rfl) (ej rfl rfl) rfl (w0 rfl) (c_done (n_then ?_)))))))))
  by_cases h15 : ((i : Nat) : Int) < (x.head.length : Int)
  · refine c_cond1 (vb (ej rfl rfl) (decide_eq_true h15)) (c_skip (n_then (c_seq (c_block (c_reg (s_move (v := .slice A1 (((x.head.take i).map argW).length) c1) (ej rfl e12) (w0 rfl) (s_field (off := 1) (o' := 1) F_f53_1 (ej rfl e10) rfl (w0 rfl) (s_load (v := .slice Ah x.head.length ch) F_o51 (ej rfl rfl) (cell_of_blk (i := 1) bk14 rfl) (w0 rfl) (s_move (v := .int .i64 ((i : Nat) : Int)) (ej rfl e13) (w0 rfl) ?_)))))))))
    obtain ⟨b16,o17,x18,csx18,hA19,hx20,hR21,hc22⟩ := Row.at_ hrh i (by omega)
    obtain rfl := agAt_of hx20
    obtain ⟨rfl,wf23⟩ := hR21
    refine s_indexR (j := i) F_l51 (ej rfl rfl) hA19 (ej rfl rfl) rfl (by omega) (w0 rfl) (s_loadL (cs := [.int .i8 ((agAt x.head i).k),.string ((agAt x.head i).t.v),.int .i8 ((agAt x.head i).t.l.k),.int .i64 ((agAt x.head i).t.l.n),.string ((agAt x.head i).t.l.s)]) F_m129 (ej rfl rfl) rfl rfl (sub_cells (cells_ext x6 hc22) 0 rfl) (w0 rfl) (s_call F_e88 (w0 rfl) ev_f (m1 (ej rfl rfl)) (args := #[.agg #[.int .i8 ((agAt x.head i).k),.string ((agAt x.head i).t.v),.int .i8 ((agAt x.head i).t.l.k),.int .i64 ((agAt x.head i).t.l.n),.string ((agAt x.head i).t.l.s)]]) rfl (r6_arg (agAt x.head i) _ wf23 (hha_ _ (by omega))) ?_))
    rintro _ w25 ⟨rfl,x24⟩
    refine s_bslice (vs := [(0,.string (argW (agAt x.head i)))]) (cs := #[.string (argW (agAt x.head i))]) (b1 (ej rfl rfl)) (bs106_1_0s (argW (agAt x.head i))) (w0 rfl) ?_
    intro w27 g26 n28
    refine s_append (m := 1) (k := 1) (news := [.string (argW (agAt x.head i))]) F_ul106 F_if9 rfl (by decide) (ej rfl rfl) (OS.own (OS.ext (OS.ext i9 x24) (NewB.ext n28))) (ej rfl rfl) rfl (by have z_ := blk_cells (NewB.blk n28) 0 (cs := [.string (argW (agAt x.head i))]) rfl; exact z_) rfl (by simp only [List.length_map,List.length_take]; omega) (by simp only [List.length_map,List.length_take]; omega) (Keep.size (Ext.trans (Ext.trans x6 x24) (NewB.ext n28))) (w0 rfl) ?_
    intro A31 c32 w29 ow33 k30
    have ot34 := OS.snoc ow33
    refine s_assign (v := .slice A31 (((x.head.take i).map argW).length + 1) c32) (ej rfl rfl) (w0 rfl) (c_done (n_block (n_then (c_reg (s_move (v := .int .i64 ((i : Nat) : Int)) (ej rfl e13) (w0 rfl) (s_add (r := ((i + 1 : Nat) : Int)) (ej rfl rfl) ev_c (by omega) (by omega) (w0 rfl) (s_assign (v := .int .i64 ((i + 1 : Nat) : Int)) (ej rfl rfl) (w0 rfl) (c_done ?_))))))))
    exact ⟨(i + 1,A31,c32),_,rfl,⟨(Keep.then_ (Ext.trans (Ext.trans x6 x24) (NewB.ext n28)) k30 (fun i_ hi_ h_ => by have a_ := own_ge (OS.own (OS.ext (OS.ext i9 x24) (NewB.ext n28))) i_ h_; omega)),(Keep.blk k30 (Ext.blk (NewB.ext n28) (Ext.blk x24 bk14)) (own_ne (OS.own (OS.ext (OS.ext i9 x24) (NewB.ext n28))) (Ext.blk (NewB.ext n28) (Ext.blk x24 bk14)) (by first | decide | assumption))),by omega,(OS.cast ot34 (by rw [hdW_step (by omega)])),e10,e11,(congrArg (fun n_ => Value.slice A31 n_ c32) (show (((x.head.take i).map argW).length + 1) = (((x.head.take (i + 1)).map argW)).length by rw [hdW_step (by omega)]; first | (simp; done) | (simp; omega))),rfl⟩,(show x.head.length - (i + 1) < x.head.length - i by omega)⟩
  refine c_cond0 (vb (ej rfl rfl) (decide_eq_false h15)) (c_exit (e_then (e_then (e_hit (n_then (c_seq (c_reg (s_field (off := 0) (o' := 0) F_f53_0 (ej rfl e10) rfl (w0 rfl) (s_load (v := .string x.p) F_o9 (ej rfl rfl) (cell_of_blk (i := 0) bk14 rfl) (w0 rfl) (s_move (v := .slice A1 (((x.head.take i).map argW).length) c1) (ej rfl e12) (w0 rfl) (s_call F_e63 (w0 rfl) ev_f (m2 (ej rfl rfl) (ej rfl rfl)) (args := #[.string x.p,.slice A1 (((x.head.take i).map argW).length) c1]) rfl (r6_columns x.p _ (x.head.map argW) A1 c1 _ (by rw [List.take_of_length_le (by omega)]) (OS.row (OS.cast i9 (by rw [List.take_of_length_le (by omega)]))) (by rw [List.length_map]; omega) (fun i_ hi_ => by rw [List.length_map] at hi_; have z_ := argW_size (hha_ i_ hi_) (RG_wf hrh hi_); have e_ : sAt (x.head.map argW) i_ = argW (agAt x.head i_) := argW_at hi_; rw [e_]; omega) (by omega)) ?_)))))))))))
  rintro _ w36 ⟨rfl,x35⟩
  refine s_assign (v := .string (colW x.p (x.head.map argW))) (ej rfl rfl) (w0 rfl) (c_done (n_then (c_seq (c_seq (c_reg (s_assign (v := .int .i64 0) ev_c (w0 rfl) (c_done (n_then (c_block (c_loop (α := Nat) (fun (k : Nat) env_ w_ => Ext w36 w_ ∧ k ≤ x.body.length ∧ env_ 1 = .pointer (some ⟨g1,0,none⟩) ∧ env_ 2 = .string (⟨#[]⟩ : ByteArray) ∧ env_ 5 = .string (colW x.p (x.head.map argW) ++ ruP x.body k) ∧ env_ 6 = .int .i64 ((k : Nat) : Int)) (fun k => x.body.length - k) (0) ⟨Ext.refl _,Nat.zero_le _,e10,e11,(congrArg Value.string (show colW x.p (x.head.map argW) = colW x.p (x.head.map argW) ++ ruP x.body 0 by simp only [ruP,app_nil])),rfl⟩ ?_))))))))))
  rintro k env39 w37 ⟨x38,i40,e41,e42,e43,e44⟩
  have hP_ := ruP_le hrb hlb_ k i40
  have hkb_ : k * 500004 ≤ 16 * 500004 := Nat.mul_le_mul_right _ (by omega)
  refine c_seq (c_seq (c_reg (s_move (v := .int .i64 ((k : Nat) : Int)) (ej rfl e44) (w0 rfl) (s_field (off := 2) (o' := 2) F_f53_2 (ej rfl e41) rfl (w0 rfl) (s_load (v := .slice Ab x.body.length cb) F_o40 (ej rfl rfl) (cell_of_blk (i := 2) (Ext.blk x38 (Ext.blk x35 bk14)) rfl) (w0 rfl) (s_lenL F_l40 (ej rfl rfl) (w0 rfl) (s_cmp (r := decide (((k : Nat) : Int) < (x.body.length : Int))) (ej rfl rfl) (ej rfl rfl) rfl (w0 rfl) (c_done (n_then ?_)))))))))
  by_cases h45 : ((k : Nat) : Int) < (x.body.length : Int)
  · refine c_cond1 (vb (ej rfl rfl) (decide_eq_true h45)) (c_skip (n_then (c_seq (c_block (c_seq (c_seq (c_reg (s_move (v := .int .i64 ((k : Nat) : Int)) (ej rfl e44) (w0 rfl) (s_cmp (r := decide (((k : Nat) : Int) = 0)) (ej rfl rfl) ev_c rfl (w0 rfl) (c_done (n_then ?_)))))))))))
    by_cases h46 : ((k : Nat) : Int) = 0
    · refine c_cond1 (vb (ej rfl rfl) (decide_eq_true h46)) (c_reg (s_move (v := .string (colW x.p (x.head.map argW) ++ ruP x.body k)) (ej rfl e43) (w0 rfl) (s_cat (ej rfl rfl) ev_c (by (try simp only [ByteArray.size_append,z0,z1,z2,z3,z4,z5,z6]); omega) (w0 rfl) (s_assign (v := .string ((colW x.p (x.head.map argW) ++ ruP x.body k) ++ (⟨#[32,58,45,32]⟩ : ByteArray))) (ej rfl rfl) (w0 rfl) (c_done (n_then (c_reg (s_move (v := .string ((colW x.p (x.head.map argW) ++ ruP x.body k) ++ (⟨#[32,58,45,32]⟩ : ByteArray))) (ej rfl rfl) (w0 rfl) (s_field (off := 2) (o' := 2) F_f53_2 (ej rfl e41) rfl (w0 rfl) (s_load (v := .slice Ab x.body.length cb) F_o40 (ej rfl rfl) (cell_of_blk (i := 2) (Ext.blk x38 (Ext.blk x35 bk14)) rfl) (w0 rfl) (s_move (v := .int .i64 ((k : Nat) : Int)) (ej rfl e44) (w0 rfl) ?_)))))))))))
      obtain ⟨b47,o48,x49,csx49,hA50,hx51,hR52,hc53⟩ := Row.at_ hrb k (by omega)
      obtain rfl := ltAt_of hx51
      obtain ⟨Aa54,A55,A56,ca57,c58,c59,rfl,ho60,ra61,r62,r63⟩ := hR52
      have q64_a := Lt.okc.a ho60
      have q64_e1 := Lt.okc.e1 ho60
      have q64_e2 := Lt.okc.e2 ho60
      have := Ex.okc.l q64_e1
      have := Ex.okc.l q64_e2
      have := Ex.okc.c q64_e1
      have := Ex.okc.c q64_e2
      have := At.okc.l q64_a
      have := At.okc.c q64_a
      have := At.okc.p q64_a
      refine s_indexR (j := k) F_l40 (ej rfl rfl) hA50 (ej rfl rfl) rfl (by omega) (w0 rfl) (s_loadL (cs := [.int .i8 ((ltAt x.body k).k),.string ((ltAt x.body k).a.p),.slice Aa54 ((ltAt x.body k).a.args.length) ca57,.int .i8 ((ltAt x.body k).r),.int .i8 ((ltAt x.body k).e1.op),.string ((ltAt x.body k).e1.t.v),.int .i8 ((ltAt x.body k).e1.t.l.k),.int .i64 ((ltAt x.body k).e1.t.l.n),.string ((ltAt x.body k).e1.t.l.s),.slice A55 ((ltAt x.body k).e1.kids.length) c58,.int .i8 ((ltAt x.body k).e2.op),.string ((ltAt x.body k).e2.t.v),.int .i8 ((ltAt x.body k).e2.t.l.k),.int .i64 ((ltAt x.body k).e2.t.l.n),.string ((ltAt x.body k).e2.t.l.s),.slice A56 ((ltAt x.body k).e2.kids.length) c59]) F_m38 (ej rfl rfl) rfl rfl (sub_cells (cells_ext x38 (cells_ext x35 (cells_ext x6 hc53))) 0 rfl) (w0 rfl) ?_)
      have hz65 := ltW_at hrb hlb_ (i := k) (by omega)
      refine s_call F_e37 (w0 rfl) ev_f (m1 (ej rfl rfl)) (args := #[.agg #[.int .i8 ((ltAt x.body k).k),.string ((ltAt x.body k).a.p),.slice Aa54 ((ltAt x.body k).a.args.length) ca57,.int .i8 ((ltAt x.body k).r),.int .i8 ((ltAt x.body k).e1.op),.string ((ltAt x.body k).e1.t.v),.int .i8 ((ltAt x.body k).e1.t.l.k),.int .i64 ((ltAt x.body k).e1.t.l.n),.string ((ltAt x.body k).e1.t.l.s),.slice A55 ((ltAt x.body k).e1.kids.length) c58,.int .i8 ((ltAt x.body k).e2.op),.string ((ltAt x.body k).e2.t.v),.int .i8 ((ltAt x.body k).e2.t.l.k),.int .i64 ((ltAt x.body k).e2.t.l.n),.string ((ltAt x.body k).e2.t.l.s),.slice A56 ((ltAt x.body k).e2.kids.length) c59]]) rfl (r6_literal (ltAt x.body k) Aa54 A55 A56 ca57 c58 c59 _ ho60 (Row.extT (Row.extT (Row.extT ra61 x6) x35) x38) (Row.extE (Row.extE (Row.extE r62 x6) x35) x38) (Row.extE (Row.extE (Row.extE r63 x6) x35) x38) (hlb_ k (by omega))) ?_
      rintro _ w67 ⟨rfl,x66⟩
      refine s_cat (ej rfl rfl) (ej rfl rfl) (by (try simp only [ByteArray.size_append,z0,z1,z2,z3,z4,z5,z6]); omega) (w0 rfl) (s_assign (v := .string ((colW x.p (x.head.map argW) ++ ruP x.body k) ++ (⟨#[32,58,45,32]⟩ : ByteArray) ++ (ltW (ltAt x.body k)))) (ej rfl rfl) (w0 rfl) (c_done (n_block (n_then (c_reg (s_move (v := .int .i64 ((k : Nat) : Int)) (ej rfl e44) (w0 rfl) (s_add (r := ((k + 1 : Nat) : Int)) (ej rfl rfl) ev_c (by omega) (by omega) (w0 rfl) (s_assign (v := .int .i64 ((k + 1 : Nat) : Int)) (ej rfl rfl) (w0 rfl) (c_done ?_)))))))))
      exact ⟨(k + 1),_,rfl,⟨(Ext.trans x38 x66),by omega,e41,e42,(congrArg Value.string (by simp only [ruP]; rw [if_pos (by omega)]; simp only [app_assoc])),rfl⟩,(show x.body.length - (k + 1) < x.body.length - k by omega)⟩
    refine c_cond0 (vb (ej rfl rfl) (decide_eq_false h46)) (c_reg (s_move (v := .string (colW x.p (x.head.map argW) ++ ruP x.body k)) (ej rfl e43) (w0 rfl) (s_cat (ej rfl rfl) ev_c (by (try simp only [ByteArray.size_append,z0,z1,z2,z3,z4,z5,z6]); omega) (w0 rfl) (s_assign (v := .string ((colW x.p (x.head.map argW) ++ ruP x.body k) ++ (⟨#[44,32]⟩ : ByteArray))) (ej rfl rfl) (w0 rfl) (c_done (n_then (c_reg (s_move (v := .string ((colW x.p (x.head.map argW) ++ ruP x.body k) ++ (⟨#[44,32]⟩ : ByteArray))) (ej rfl rfl) (w0 rfl) (s_field (off := 2) (o' := 2) F_f53_2 (ej rfl e41) rfl (w0 rfl) (s_load (v := .slice Ab x.body.length cb) F_o40 (ej rfl rfl) (cell_of_blk (i := 2) (Ext.blk x38 (Ext.blk x35 bk14)) rfl) (w0 rfl) (s_move (v := .int .i64 ((k : Nat) : Int)) (ej rfl e44) (w0 rfl) ?_)))))))))))
    obtain ⟨b68,o69,x70,csx70,hA71,hx72,hR73,hc74⟩ := Row.at_ hrb k (by omega)
    obtain rfl := ltAt_of hx72
    obtain ⟨Aa75,A76,A77,ca78,c79,c80,rfl,ho81,ra82,r83,r84⟩ := hR73
    have q85_a := Lt.okc.a ho81
    have q85_e1 := Lt.okc.e1 ho81
    have q85_e2 := Lt.okc.e2 ho81
    have := Ex.okc.l q85_e1
    have := Ex.okc.l q85_e2
    have := Ex.okc.c q85_e1
    have := Ex.okc.c q85_e2
    have := At.okc.l q85_a
    have := At.okc.c q85_a
    have := At.okc.p q85_a
    refine s_indexR (j := k) F_l40 (ej rfl rfl) hA71 (ej rfl rfl) rfl (by omega) (w0 rfl) (s_loadL (cs := [.int .i8 ((ltAt x.body k).k),.string ((ltAt x.body k).a.p),.slice Aa75 ((ltAt x.body k).a.args.length) ca78,.int .i8 ((ltAt x.body k).r),.int .i8 ((ltAt x.body k).e1.op),.string ((ltAt x.body k).e1.t.v),.int .i8 ((ltAt x.body k).e1.t.l.k),.int .i64 ((ltAt x.body k).e1.t.l.n),.string ((ltAt x.body k).e1.t.l.s),.slice A76 ((ltAt x.body k).e1.kids.length) c79,.int .i8 ((ltAt x.body k).e2.op),.string ((ltAt x.body k).e2.t.v),.int .i8 ((ltAt x.body k).e2.t.l.k),.int .i64 ((ltAt x.body k).e2.t.l.n),.string ((ltAt x.body k).e2.t.l.s),.slice A77 ((ltAt x.body k).e2.kids.length) c80]) F_m38 (ej rfl rfl) rfl rfl (sub_cells (cells_ext x38 (cells_ext x35 (cells_ext x6 hc74))) 0 rfl) (w0 rfl) ?_)
    have hz86 := ltW_at hrb hlb_ (i := k) (by omega)
    refine s_call F_e37 (w0 rfl) ev_f (m1 (ej rfl rfl)) (args := #[.agg #[.int .i8 ((ltAt x.body k).k),.string ((ltAt x.body k).a.p),.slice Aa75 ((ltAt x.body k).a.args.length) ca78,.int .i8 ((ltAt x.body k).r),.int .i8 ((ltAt x.body k).e1.op),.string ((ltAt x.body k).e1.t.v),.int .i8 ((ltAt x.body k).e1.t.l.k),.int .i64 ((ltAt x.body k).e1.t.l.n),.string ((ltAt x.body k).e1.t.l.s),.slice A76 ((ltAt x.body k).e1.kids.length) c79,.int .i8 ((ltAt x.body k).e2.op),.string ((ltAt x.body k).e2.t.v),.int .i8 ((ltAt x.body k).e2.t.l.k),.int .i64 ((ltAt x.body k).e2.t.l.n),.string ((ltAt x.body k).e2.t.l.s),.slice A77 ((ltAt x.body k).e2.kids.length) c80]]) rfl (r6_literal (ltAt x.body k) Aa75 A76 A77 ca78 c79 c80 _ ho81 (Row.extT (Row.extT (Row.extT ra82 x6) x35) x38) (Row.extE (Row.extE (Row.extE r83 x6) x35) x38) (Row.extE (Row.extE (Row.extE r84 x6) x35) x38) (hlb_ k (by omega))) ?_
    rintro _ w88 ⟨rfl,x87⟩
    refine s_cat (ej rfl rfl) (ej rfl rfl) (by (try simp only [ByteArray.size_append,z0,z1,z2,z3,z4,z5,z6]); omega) (w0 rfl) (s_assign (v := .string ((colW x.p (x.head.map argW) ++ ruP x.body k) ++ (⟨#[44,32]⟩ : ByteArray) ++ (ltW (ltAt x.body k)))) (ej rfl rfl) (w0 rfl) (c_done (n_block (n_then (c_reg (s_move (v := .int .i64 ((k : Nat) : Int)) (ej rfl e44) (w0 rfl) (s_add (r := ((k + 1 : Nat) : Int)) (ej rfl rfl) ev_c (by omega) (by omega) (w0 rfl) (s_assign (v := .int .i64 ((k + 1 : Nat) : Int)) (ej rfl rfl) (w0 rfl) (c_done ?_)))))))))
    exact ⟨(k + 1),_,rfl,⟨(Ext.trans x38 x87),by omega,e41,e42,(congrArg Value.string (by simp only [ruP]; rw [if_neg (by omega)]; simp only [app_assoc])),rfl⟩,(show x.body.length - (k + 1) < x.body.length - k by omega)⟩
  refine c_cond0 (vb (ej rfl rfl) (decide_eq_false h45)) (c_exit (e_then (e_then (e_hit (n_then (c_seq (c_reg (s_move (v := .string (colW x.p (x.head.map argW) ++ ruP x.body k)) (ej rfl e43) (w0 rfl) (s_cat (ej rfl rfl) ev_c (by (try simp only [ByteArray.size_append,z0,z1,z2,z3,z4,z5,z6]); omega) (w0 rfl) (s_assign (v := .string ((colW x.p (x.head.map argW) ++ ruP x.body k) ++ (⟨#[46]⟩ : ByteArray))) (ej rfl rfl) (w0 rfl) (c_done ?_)))))))))))
  refine n_then (c_ret (ret1 (v := .string ((colW x.p (x.head.map argW) ++ ruP x.body k) ++ (⟨#[46]⟩ : ByteArray))) rfl rfl rfl ?_))
  refine ⟨_,rfl,?_,(Ext.trans (Ext.trans x6 x35) x38)⟩
  (refine congrArg Value.string ?_; have e_ : k = x.body.length := (by omega); subst e_; rfl)
end Go.Proofs.Zw
