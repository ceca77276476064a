/- YtjjkfbjidpolmaaDoorDG: part of the proof of this seat, by an AI agent: walks of the functions that the law reaches. No condition of its own but those that its theorems state. -/
import Derived.Test.YtjjkfbjidpolmaaDoorDF
import Derived.Test.YtjjkfbjidpolmaaDoorWkZ
set_option linter.unusedVariables false
set_option linter.unusedSimpArgs false
set_option maxRecDepth 10000
namespace Go.Proofs.Dw
open Go Go.Wk Go.Proofs Go.Lib
attribute [local irreducible] Go.wpList Go.wpStill Go.wpQuiet Go.Code.wp Go.Calls
theorem F_co5 : Tryd.prog.cellsOf 5 = 1 := by kernel_rfl
theorem F_e95 : enterable Tryd.prog 95 = true := by kernel_rfl
theorem F_f83_0 : fieldAt Tryd.prog 83 0 0 = true := by kernel_rfl
theorem F_f83_1 : fieldAt Tryd.prog 83 1 1 = true := by kernel_rfl
theorem F_is83 : (Tryd.prog.info? 83).isSome = true := by kernel_rfl
theorem F_o80 : one Tryd.prog 80 = true := by kernel_rfl
theorem F_o81 : one Tryd.prog 81 = true := by kernel_rfl
theorem F_sz80 : (Tryd.prog.info? 80).map (·.size) = some 1 := by kernel_rfl
theorem F_sz81 : (Tryd.prog.info? 81).map (·.size) = some 1 := by kernel_rfl
theorem F_sz83 : (Tryd.prog.info? 83).map (·.size) = some 2 := by kernel_rfl
theorem F_ue130 : Tryd.prog.underlying 130 = some (.pointer 5) := by kernel_rfl
theorem F_ue80 : Tryd.prog.underlying 80 = some (.pointer 83) := by kernel_rfl
theorem F_up80 : Tryd.prog.underlying 80 = some (.pointer (Tryd.prog.pointee 80)) := by kernel_rfl
theorem F_uu159 : Tryd.prog.underlying 159 = some .unsafePointer := by kernel_rfl
set_option maxHeartbeats 4000000 in
theorem b_copyCheck_fresh (T g n c : Nat) (A : Option Addr) (w : World) (hg : w.heap[g]? = some (.cells #[.pointer none, .slice A n c] T (0, 0))) (hlies : liesAt Tryd.prog Tryd.prog.depth T (2 / Tryd.prog.cellsOf T) 0 83 1 = true) :
    Rt Tryd.prog 95 #[.pointer (some ⟨g, 0, none⟩)] w fun v w' => v = .tuple #[] ∧ Wrote w g (.cells #[.pointer (some ⟨g, 0, none⟩), .slice A n c] T (0, 0)) w' := by
  refine enter Tryd.func95 rfl (l := [.pointer (some ⟨g, 0, none⟩)]) rfl Tryd.ntmps95 (Nat.le_of_ble_eq_true rfl) ?_
  refine c_seq ?_
  refine c_reg ?_
  refine s_move (v := .pointer (some ⟨g, 0, none⟩)) (ev_t rfl rfl) (w0 rfl) ?_
  refine s_nilCheck (ev_t rfl rfl) (w0 rfl) ?_
  refine s_field (off := 0) (o' := 0) F_f83_0 (ev_t rfl rfl) rfl (w0 rfl) ?_
  refine s_load (v := .pointer none) F_o80 (ev_t rfl rfl) (cell_of_blk (i := 0) hg rfl) (w0 rfl) ?_
  refine s_eqNil F_up80 (ev_t rfl rfl) ev_c (w0 rfl) ?_
  refine c_done ?_
  refine n_then ?_
  refine c_cond1 (ev_t rfl rfl) ?_
  refine c_reg ?_
  refine s_move (v := .pointer (some ⟨g, 0, none⟩)) (ev_t rfl rfl) (w0 rfl) ?_
  refine s_move (v := .pointer (some ⟨g, 0, none⟩)) (ev_t rfl rfl) (w0 rfl) ?_
  refine s_ptrConv (conv_toU F_ue80 F_uu159 F_sz83 hg) (ev_t rfl rfl) (w0 rfl) ?_
  refine s_extern (ex := Extern.AbiNoEscape.same) Tryd.func112 (by kernel_rfl) (by kernel_rfl) (by kernel_rfl) (by kernel_rfl) ev_f (ev_t rfl rfl) (v := .pointer (some ⟨g, 0, none⟩)) rfl (w0 rfl) ?_
  refine s_ptrConv (conv_ofU F_uu159 F_ue80 F_is83 hg hlies) (ev_t rfl rfl) (w0 rfl) ?_
  refine s_nilCheck (ev_t rfl rfl) (w0 rfl) ?_
  refine s_field (off := 0) (o' := 0) F_f83_0 (ev_t rfl rfl) rfl (w0 rfl) ?_
  refine s_store (cs' := #[.pointer (some ⟨g, 0, none⟩), .slice A n c]) F_sz80 (ev_t rfl rfl) (ev_t rfl rfl) (l := [.pointer (some ⟨g, 0, none⟩)]) rfl rfl rfl hg (Nat.le_of_ble_eq_true rfl) rfl (w0 rfl) ?_
  intro w1 k2
  refine c_done ?_
  refine ret0 rfl ?_
  exact ⟨_, rfl, rfl, k2⟩
set_option maxHeartbeats 4000000 in
theorem b_copyCheck_used (T g n c : Nat) (A : Option Addr) (w : World) (hg : w.heap[g]? = some (.cells #[.pointer (some ⟨g, 0, none⟩), .slice A n c] T (0, 0))) (hlies : liesAt Tryd.prog Tryd.prog.depth T (2 / Tryd.prog.cellsOf T) 0 83 1 = true) :
    Rt Tryd.prog 95 #[.pointer (some ⟨g, 0, none⟩)] w fun v w' => v = .tuple #[] ∧ Wrote w g (.cells #[.pointer (some ⟨g, 0, none⟩), .slice A n c] T (0, 0)) w' := by
  refine enter Tryd.func95 rfl (l := [.pointer (some ⟨g, 0, none⟩)]) rfl Tryd.ntmps95 (Nat.le_of_ble_eq_true rfl) ?_
  refine c_seq ?_
  refine c_reg ?_
  refine s_move (v := .pointer (some ⟨g, 0, none⟩)) (ev_t rfl rfl) (w0 rfl) ?_
  refine s_nilCheck (ev_t rfl rfl) (w0 rfl) ?_
  refine s_field (off := 0) (o' := 0) F_f83_0 (ev_t rfl rfl) rfl (w0 rfl) ?_
  refine s_load (v := .pointer (some ⟨g, 0, none⟩)) F_o80 (ev_t rfl rfl) (cell_of_blk (i := 0) hg rfl) (w0 rfl) ?_
  refine s_eqNil F_up80 (ev_t rfl rfl) ev_c (w0 rfl) ?_
  refine c_done ?_
  refine n_then ?_
  refine c_cond0 (ev_t rfl rfl) ?_
  refine c_seq ?_
  refine c_reg ?_
  refine s_move (v := .pointer (some ⟨g, 0, none⟩)) (ev_t rfl rfl) (w0 rfl) ?_
  refine s_nilCheck (ev_t rfl rfl) (w0 rfl) ?_
  refine s_field (off := 0) (o' := 0) F_f83_0 (ev_t rfl rfl) rfl (w0 rfl) ?_
  refine s_load (v := .pointer (some ⟨g, 0, none⟩)) F_o80 (ev_t rfl rfl) (cell_of_blk (i := 0) hg rfl) (w0 rfl) ?_
  refine s_move (v := .pointer (some ⟨g, 0, none⟩)) (ev_t rfl rfl) (w0 rfl) ?_
  refine s_neSame F_ue80 F_is83 (ev_t rfl rfl) (ev_t rfl rfl) (w0 rfl) ?_
  refine c_done ?_
  refine n_then ?_
  refine c_cond0 (ev_t rfl rfl) ?_
  refine c_skip ?_
  refine ret0 rfl ?_
  exact ⟨_, rfl, rfl, ⟨rfl, hg, Keep.refl _ _⟩⟩
theorem b_copyCheck (T g n c : Nat) (A : Option Addr) (w : World) {a : Value} (ha : a = .pointer none ∨ a = .pointer (some ⟨g, 0, none⟩)) (hg : w.heap[g]? = some (.cells #[a, .slice A n c] T (0, 0))) (hlies : liesAt Tryd.prog Tryd.prog.depth T (2 / Tryd.prog.cellsOf T) 0 83 1 = true) :
    Rt Tryd.prog 95 #[.pointer (some ⟨g, 0, none⟩)] w fun v w' => v = .tuple #[] ∧ Wrote w g (.cells #[.pointer (some ⟨g, 0, none⟩), .slice A n c] T (0, 0)) w' := by
  rcases ha with rfl | rfl
  · exact b_copyCheck_fresh T g n c A w hg hlies
  · exact b_copyCheck_used T g n c A w hg hlies
set_option maxHeartbeats 4000000 in
theorem b_WriteString (T B g : Nat) (s0 s : ByteArray) (w : World) (hb : BW 5 T B w g s0) (hB : B ≤ w.heap.size) (hlies : liesAt Tryd.prog Tryd.prog.depth T (2 / Tryd.prog.cellsOf T) 0 83 1 = true) (hs : s0.size + s.size ≤ 140737488355328) :
    Rt Tryd.prog 69 #[.pointer (some ⟨g, 0, none⟩), .string s] w fun v w' => v = .tuple #[.int .i64 s.size, .nilIface] ∧ Wr 5 T B g (s0 ++ s) w w' := by
  refine enter Tryd.func69 rfl (l := [.pointer (some ⟨g, 0, none⟩), .string s]) rfl Tryd.ntmps69 (Nat.le_of_ble_eq_true rfl) ?_
  obtain ⟨hne, hBg, a, A, c, ha, hg, ho⟩ := hb
  refine c_seq ?_
  refine c_reg ?_
  refine s_assign (v := .int .i64 0) ev_c (w0 rfl) ?_
  refine s_assign (v := .nilIface) ev_c (w0 rfl) ?_
  refine c_done ?_
  refine n_then ?_
  refine c_seq ?_
  refine c_reg ?_
  refine s_move (v := .pointer (some ⟨g, 0, none⟩)) (ev_t rfl rfl) (w0 rfl) ?_
  refine s_call F_e95 (w0 rfl) ev_f (m1 (ev_t rfl rfl)) (args := #[.pointer (some ⟨g, 0, none⟩)]) rfl (b_copyCheck T g _ _ _ _ ha hg hlies) ?_
  rintro _ w1 ⟨rfl, k2⟩
  have ow3 := own_wrote ho hg hne k2
  refine c_done ?_
  refine n_then ?_
  refine c_seq ?_
  refine c_reg ?_
  refine s_move (v := .pointer (some ⟨g, 0, none⟩)) (ev_t rfl rfl) (w0 rfl) ?_
  refine s_move (v := .pointer (some ⟨g, 0, none⟩)) (ev_t rfl rfl) (w0 rfl) ?_
  refine s_nilCheck (ev_t rfl rfl) (w0 rfl) ?_
  refine s_field (off := 1) (o' := 1) F_f83_1 (ev_t rfl rfl) rfl (w0 rfl) ?_
  refine s_load (v := .slice A s0.size c) F_o81 (ev_t rfl rfl) (cell_of_blk (i := 1) (Wrote.blk k2) rfl) (w0 rfl) ?_
  refine s_move (v := .string s) (ev_t rfl rfl) (w0 rfl) ?_
  refine s_appendS F_ul81 F_us9 F_if5 (ev_t rfl rfl) ow3 (ev_t rfl rfl) (by omega) (Nat.le_trans hB (Keep.size (Wrote.keep k2))) (w0 rfl) ?_
  intro A6 c7 w4 ow8 k5
  refine s_nilCheck (ev_t rfl rfl) (w0 rfl) ?_
  refine s_field (off := 1) (o' := 1) F_f83_1 (ev_t rfl rfl) rfl (w0 rfl) ?_
  refine s_store (cs' := #[.pointer (some ⟨g, 0, none⟩), .slice A6 (s0.size + s.size) c7]) F_sz81 (ev_t rfl rfl) (ev_t rfl rfl) (l := [.slice A6 (s0.size + s.size) c7]) rfl rfl rfl (Keep.blk k5 (Wrote.blk k2) (own_ne ow3 (Wrote.blk k2) (by first | decide | assumption))) (Nat.le_of_ble_eq_true rfl) rfl (w0 rfl) ?_
  intro w9 k10
  refine c_done ?_
  refine n_then ?_
  refine c_seq ?_
  refine c_reg ?_
  refine s_move (v := .string s) (ev_t rfl rfl) (w0 rfl) ?_
  refine s_lenS F_us9 (ev_t rfl rfl) (w0 rfl) ?_
  refine s_assign (v := .int .i64 (s.size : Int)) (ev_t rfl rfl) (w0 rfl) ?_
  refine s_assign (v := .nilIface) ev_c (w0 rfl) ?_
  refine c_done ?_
  refine n_then ?_
  refine c_ret ?_
  refine ret2 (v := .int .i64 (s.size : Int)) (v2 := .nilIface) rfl rfl rfl rfl rfl ?_
  exact ⟨_, rfl, rfl, BW.finish hne hBg hB hg ho k2 (Ext.refl w1) k5 ow8 rfl k10⟩
set_option maxHeartbeats 4000000 in
theorem b_WriteByte (T B g : Nat) (s0 : ByteArray) (b : UInt8) (w : World) (hb : BW 5 T B w g s0) (hB : B ≤ w.heap.size) (hlies : liesAt Tryd.prog Tryd.prog.depth T (2 / Tryd.prog.cellsOf T) 0 83 1 = true) (hs : s0.size + 1 ≤ 140737488355328) :
    Rt Tryd.prog 115 #[.pointer (some ⟨g, 0, none⟩), .int .u8 ((b.toNat : Nat) : Int)] w fun v w' => v = .nilIface ∧ Wr 5 T B g (s0 ++ ⟨#[b]⟩) w w' := by
  refine enter Tryd.func115 rfl (l := [.pointer (some ⟨g, 0, none⟩), .int .u8 ((b.toNat : Nat) : Int)]) rfl Tryd.ntmps115 (Nat.le_of_ble_eq_true rfl) ?_
  obtain ⟨hne, hBg, a, A, c, ha, hg, ho⟩ := hb
  refine c_seq ?_
  refine c_reg ?_
  refine s_assign (v := .nilIface) ev_c (w0 rfl) ?_
  refine c_done ?_
  refine n_then ?_
  refine c_seq ?_
  refine c_reg ?_
  refine s_move (v := .pointer (some ⟨g, 0, none⟩)) (ev_t rfl rfl) (w0 rfl) ?_
  refine s_call F_e95 (w0 rfl) ev_f (m1 (ev_t rfl rfl)) (args := #[.pointer (some ⟨g, 0, none⟩)]) rfl (b_copyCheck T g _ _ _ _ ha hg hlies) ?_
  rintro _ w1 ⟨rfl, k2⟩
  have ow3 := own_wrote ho hg hne k2
  refine c_done ?_
  refine n_then ?_
  refine c_seq ?_
  refine c_reg ?_
  refine s_move (v := .pointer (some ⟨g, 0, none⟩)) (ev_t rfl rfl) (w0 rfl) ?_
  refine s_move (v := .pointer (some ⟨g, 0, none⟩)) (ev_t rfl rfl) (w0 rfl) ?_
  refine s_nilCheck (ev_t rfl rfl) (w0 rfl) ?_
  refine s_field (off := 1) (o' := 1) F_f83_1 (ev_t rfl rfl) rfl (w0 rfl) ?_
  refine s_load (v := .slice A s0.size c) F_o81 (ev_t rfl rfl) (cell_of_blk (i := 1) (Wrote.blk k2) rfl) (w0 rfl) ?_
  refine s_move (v := .int .u8 ((b.toNat : Nat) : Int)) (ev_t rfl rfl) (w0 rfl) ?_
  refine s_bslice (vs := [(0, .int .u8 ((b.toNat : Nat) : Int))]) (cs := #[.int .u8 ((b.toNat : Nat) : Int)]) (b1 (ev_t rfl rfl)) (bs81_1_0iu8 ((b.toNat : Nat) : Int)) (w0 rfl) ?_
  intro w5 g4 n6
  refine s_append (m := 1) (k := 1) (news := [.int .u8 ((b.toNat : Nat) : Int)]) F_ul81 F_if5 rfl (by decide) (ev_t rfl rfl) (own_ext (NewB.ext n6) ow3) (ev_t rfl rfl) rfl (by have z_ := blk_cells (NewB.blk n6) 0 (cs := [.int .u8 ((b.toNat : Nat) : Int)]) rfl; exact z_) rfl (by omega) (by omega) (Nat.le_trans (Nat.le_trans hB (Keep.size (Wrote.keep k2))) (Keep.size (NewB.ext n6))) (w0 rfl) ?_
  intro A9 c10 w7 ow11 k8
  refine s_nilCheck (ev_t rfl rfl) (w0 rfl) ?_
  refine s_field (off := 1) (o' := 1) F_f83_1 (ev_t rfl rfl) rfl (w0 rfl) ?_
  refine s_store (cs' := #[.pointer (some ⟨g, 0, none⟩), .slice A9 (s0.size + 1) c10]) F_sz81 (ev_t rfl rfl) (ev_t rfl rfl) (l := [.slice A9 (s0.size + 1) c10]) rfl rfl rfl (Keep.blk k8 (Ext.blk (NewB.ext n6) (Wrote.blk k2)) (own_ne (own_ext (NewB.ext n6) ow3) (Ext.blk (NewB.ext n6) (Wrote.blk k2)) (by first | decide | assumption))) (Nat.le_of_ble_eq_true rfl) rfl (w0 rfl) ?_
  intro w12 k13
  refine c_done ?_
  refine n_then ?_
  refine c_seq ?_
  refine c_reg ?_
  refine s_assign (v := .nilIface) ev_c (w0 rfl) ?_
  refine c_done ?_
  refine n_then ?_
  refine c_ret ?_
  refine ret1 (v := .nilIface) rfl rfl rfl ?_
  exact ⟨_, rfl, rfl, BW.finish hne hBg hB hg ho k2 (NewB.ext n6) k8 (own_bytes ow11 (by simp [strCells])) rfl k13⟩
set_option maxHeartbeats 4000000 in
theorem b_String (T B g : Nat) (s0 : ByteArray) (w : World) (hb : BW 5 T B w g s0) (hB : B ≤ w.heap.size) (h0 : s0.size ≠ 0) :
    Rt Tryd.prog 36 #[.pointer (some ⟨g, 0, none⟩)] w fun v w' => v = .string s0 ∧ Go.RowKit.Below B w w' := by
  refine enter Tryd.func36 rfl (l := [.pointer (some ⟨g, 0, none⟩)]) rfl Tryd.ntmps36 (Nat.le_of_ble_eq_true rfl) ?_
  obtain ⟨hne, hBg, a, A, c, ha, hg, ho⟩ := hb
  obtain ⟨b_, rfl, _⟩ := own_cells ho (Nat.pos_of_ne_zero h0)
  have hcap_ := own_cap ho h0
  refine c_seq ?_
  refine c_reg ?_
  refine s_assign (v := .string (⟨#[]⟩ : ByteArray)) ev_c (w0 rfl) ?_
  refine c_done ?_
  refine n_then ?_
  refine c_seq ?_
  refine c_tail 10 mixed (by kernel_rfl) rfl rfl ?_
  intro w1 x2
  refine t_val (v := .pointer (some ⟨g, 0, none⟩)) (w0 rfl) (r_move (v := .pointer (some ⟨g, 0, none⟩)) (ev_t rfl rfl)) ?_
  refine t_val (v := .pointer (some ⟨g, 0, none⟩)) (w0 rfl) (r_nilCheck (ev_t rfl rfl)) ?_
  refine t_val (v := .pointer (some ⟨g, 1, none⟩)) (w0 rfl) (r_field (off := 1) (o' := 1) F_f83_1 (ev_t rfl rfl) rfl) ?_
  refine t_val (v := .slice (some ⟨b_, 0, none⟩) s0.size c) (w0 rfl) (r_load (v := .slice (some ⟨b_, 0, none⟩) s0.size c) F_o81 (ev_t rfl rfl) (cell_of_blk (i := 1) (Ext.blk x2 hg) rfl)) ?_
  refine t_val (v := .pointer (some ⟨b_, 0, none⟩)) (w0 rfl) (r_sliceData (a := ⟨b_, 0, none⟩) (ev_t rfl rfl) hcap_) ?_
  refine t_val (v := .pointer (some ⟨g, 0, none⟩)) (w0 rfl) (r_move (v := .pointer (some ⟨g, 0, none⟩)) (ev_t rfl rfl)) ?_
  refine t_val (v := .pointer (some ⟨g, 0, none⟩)) (w0 rfl) (r_nilCheck (ev_t rfl rfl)) ?_
  refine t_val (v := .pointer (some ⟨g, 1, none⟩)) (w0 rfl) (r_field (off := 1) (o' := 1) F_f83_1 (ev_t rfl rfl) rfl) ?_
  refine t_val (v := .slice (some ⟨b_, 0, none⟩) s0.size c) (w0 rfl) (r_load (v := .slice (some ⟨b_, 0, none⟩) s0.size c) F_o81 (ev_t rfl rfl) (cell_of_blk (i := 1) (Ext.blk x2 hg) rfl)) ?_
  refine t_val (v := .int .i64 (s0.size : Int)) (w0 rfl) (r_lenL F_l81 (ev_t rfl rfl)) ?_
  refine t_done ?_
  refine s_unsafeString F_ue130 F_co5 (own_ext x2 ho) h0 rfl (ev_t rfl rfl) (ev_t rfl rfl) (w0 rfl) ?_
  intro w3 k4
  refine s_assign (v := .string s0) (ev_t rfl rfl) (w0 rfl) ?_
  refine c_done ?_
  refine n_then ?_
  refine c_ret ?_
  refine ret1 (v := .string s0) rfl rfl rfl ?_
  exact ⟨_, rfl, rfl, Go.RowKit.Below.trans (below_ext x2 hB) k4⟩
end Go.Proofs.Dw
