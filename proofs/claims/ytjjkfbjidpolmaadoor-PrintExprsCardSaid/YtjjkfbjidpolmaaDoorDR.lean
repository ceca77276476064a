/- YtjjkfbjidpolmaaDoorDR: part of the proof of this seat, by an AI agent: walks of the functions that the law reaches. No condition of its own but those that its theorems state. -/
import Derived.Test.YtjjkfbjidpolmaaDoorDQ
import Derived.Test.YtjjkfbjidpolmaaDoorWkL
set_option linter.unusedVariables false
set_option linter.unusedSimpArgs false
set_option maxRecDepth 10000
namespace Go.Proofs.Dw
open Go Go.Wk Go.Proofs Go.Lib
attribute [local irreducible] Go.wpList Go.wpStill Go.wpQuiet Go.Code.wp Go.Calls
theorem F_e11 : enterable Tryd.prog 11 = true := by kernel_rfl
theorem F_e26 : enterable Tryd.prog 26 = true := by kernel_rfl
theorem F_e6 : enterable Tryd.prog 6 = true := by kernel_rfl
theorem F_e8 : enterable Tryd.prog 8 = true := by kernel_rfl
theorem F_e9 : enterable Tryd.prog 9 = true := by kernel_rfl
theorem bd26_0ii8_1ii64 : ∀ (a0 : Int) (a1 : Int), ∀ w : World, (Instr.build 26 [(0, .int .i8 a0), (1, .int .i64 a1)].toArray).run Tryd.prog w = .ok (.agg #[.int .i8 a0, .int .i64 a1, .string (⟨#[]⟩ : ByteArray)]) w := by
  intros
  kernel_rfl
theorem bd26_0ii8_2s : ∀ (a0 : Int) (a1 : ByteArray), ∀ w : World, (Instr.build 26 [(0, .int .i8 a0), (2, .string a1)].toArray).run Tryd.prog w = .ok (.agg #[.int .i8 a0, .int .i64 0, .string a1]) w := by
  intros
  kernel_rfl
theorem bd28_1ii8_1ii64_1s : ∀ (a0 : Int) (a1 : Int) (a2 : ByteArray), ∀ w : World, (Instr.build 28 [(1, .agg #[.int .i8 a0, .int .i64 a1, .string a2])].toArray).run Tryd.prog w = .ok (.agg #[.string (⟨#[]⟩ : ByteArray), .int .i8 a0, .int .i64 a1, .string a2]) w := by
  intros
  kernel_rfl
theorem bd31_0ii8_2s : ∀ (a0 : Int) (a1 : Option Addr) (a1n a1c : Nat), ∀ w : World, (Instr.build 31 [(0, .int .i8 a0), (2, .slice a1 a1n a1c)].toArray).run Tryd.prog w = .ok (.agg #[.int .i8 a0, .string (⟨#[]⟩ : ByteArray), .int .i8 0, .int .i64 0, .string (⟨#[]⟩ : ByteArray), .slice a1 a1n a1c]) w := by
  intros
  kernel_rfl
theorem bd31_1s_1ii8_1ii64_1s : ∀ (a0 : ByteArray) (a1 : Int) (a2 : Int) (a3 : ByteArray), ∀ w : World, (Instr.build 31 [(1, .agg #[.string a0, .int .i8 a1, .int .i64 a2, .string a3])].toArray).run Tryd.prog w = .ok (.agg #[.int .i8 0, .string a0, .int .i8 a1, .int .i64 a2, .string a3, .slice none 0 0]) w := by
  intros
  kernel_rfl
theorem bd46_0s_1s : ∀ (a0 : ByteArray) (a1 : Option Addr) (a1n a1c : Nat), ∀ w : World, (Instr.build 46 [(0, .string a0), (1, .slice a1 a1n a1c)].toArray).run Tryd.prog w = .ok (.agg #[.string a0, .slice a1 a1n a1c]) w := by
  intros
  kernel_rfl
theorem bs29_2_0ii8_0s_0ii8_0ii64_0s_0s_1ii8_1s_1ii8_1ii64_1s_1s : ∀ (a0 : Int) (a1 : ByteArray) (a2 : Int) (a3 : Int) (a4 : ByteArray) (a5 : Option Addr) (a5n a5c : Nat) (a6 : Int) (a7 : ByteArray) (a8 : Int) (a9 : Int) (a10 : ByteArray) (a11 : Option Addr) (a11n a11c : Nat), ∀ w : World, (Instr.buildSlice 29 2 [(0, .agg #[.int .i8 a0, .string a1, .int .i8 a2, .int .i64 a3, .string a4, .slice a5 a5n a5c]), (1, .agg #[.int .i8 a6, .string a7, .int .i8 a8, .int .i64 a9, .string a10, .slice a11 a11n a11c])].toArray).run Tryd.prog w = .ok (.slice (some ⟨w.heap.size, 0, none⟩) 2 2) (w.alloc (.cells #[.int .i8 a0, .string a1, .int .i8 a2, .int .i64 a3, .string a4, .slice a5 a5n a5c, .int .i8 a6, .string a7, .int .i8 a8, .int .i64 a9, .string a10, .slice a11 a11n a11c] 31)) := by
  intros
  kernel_rfl
theorem bs44_2_0s_0ii8_0ii64_0s_1s_1ii8_1ii64_1s : ∀ (a0 : ByteArray) (a1 : Int) (a2 : Int) (a3 : ByteArray) (a4 : ByteArray) (a5 : Int) (a6 : Int) (a7 : ByteArray), ∀ w : World, (Instr.buildSlice 44 2 [(0, .agg #[.string a0, .int .i8 a1, .int .i64 a2, .string a3]), (1, .agg #[.string a4, .int .i8 a5, .int .i64 a6, .string a7])].toArray).run Tryd.prog w = .ok (.slice (some ⟨w.heap.size, 0, none⟩) 2 2) (w.alloc (.cells #[.string a0, .int .i8 a1, .int .i64 a2, .string a3, .string a4, .int .i8 a5, .int .i64 a6, .string a7] 28)) := by
  intros
  kernel_rfl
theorem p_liveE (w : World) (g g2 : Nat) (tb : Tabs Tryd.prog w) (h1 : w.heap[g]? = some (.cells #[.int .i8 0, .string ⟨#[88]⟩, .int .i8 0, .int .i64 0, .string ⟨#[]⟩, .slice none 0 0, .int .i8 1, .string ⟨#[]⟩, .int .i8 0, .int .i64 0, .string ⟨#[]⟩, .slice (some ⟨g2, 0, none⟩) 1 1] 31 (0, 0)))
    (h2 : w.heap[g2]? = some (.cells #[.int .i8 0, .string ⟨#[]⟩, .int .i8 1, .int .i64 5, .string ⟨#[]⟩, .slice none 0 0] 31 (0, 0))) : Rt Tryd.prog 9 #[.agg #[.int .i8 3, .string ⟨#[]⟩, .int .i8 0, .int .i64 0, .string ⟨#[]⟩, .slice (some ⟨g, 0, none⟩) 2 2]] w fun v w' => v = .tuple #[.string ⟨#[88, 32, 45, 32, 45, 40, 53, 41]⟩, .int .i64 0] ∧ Ext w w' := by
  refine Rt.mono (p_Expr exLive (some ⟨g, 0, none⟩) 2 w ⟨by decide, nil_wf, by decide, by decide⟩ (live_row h1 h2) tb) ?_
  rintro v w' ⟨rfl, x⟩
  exact ⟨by rw [live_exB, if_pos rfl, live_exW]; rfl, x⟩
theorem p_liveA (w : World) (g : Nat) (tb : Tabs Tryd.prog w) (h1 : w.heap[g]? = some (.cells #[.string ⟨#[95]⟩, .int .i8 0, .int .i64 0, .string ⟨#[]⟩, .string ⟨#[]⟩, .int .i8 2, .int .i64 0, .string ⟨#[97]⟩] 28 (0, 0))) :
    Rt Tryd.prog 26 #[.agg #[.string ⟨#[112]⟩, .slice (some ⟨g, 0, none⟩) 2 2]] w fun v w' => v = .tuple #[.string ⟨#[112, 40, 95, 44, 32, 97, 41]⟩, .int .i64 0] ∧ Ext w w' := by
  refine Rt.mono (p_Atom atLive (some ⟨g, 0, none⟩) 2 w ⟨by decide, by decide, by decide⟩ (live_args h1) tb) ?_
  rintro v w' ⟨rfl, x⟩
  exact ⟨by rw [live_atB, if_pos rfl, live_atW]; rfl, x⟩
set_option maxHeartbeats 4000000 in
theorem l_lives  (w : World) (tb : Tabs Tryd.prog w) :
    Rt Tryd.prog 11 #[] w fun v w' => v = .bool true ∧ Ext w w' := by
  refine enter Tryd.func11 rfl (l := []) rfl Tryd.ntmps11 (Nat.le_of_ble_eq_true rfl) ?_
  refine c_seq ?_
  refine c_reg ?_
  refine s_assign (v := .bool false) ev_c (w0 rfl) ?_
  refine c_done ?_
  refine n_then ?_
  refine c_seq ?_
  refine c_reg ?_
  refine s_build (v := .agg #[.string (⟨#[88]⟩ : ByteArray), .int .i8 0, .int .i64 0, .string (⟨#[]⟩ : ByteArray)]) (vs := [(0, .string (⟨#[88]⟩ : ByteArray))]) (b1 ev_c) (bd28_0s (⟨#[88]⟩ : ByteArray)) (w0 rfl) ?_
  refine s_build (v := .agg #[.int .i8 0, .string (⟨#[88]⟩ : ByteArray), .int .i8 0, .int .i64 0, .string (⟨#[]⟩ : ByteArray), .slice none 0 0]) (vs := [(1, .agg #[.string (⟨#[88]⟩ : ByteArray), .int .i8 0, .int .i64 0, .string (⟨#[]⟩ : ByteArray)])]) (b1 (ev_t rfl rfl)) (bd31_1s_1ii8_1ii64_1s (⟨#[88]⟩ : ByteArray) 0 0 (⟨#[]⟩ : ByteArray)) (w0 rfl) ?_
  refine s_build (v := .agg #[.int .i8 1, .int .i64 5, .string (⟨#[]⟩ : ByteArray)]) (vs := [(0, .int .i8 1), (1, .int .i64 5)]) (b2 ev_c ev_c) (bd26_0ii8_1ii64 1 5) (w0 rfl) ?_
  refine s_build (v := .agg #[.string (⟨#[]⟩ : ByteArray), .int .i8 1, .int .i64 5, .string (⟨#[]⟩ : ByteArray)]) (vs := [(1, .agg #[.int .i8 1, .int .i64 5, .string (⟨#[]⟩ : ByteArray)])]) (b1 (ev_t rfl rfl)) (bd28_1ii8_1ii64_1s 1 5 (⟨#[]⟩ : ByteArray)) (w0 rfl) ?_
  refine s_build (v := .agg #[.int .i8 0, .string (⟨#[]⟩ : ByteArray), .int .i8 1, .int .i64 5, .string (⟨#[]⟩ : ByteArray), .slice none 0 0]) (vs := [(1, .agg #[.string (⟨#[]⟩ : ByteArray), .int .i8 1, .int .i64 5, .string (⟨#[]⟩ : ByteArray)])]) (b1 (ev_t rfl rfl)) (bd31_1s_1ii8_1ii64_1s (⟨#[]⟩ : ByteArray) 1 5 (⟨#[]⟩ : ByteArray)) (w0 rfl) ?_
  refine s_alloc (cs := #[.int .i8 0, .string (⟨#[]⟩ : ByteArray), .int .i8 0, .int .i64 0, .string (⟨#[]⟩ : ByteArray), .slice none 0 0]) (w0 rfl) F_z31 rfl ?_
  intro w2 g1 n3
  refine s_alloc (cs := #[.int .i8 0, .string (⟨#[]⟩ : ByteArray), .int .i8 0, .int .i64 0, .string (⟨#[]⟩ : ByteArray), .slice none 0 0]) (w0 rfl) F_z31 rfl ?_
  intro w5 g4 n6
  refine s_store (cs' := #[.int .i8 0, .string (⟨#[88]⟩ : ByteArray), .int .i8 0, .int .i64 0, .string (⟨#[]⟩ : ByteArray), .slice none 0 0]) F_sz31 (ev_t rfl rfl) (ev_t rfl rfl) (l := [.int .i8 0, .string (⟨#[88]⟩ : ByteArray), .int .i8 0, .int .i64 0, .string (⟨#[]⟩ : ByteArray), .slice none 0 0]) rfl rfl rfl (Ext.blk (NewB.ext n6) (NewB.blk n3)) (Nat.le_of_ble_eq_true rfl) rfl (w0 rfl) ?_
  intro w7 k8
  refine s_store (cs' := #[.int .i8 0, .string (⟨#[]⟩ : ByteArray), .int .i8 1, .int .i64 5, .string (⟨#[]⟩ : ByteArray), .slice none 0 0]) F_sz31 (ev_t rfl rfl) (ev_t rfl rfl) (l := [.int .i8 0, .string (⟨#[]⟩ : ByteArray), .int .i8 1, .int .i64 5, .string (⟨#[]⟩ : ByteArray), .slice none 0 0]) rfl rfl rfl (Keep.blk (Wrote.keep k8) (NewB.blk n6) (by have a_ := NewB.eq n6; have b_ := lt_of_blk (NewB.blk n3); omega)) (Nat.le_of_ble_eq_true rfl) rfl (w0 rfl) ?_
  intro w9 k10
  refine c_done ?_
  refine n_then ?_
  refine c_seq ?_
  refine c_reg ?_
  refine s_loadL (cs := [.int .i8 0, .string (⟨#[88]⟩ : ByteArray), .int .i8 0, .int .i64 0, .string (⟨#[]⟩ : ByteArray), .slice none 0 0]) (ca := #[.int .i8 0, .string (⟨#[88]⟩ : ByteArray), .int .i8 0, .int .i64 0, .string (⟨#[]⟩ : ByteArray), .slice none 0 0]) F_m31 (ev_t rfl rfl) rfl rfl (blk_cells (Keep.blk (Wrote.keep k10) (Wrote.blk k8) (by have a_ := NewB.eq n6; have b_ := lt_of_blk (NewB.blk n3); omega)) 0 (cs := [.int .i8 0, .string (⟨#[88]⟩ : ByteArray), .int .i8 0, .int .i64 0, .string (⟨#[]⟩ : ByteArray), .slice none 0 0]) rfl) (w0 rfl) ?_
  refine s_loadL (cs := [.int .i8 0, .string (⟨#[]⟩ : ByteArray), .int .i8 1, .int .i64 5, .string (⟨#[]⟩ : ByteArray), .slice none 0 0]) (ca := #[.int .i8 0, .string (⟨#[]⟩ : ByteArray), .int .i8 1, .int .i64 5, .string (⟨#[]⟩ : ByteArray), .slice none 0 0]) F_m31 (ev_t rfl rfl) rfl rfl (blk_cells (Wrote.blk k10) 0 (cs := [.int .i8 0, .string (⟨#[]⟩ : ByteArray), .int .i8 1, .int .i64 5, .string (⟨#[]⟩ : ByteArray), .slice none 0 0]) rfl) (w0 rfl) ?_
  refine s_bslice (vs := [(0, .agg #[.int .i8 0, .string (⟨#[]⟩ : ByteArray), .int .i8 1, .int .i64 5, .string (⟨#[]⟩ : ByteArray), .slice none 0 0])]) (cs := #[.int .i8 0, .string (⟨#[]⟩ : ByteArray), .int .i8 1, .int .i64 5, .string (⟨#[]⟩ : ByteArray), .slice none 0 0]) (b1 (ev_t rfl rfl)) (bs29_1_0ii8_0s_0ii8_0ii64_0s_0s 0 (⟨#[]⟩ : ByteArray) 1 5 (⟨#[]⟩ : ByteArray) none 0 0) (w0 rfl) ?_
  intro w12 g11 n13
  refine s_build (v := .agg #[.int .i8 1, .string (⟨#[]⟩ : ByteArray), .int .i8 0, .int .i64 0, .string (⟨#[]⟩ : ByteArray), .slice (some ⟨g11, 0, none⟩) 1 1]) (vs := [(0, .int .i8 1), (2, .slice (some ⟨g11, 0, none⟩) 1 1)]) (b2 ev_c (ev_t rfl rfl)) (bd31_0ii8_2s 1 (some ⟨g11, 0, none⟩) 1 1) (w0 rfl) ?_
  refine s_bslice (vs := [(0, .agg #[.int .i8 0, .string (⟨#[88]⟩ : ByteArray), .int .i8 0, .int .i64 0, .string (⟨#[]⟩ : ByteArray), .slice none 0 0]), (1, .agg #[.int .i8 1, .string (⟨#[]⟩ : ByteArray), .int .i8 0, .int .i64 0, .string (⟨#[]⟩ : ByteArray), .slice (some ⟨g11, 0, none⟩) 1 1])]) (cs := #[.int .i8 0, .string (⟨#[88]⟩ : ByteArray), .int .i8 0, .int .i64 0, .string (⟨#[]⟩ : ByteArray), .slice none 0 0, .int .i8 1, .string (⟨#[]⟩ : ByteArray), .int .i8 0, .int .i64 0, .string (⟨#[]⟩ : ByteArray), .slice (some ⟨g11, 0, none⟩) 1 1]) (b2 (ev_t rfl rfl) (ev_t rfl rfl)) (bs29_2_0ii8_0s_0ii8_0ii64_0s_0s_1ii8_1s_1ii8_1ii64_1s_1s 0 (⟨#[88]⟩ : ByteArray) 0 0 (⟨#[]⟩ : ByteArray) none 0 0 1 (⟨#[]⟩ : ByteArray) 0 0 (⟨#[]⟩ : ByteArray) (some ⟨g11, 0, none⟩) 1 1) (w0 rfl) ?_
  intro w15 g14 n16
  refine s_build (v := .agg #[.int .i8 3, .string (⟨#[]⟩ : ByteArray), .int .i8 0, .int .i64 0, .string (⟨#[]⟩ : ByteArray), .slice (some ⟨g14, 0, none⟩) 2 2]) (vs := [(0, .int .i8 3), (2, .slice (some ⟨g14, 0, none⟩) 2 2)]) (b2 ev_c (ev_t rfl rfl)) (bd31_0ii8_2s 3 (some ⟨g14, 0, none⟩) 2 2) (w0 rfl) ?_
  refine s_call F_e9 (w0 rfl) ev_f (m1 (ev_t rfl rfl)) (args := #[.agg #[.int .i8 3, .string (⟨#[]⟩ : ByteArray), .int .i8 0, .int .i64 0, .string (⟨#[]⟩ : ByteArray), .slice (some ⟨g14, 0, none⟩) 2 2]]) rfl (p_liveE _ g14 g11 (Tabs.ext tb (Ext.trans (Ext.trans (Keep.then_ (Keep.then_ (Ext.trans (NewB.ext n3) (NewB.ext n6)) (Wrote.keep k8) (fun i_ hi_ h_ => by have a_ := NewB.eq n3; have b_ := Keep.size (Ext.refl w); omega)) (Wrote.keep k10) (fun i_ hi_ h_ => by have a_ := NewB.eq n6; have b_ := Keep.size (NewB.ext n3); omega)) (NewB.ext n13)) (NewB.ext n16))) (NewB.blk n16) (Ext.blk (NewB.ext n16) (NewB.blk n13))) ?_
  rintro _ w18 ⟨rfl, x17⟩
  refine s_move (v := .tuple #[.string (⟨#[88, 32, 45, 32, 45, 40, 53, 41]⟩ : ByteArray), .int .i64 0]) (ev_t rfl rfl) (w0 rfl) ?_
  refine s_extract (v := .string (⟨#[88, 32, 45, 32, 45, 40, 53, 41]⟩ : ByteArray)) (ev_t rfl rfl) rfl (w0 rfl) ?_
  refine s_extract (v := .int .i64 0) (ev_t rfl rfl) rfl (w0 rfl) ?_
  refine s_assign (v := .string (⟨#[88, 32, 45, 32, 45, 40, 53, 41]⟩ : ByteArray)) (ev_t rfl rfl) (w0 rfl) ?_
  refine s_assign (v := .int .i64 0) (ev_t rfl rfl) (w0 rfl) ?_
  refine c_done ?_
  refine n_then ?_
  refine c_seq ?_
  refine c_reg ?_
  refine s_build (v := .agg #[.string (⟨#[95]⟩ : ByteArray), .int .i8 0, .int .i64 0, .string (⟨#[]⟩ : ByteArray)]) (vs := [(0, .string (⟨#[95]⟩ : ByteArray))]) (b1 ev_c) (bd28_0s (⟨#[95]⟩ : ByteArray)) (w0 rfl) ?_
  refine s_build (v := .agg #[.int .i8 2, .int .i64 0, .string (⟨#[97]⟩ : ByteArray)]) (vs := [(0, .int .i8 2), (2, .string (⟨#[97]⟩ : ByteArray))]) (b2 ev_c ev_c) (bd26_0ii8_2s 2 (⟨#[97]⟩ : ByteArray)) (w0 rfl) ?_
  refine s_build (v := .agg #[.string (⟨#[]⟩ : ByteArray), .int .i8 2, .int .i64 0, .string (⟨#[97]⟩ : ByteArray)]) (vs := [(1, .agg #[.int .i8 2, .int .i64 0, .string (⟨#[97]⟩ : ByteArray)])]) (b1 (ev_t rfl rfl)) (bd28_1ii8_1ii64_1s 2 0 (⟨#[97]⟩ : ByteArray)) (w0 rfl) ?_
  refine s_bslice (vs := [(0, .agg #[.string (⟨#[95]⟩ : ByteArray), .int .i8 0, .int .i64 0, .string (⟨#[]⟩ : ByteArray)]), (1, .agg #[.string (⟨#[]⟩ : ByteArray), .int .i8 2, .int .i64 0, .string (⟨#[97]⟩ : ByteArray)])]) (cs := #[.string (⟨#[95]⟩ : ByteArray), .int .i8 0, .int .i64 0, .string (⟨#[]⟩ : ByteArray), .string (⟨#[]⟩ : ByteArray), .int .i8 2, .int .i64 0, .string (⟨#[97]⟩ : ByteArray)]) (b2 (ev_t rfl rfl) (ev_t rfl rfl)) (bs44_2_0s_0ii8_0ii64_0s_1s_1ii8_1ii64_1s (⟨#[95]⟩ : ByteArray) 0 0 (⟨#[]⟩ : ByteArray) (⟨#[]⟩ : ByteArray) 2 0 (⟨#[97]⟩ : ByteArray)) (w0 rfl) ?_
  intro w20 g19 n21
  refine s_build (v := .agg #[.string (⟨#[112]⟩ : ByteArray), .slice (some ⟨g19, 0, none⟩) 2 2]) (vs := [(0, .string (⟨#[112]⟩ : ByteArray)), (1, .slice (some ⟨g19, 0, none⟩) 2 2)]) (b2 ev_c (ev_t rfl rfl)) (bd46_0s_1s (⟨#[112]⟩ : ByteArray) (some ⟨g19, 0, none⟩) 2 2) (w0 rfl) ?_
  refine s_call F_e26 (w0 rfl) ev_f (m1 (ev_t rfl rfl)) (args := #[.agg #[.string (⟨#[112]⟩ : ByteArray), .slice (some ⟨g19, 0, none⟩) 2 2]]) rfl (p_liveA _ g19 (Tabs.ext tb (Ext.trans (Ext.trans (Ext.trans (Ext.trans (Keep.then_ (Keep.then_ (Ext.trans (NewB.ext n3) (NewB.ext n6)) (Wrote.keep k8) (fun i_ hi_ h_ => by have a_ := NewB.eq n3; have b_ := Keep.size (Ext.refl w); omega)) (Wrote.keep k10) (fun i_ hi_ h_ => by have a_ := NewB.eq n6; have b_ := Keep.size (NewB.ext n3); omega)) (NewB.ext n13)) (NewB.ext n16)) x17) (NewB.ext n21))) (NewB.blk n21)) ?_
  rintro _ w23 ⟨rfl, x22⟩
  refine s_move (v := .tuple #[.string (⟨#[112, 40, 95, 44, 32, 97, 41]⟩ : ByteArray), .int .i64 0]) (ev_t rfl rfl) (w0 rfl) ?_
  refine s_extract (v := .string (⟨#[112, 40, 95, 44, 32, 97, 41]⟩ : ByteArray)) (ev_t rfl rfl) rfl (w0 rfl) ?_
  refine s_extract (v := .int .i64 0) (ev_t rfl rfl) rfl (w0 rfl) ?_
  refine s_assign (v := .string (⟨#[112, 40, 95, 44, 32, 97, 41]⟩ : ByteArray)) (ev_t rfl rfl) (w0 rfl) ?_
  refine s_assign (v := .int .i64 0) (ev_t rfl rfl) (w0 rfl) ?_
  refine c_done ?_
  refine n_then ?_
  refine c_seq ?_
  refine c_reg ?_
  refine s_move (v := .string (⟨#[88, 32, 45, 32, 45, 40, 53, 41]⟩ : ByteArray)) (ev_t rfl rfl) (w0 rfl) ?_
  refine s_cmpS (r := true) (ev_t rfl rfl) ev_c (cmpS_self _) (w0 rfl) ?_
  refine s_move (v := .bool true) (ev_t rfl rfl) (w0 rfl) ?_
  refine s_move (v := .int .i64 0) (ev_t rfl rfl) (wy rfl rfl rfl rfl) ?_
  refine s_cmp (r := true) (ev_t rfl rfl) ev_c rfl (wy rfl rfl rfl rfl) ?_
  refine s_pick1 (v := .bool true) (ev_t rfl rfl) (ev_t rfl rfl) (w0 rfl) ?_
  refine s_move (v := .bool true) (ev_t rfl rfl) (w0 rfl) ?_
  refine s_move (v := .string (⟨#[112, 40, 95, 44, 32, 97, 41]⟩ : ByteArray)) (ev_t rfl rfl) (wy rfl rfl rfl rfl) ?_
  refine s_cmpS (r := true) (ev_t rfl rfl) ev_c (cmpS_self _) (wy rfl rfl rfl rfl) ?_
  refine s_pick1 (v := .bool true) (ev_t rfl rfl) (ev_t rfl rfl) (w0 rfl) ?_
  refine s_move (v := .bool true) (ev_t rfl rfl) (w0 rfl) ?_
  refine s_move (v := .int .i64 0) (ev_t rfl rfl) (wy rfl rfl rfl rfl) ?_
  refine s_cmp (r := true) (ev_t rfl rfl) ev_c rfl (wy rfl rfl rfl rfl) ?_
  refine s_pick1 (v := .bool true) (ev_t rfl rfl) (ev_t rfl rfl) (w0 rfl) ?_
  refine s_assign (v := .bool true) (ev_t rfl rfl) (w0 rfl) ?_
  refine c_done ?_
  refine n_then ?_
  refine c_ret ?_
  refine ret1 (v := .bool true) rfl rfl rfl ?_
  refine ⟨_, rfl, ?_, (Ext.trans (Ext.trans (Ext.trans (Ext.trans (Ext.trans (Keep.then_ (Keep.then_ (Ext.trans (NewB.ext n3) (NewB.ext n6)) (Wrote.keep k8) (fun i_ hi_ h_ => by have a_ := NewB.eq n3; have b_ := Keep.size (Ext.refl w); omega)) (Wrote.keep k10) (fun i_ hi_ h_ => by have a_ := NewB.eq n6; have b_ := Keep.size (NewB.ext n3); omega)) (NewB.ext n13)) (NewB.ext n16)) x17) (NewB.ext n21)) x22)⟩
  rfl
set_option maxHeartbeats 4000000 in
theorem l_PrintExprs (x : Ex) (A : Option Addr) (c : Nat) (w : World) (ho : x.okc c) (hr : Row RE 6 w A x.kids) (tb : Tabs Tryd.prog w) :
    Rt Tryd.prog 3 #[.agg #[.int .i8 x.op, .string x.t.v, .int .i8 x.t.l.k, .int .i64 x.t.l.n, .string x.t.l.s, .slice A x.kids.length c]] w fun v w' => v = .bool true ∧ Ext w w' := by
  refine enter Tryd.func3 rfl (l := [.agg #[.int .i8 x.op, .string x.t.v, .int .i8 x.t.l.k, .int .i64 x.t.l.n, .string x.t.l.s, .slice A x.kids.length c]]) rfl Tryd.ntmps3 (Nat.le_of_ble_eq_true rfl) ?_
  have hl_ := Ex.okc.l ho
  have hc_ := Ex.okc.c ho
  refine c_seq ?_
  refine c_reg ?_
  refine s_box (v := .agg #[.int .i8 x.op, .string x.t.v, .int .i8 x.t.l.k, .int .i64 x.t.l.n, .string x.t.l.s, .slice A x.kids.length c]) (cs := #[.int .i8 x.op, .string x.t.v, .int .i8 x.t.l.k, .int .i64 x.t.l.n, .string x.t.l.s, .slice A x.kids.length c]) (w0 rfl) (ev_t rfl rfl) rfl ?_
  intro w2 g1 n3
  refine s_assign (v := .bool false) ev_c (w0 rfl) ?_
  refine c_done ?_
  refine n_then ?_
  refine c_seq ?_
  refine c_seq ?_
  refine c_reg ?_
  refine s_loadL (cs := [.int .i8 x.op, .string x.t.v, .int .i8 x.t.l.k, .int .i64 x.t.l.n, .string x.t.l.s, .slice A x.kids.length c]) (ca := #[.int .i8 x.op, .string x.t.v, .int .i8 x.t.l.k, .int .i64 x.t.l.n, .string x.t.l.s, .slice A x.kids.length c]) F_m31 (ev_t rfl rfl) rfl rfl (blk_cells (NewB.blk n3) 0 (cs := [.int .i8 x.op, .string x.t.v, .int .i8 x.t.l.k, .int .i64 x.t.l.n, .string x.t.l.s, .slice A x.kids.length c]) rfl) (w0 rfl) ?_
  refine s_call F_e6 (w0 rfl) ev_f (m1 (ev_t rfl rfl)) (args := #[.agg #[.int .i8 x.op, .string x.t.v, .int .i8 x.t.l.k, .int .i64 x.t.l.n, .string x.t.l.s, .slice A x.kids.length c]]) rfl (l_BeyondExpr x A c _ ho (Row.extE hr (NewB.ext n3))) ?_
  rintro _ w5 ⟨⟨z4, rfl⟩, x6⟩
  refine c_done ?_
  refine n_then ?_
  rcases Bool.eq_false_or_eq_true z4 with h7 | h7
  · refine c_cond1 (vb (ev_t rfl rfl) h7) ?_
    refine c_seq ?_
    refine c_reg ?_
    refine s_assign (v := .bool true) ev_c (w0 rfl) ?_
    refine c_done ?_
    refine n_then ?_
    refine c_ret ?_
    refine r_then ?_
    refine ret1 (v := .bool true) rfl rfl rfl ?_
    refine ⟨_, rfl, ?_, (Ext.trans (NewB.ext n3) x6)⟩
    rfl
  · refine c_cond0 (vb (ev_t rfl rfl) h7) ?_
    refine c_skip ?_
    refine n_then ?_
    refine c_seq ?_
    refine c_reg ?_
    refine s_loadL (cs := [.int .i8 x.op, .string x.t.v, .int .i8 x.t.l.k, .int .i64 x.t.l.n, .string x.t.l.s, .slice A x.kids.length c]) (ca := #[.int .i8 x.op, .string x.t.v, .int .i8 x.t.l.k, .int .i64 x.t.l.n, .string x.t.l.s, .slice A x.kids.length c]) F_m31 (ev_t rfl rfl) rfl rfl (blk_cells (Ext.blk x6 (NewB.blk n3)) 0 (cs := [.int .i8 x.op, .string x.t.v, .int .i8 x.t.l.k, .int .i64 x.t.l.n, .string x.t.l.s, .slice A x.kids.length c]) rfl) (w0 rfl) ?_
    refine s_call F_e7 (w0 rfl) ev_f (m1 (ev_t rfl rfl)) (args := #[.agg #[.int .i8 x.op, .string x.t.v, .int .i8 x.t.l.k, .int .i64 x.t.l.n, .string x.t.l.s, .slice A x.kids.length c]]) rfl (l_TwinExpr (SizeOf.sizeOf x + 1) x (Nat.lt_succ_self _) A c _ ho (Row.extE (Row.extE hr (NewB.ext n3)) x6) (Tabs.ext tb (Ext.trans (NewB.ext n3) x6))) ?_
    rintro _ w9 ⟨b8, rfl, tw10, x11⟩
    have okt12 : x.okc (x.kids.length + 1) := ⟨Ex.okc.op ho, Ex.okc.t ho, Nat.le_succ _, Ex.okc.c ho⟩
    refine s_alloc (cs := #[.int .i8 0, .string (⟨#[]⟩ : ByteArray), .int .i8 0, .int .i64 0, .string (⟨#[]⟩ : ByteArray), .slice none 0 0]) (w0 rfl) F_z31 rfl ?_
    intro w14 g13 n15
    refine s_store (cs' := #[.int .i8 x.op, .string x.t.v, .int .i8 x.t.l.k, .int .i64 x.t.l.n, .string x.t.l.s, .slice (some ⟨b8, 0, none⟩) x.kids.length (x.kids.length + 1)]) F_sz31 (ev_t rfl rfl) (ev_t rfl rfl) (l := [.int .i8 x.op, .string x.t.v, .int .i8 x.t.l.k, .int .i64 x.t.l.n, .string x.t.l.s, .slice (some ⟨b8, 0, none⟩) x.kids.length (x.kids.length + 1)]) rfl rfl rfl (NewB.blk n15) (Nat.le_of_ble_eq_true rfl) rfl (w0 rfl) ?_
    intro w16 k17
    refine c_done ?_
    refine n_then ?_
    refine c_seq ?_
    refine c_reg ?_
    refine s_loadL (cs := [.int .i8 x.op, .string x.t.v, .int .i8 x.t.l.k, .int .i64 x.t.l.n, .string x.t.l.s, .slice A x.kids.length c]) (ca := #[.int .i8 x.op, .string x.t.v, .int .i8 x.t.l.k, .int .i64 x.t.l.n, .string x.t.l.s, .slice A x.kids.length c]) F_m31 (ev_t rfl rfl) rfl rfl (blk_cells (Ext.blk (Keep.then_ (Ext.trans (Ext.trans x6 x11) (NewB.ext n15)) (Wrote.keep k17) (fun i_ hi_ h_ => by have a_ := NewB.eq n15; have b_ := Keep.size (Ext.trans x6 x11); omega)) (NewB.blk n3)) 0 (cs := [.int .i8 x.op, .string x.t.v, .int .i8 x.t.l.k, .int .i64 x.t.l.n, .string x.t.l.s, .slice A x.kids.length c]) rfl) (w0 rfl) ?_
    refine s_call F_e8 (w0 rfl) ev_f (m1 (ev_t rfl rfl)) (args := #[.agg #[.int .i8 x.op, .string x.t.v, .int .i8 x.t.l.k, .int .i64 x.t.l.n, .string x.t.l.s, .slice A x.kids.length c]]) rfl (r6_Expr x A c _ ho (Row.extE hr (Keep.then_ (Ext.trans (Ext.trans (Ext.trans (NewB.ext n3) x6) x11) (NewB.ext n15)) (Wrote.keep k17) (fun i_ hi_ h_ => by have a_ := NewB.eq n15; have b_ := Keep.size (Ext.trans (Ext.trans (NewB.ext n3) x6) x11); omega)))) ?_
    rintro _ w19 ⟨rfl, x18⟩
    refine s_move (v := .tuple #[.string (if exB 8 x then exW 8 x else ⟨#[]⟩), .int .i64 (code (exB 8 x))]) (ev_t rfl rfl) (w0 rfl) ?_
    refine s_extract (v := .string (if exB 8 x then exW 8 x else ⟨#[]⟩)) (ev_t rfl rfl) rfl (w0 rfl) ?_
    refine s_extract (v := .int .i64 (code (exB 8 x))) (ev_t rfl rfl) rfl (w0 rfl) ?_
    refine s_assign (v := .string (if exB 8 x then exW 8 x else ⟨#[]⟩)) (ev_t rfl rfl) (w0 rfl) ?_
    refine s_assign (v := .int .i64 (code (exB 8 x))) (ev_t rfl rfl) (w0 rfl) ?_
    refine c_done ?_
    refine n_then ?_
    refine c_seq ?_
    refine c_reg ?_
    refine s_loadL (cs := [.int .i8 x.op, .string x.t.v, .int .i8 x.t.l.k, .int .i64 x.t.l.n, .string x.t.l.s, .slice (some ⟨b8, 0, none⟩) x.kids.length (x.kids.length + 1)]) (ca := #[.int .i8 x.op, .string x.t.v, .int .i8 x.t.l.k, .int .i64 x.t.l.n, .string x.t.l.s, .slice (some ⟨b8, 0, none⟩) x.kids.length (x.kids.length + 1)]) F_m31 (ev_t rfl rfl) rfl rfl (blk_cells (Ext.blk x18 (Wrote.blk k17)) 0 (cs := [.int .i8 x.op, .string x.t.v, .int .i8 x.t.l.k, .int .i64 x.t.l.n, .string x.t.l.s, .slice (some ⟨b8, 0, none⟩) x.kids.length (x.kids.length + 1)]) rfl) (w0 rfl) ?_
    refine s_call F_e9 (w0 rfl) ev_f (m1 (ev_t rfl rfl)) (args := #[.agg #[.int .i8 x.op, .string x.t.v, .int .i8 x.t.l.k, .int .i64 x.t.l.n, .string x.t.l.s, .slice (some ⟨b8, 0, none⟩) x.kids.length (x.kids.length + 1)]]) rfl (p_Expr x (some ⟨b8, 0, none⟩) (x.kids.length + 1) _ okt12 (Row.extE (TwE.rows tw10) (Ext.trans (Keep.then_ (NewB.ext n15) (Wrote.keep k17) (fun i_ hi_ h_ => by have a_ := NewB.eq n15; have b_ := Keep.size (Ext.refl w9); omega)) x18)) (Tabs.ext tb (Ext.trans (Keep.then_ (Ext.trans (Ext.trans (Ext.trans (NewB.ext n3) x6) x11) (NewB.ext n15)) (Wrote.keep k17) (fun i_ hi_ h_ => by have a_ := NewB.eq n15; have b_ := Keep.size (Ext.trans (Ext.trans (NewB.ext n3) x6) x11); omega)) x18))) ?_
    rintro _ w21 ⟨rfl, x20⟩
    refine s_move (v := .tuple #[.string (if exB 8 x then exW 8 x else ⟨#[]⟩), .int .i64 (code (exB 8 x))]) (ev_t rfl rfl) (w0 rfl) ?_
    refine s_extract (v := .string (if exB 8 x then exW 8 x else ⟨#[]⟩)) (ev_t rfl rfl) rfl (w0 rfl) ?_
    refine s_extract (v := .int .i64 (code (exB 8 x))) (ev_t rfl rfl) rfl (w0 rfl) ?_
    refine s_assign (v := .string (if exB 8 x then exW 8 x else ⟨#[]⟩)) (ev_t rfl rfl) (w0 rfl) ?_
    refine s_assign (v := .int .i64 (code (exB 8 x))) (ev_t rfl rfl) (w0 rfl) ?_
    refine c_done ?_
    refine n_then ?_
    refine c_seq ?_
    refine c_reg ?_
    refine s_move (v := .string (if exB 8 x then exW 8 x else ⟨#[]⟩)) (ev_t rfl rfl) (w0 rfl) ?_
    refine s_move (v := .string (if exB 8 x then exW 8 x else ⟨#[]⟩)) (ev_t rfl rfl) (w0 rfl) ?_
    refine s_cmpS (r := true) (ev_t rfl rfl) (ev_t rfl rfl) (cmpS_self _) (w0 rfl) ?_
    refine s_move (v := .bool true) (ev_t rfl rfl) (w0 rfl) ?_
    refine s_move (v := .int .i64 (code (exB 8 x))) (ev_t rfl rfl) (wy rfl rfl rfl rfl) ?_
    refine s_move (v := .int .i64 (code (exB 8 x))) (ev_t rfl rfl) (wy rfl rfl rfl rfl) ?_
    refine s_cmp (r := true) (ev_t rfl rfl) (ev_t rfl rfl) (cmpI_self _) (wy rfl rfl rfl rfl) ?_
    refine s_pick1 (v := .bool true) (ev_t rfl rfl) (ev_t rfl rfl) (w0 rfl) ?_
    refine s_move (v := .bool true) (ev_t rfl rfl) (w0 rfl) ?_
    refine s_loadL (cs := [.int .i8 x.op, .string x.t.v, .int .i8 x.t.l.k, .int .i64 x.t.l.n, .string x.t.l.s, .slice (some ⟨b8, 0, none⟩) x.kids.length (x.kids.length + 1)]) (ca := #[.int .i8 x.op, .string x.t.v, .int .i8 x.t.l.k, .int .i64 x.t.l.n, .string x.t.l.s, .slice (some ⟨b8, 0, none⟩) x.kids.length (x.kids.length + 1)]) F_m31 (ev_t rfl rfl) rfl rfl (blk_cells (Ext.blk x20 (Ext.blk x18 (Wrote.blk k17))) 0 (cs := [.int .i8 x.op, .string x.t.v, .int .i8 x.t.l.k, .int .i64 x.t.l.n, .string x.t.l.s, .slice (some ⟨b8, 0, none⟩) x.kids.length (x.kids.length + 1)]) rfl) (wy rfl rfl rfl rfl) ?_
    refine s_loadL (cs := [.int .i8 x.op, .string x.t.v, .int .i8 x.t.l.k, .int .i64 x.t.l.n, .string x.t.l.s, .slice A x.kids.length c]) (ca := #[.int .i8 x.op, .string x.t.v, .int .i8 x.t.l.k, .int .i64 x.t.l.n, .string x.t.l.s, .slice A x.kids.length c]) F_m31 (ev_t rfl rfl) rfl rfl (blk_cells (Ext.blk (Ext.trans (Ext.trans (Keep.then_ (Ext.trans (Ext.trans x6 x11) (NewB.ext n15)) (Wrote.keep k17) (fun i_ hi_ h_ => by have a_ := NewB.eq n15; have b_ := Keep.size (Ext.trans x6 x11); omega)) x18) x20) (NewB.blk n3)) 0 (cs := [.int .i8 x.op, .string x.t.v, .int .i8 x.t.l.k, .int .i64 x.t.l.n, .string x.t.l.s, .slice A x.kids.length c]) rfl) (wy rfl rfl rfl rfl) ?_
    refine s_call F_e10 (wy rfl rfl rfl rfl) ev_f (m2 (ev_t rfl rfl) (ev_t rfl rfl)) (args := #[.agg #[.int .i8 x.op, .string x.t.v, .int .i8 x.t.l.k, .int .i64 x.t.l.n, .string x.t.l.s, .slice (some ⟨b8, 0, none⟩) x.kids.length (x.kids.length + 1)], .agg #[.int .i8 x.op, .string x.t.v, .int .i8 x.t.l.k, .int .i64 x.t.l.n, .string x.t.l.s, .slice A x.kids.length c]]) rfl (l_LeftExpr (SizeOf.sizeOf x + 1) x (Nat.lt_succ_self _) b8 _ A c _ (TwE.ext tw10 (Ext.trans (Ext.trans (Keep.then_ (NewB.ext n15) (Wrote.keep k17) (fun i_ hi_ h_ => by have a_ := NewB.eq n15; have b_ := Keep.size (Ext.refl w9); omega)) x18) x20)) ho (Row.extE hr (Ext.trans (Ext.trans (Keep.then_ (Ext.trans (Ext.trans (Ext.trans (NewB.ext n3) x6) x11) (NewB.ext n15)) (Wrote.keep k17) (fun i_ hi_ h_ => by have a_ := NewB.eq n15; have b_ := Keep.size (Ext.trans (Ext.trans (NewB.ext n3) x6) x11); omega)) x18) x20)) (Tabs.ext tb (Ext.trans (Ext.trans (Keep.then_ (Ext.trans (Ext.trans (Ext.trans (NewB.ext n3) x6) x11) (NewB.ext n15)) (Wrote.keep k17) (fun i_ hi_ h_ => by have a_ := NewB.eq n15; have b_ := Keep.size (Ext.trans (Ext.trans (NewB.ext n3) x6) x11); omega)) x18) x20))) ?_
    rintro _ w23 ⟨rfl, x22⟩
    refine s_pick1 (v := .bool true) (ev_t rfl rfl) (ev_t rfl rfl) (w0 rfl) ?_
    refine s_move (v := .bool true) (ev_t rfl rfl) (w0 rfl) ?_
    refine s_call F_e11 (wy rfl rfl rfl rfl) ev_f m0 (args := #[]) rfl (l_lives _ (Tabs.ext tb (Ext.trans (Ext.trans (Ext.trans (Keep.then_ (Ext.trans (Ext.trans (Ext.trans (NewB.ext n3) x6) x11) (NewB.ext n15)) (Wrote.keep k17) (fun i_ hi_ h_ => by have a_ := NewB.eq n15; have b_ := Keep.size (Ext.trans (Ext.trans (NewB.ext n3) x6) x11); omega)) x18) x20) x22))) ?_
    rintro _ w25 ⟨rfl, x24⟩
    refine s_pick1 (v := .bool true) (ev_t rfl rfl) (ev_t rfl rfl) (w0 rfl) ?_
    refine s_assign (v := .bool true) (ev_t rfl rfl) (w0 rfl) ?_
    refine c_done ?_
    refine n_then ?_
    refine c_ret ?_
    refine ret1 (v := .bool true) rfl rfl rfl ?_
    refine ⟨_, rfl, ?_, (Ext.trans (Ext.trans (Ext.trans (Ext.trans (Keep.then_ (Ext.trans (Ext.trans (Ext.trans (NewB.ext n3) x6) x11) (NewB.ext n15)) (Wrote.keep k17) (fun i_ hi_ h_ => by have a_ := NewB.eq n15; have b_ := Keep.size (Ext.trans (Ext.trans (NewB.ext n3) x6) x11); omega)) x18) x20) x22) x24)⟩
    rfl
end Go.Proofs.Dw
