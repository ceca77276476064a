/- YtjjkfbjidpolmaaDoorDA: part of the proof of this seat, by an AI agent: walks of the functions that the law reaches. No condition of its own but those that its theorems state. -/
import Derived.Test.YtjjkfbjidpolmaaDoorWkX
import Derived.Test.YtjjkfbjidpolmaaDoorProg
set_option linter.unusedVariables false
set_option linter.unusedSimpArgs false
set_option maxRecDepth 10000
namespace Go.Proofs.Dw
open Go Go.Wk Go.Proofs Go.Lib
attribute [local irreducible] Go.wpList Go.wpStill Go.wpQuiet Go.Code.wp Go.Calls
theorem mixed : Tryd.prog.follows .mixedOrders = true := by kernel_rfl
theorem F_cv165_5 : (match Tryd.prog.underlying 165, Tryd.prog.underlying 5 with | some (.int _), some (.int k) => decide (k = .u8) | _, _ => false) = true := by kernel_rfl
theorem F_cv2_165 : (match Tryd.prog.underlying 2, Tryd.prog.underlying 165 with | some (.int _), some (.int k) => decide (k = .u64) | _, _ => false) = true := by kernel_rfl
theorem F_e102 : enterable Tryd.prog 102 = true := by kernel_rfl
theorem F_e103 : enterable Tryd.prog 103 = true := by kernel_rfl
theorem F_e117 : enterable Tryd.prog 117 = true := by kernel_rfl
theorem F_e118 : enterable Tryd.prog 118 = true := by kernel_rfl
theorem F_e119 : enterable Tryd.prog 119 = true := by kernel_rfl
theorem F_e125 : enterable Tryd.prog 125 = true := by kernel_rfl
theorem F_f26_0 : fieldAt Tryd.prog 26 0 0 = true := by kernel_rfl
theorem F_f26_1 : fieldAt Tryd.prog 26 1 1 = true := by kernel_rfl
theorem F_f26_2 : fieldAt Tryd.prog 26 2 2 = true := by kernel_rfl
theorem F_f28_0 : fieldAt Tryd.prog 28 0 0 = true := by kernel_rfl
theorem F_f28_1 : fieldAt Tryd.prog 28 1 1 = true := by kernel_rfl
theorem F_if5 : (Tryd.prog.info? 5).map (fun i => (i.zero, i.size, i.bytes)) = some (some (.int .u8 0), 1, 1) := by kernel_rfl
theorem F_m26 : many Tryd.prog 26 3 = true := by kernel_rfl
theorem F_o2 : one Tryd.prog 2 = true := by kernel_rfl
theorem F_o24 : one Tryd.prog 24 = true := by kernel_rfl
theorem F_o9 : one Tryd.prog 9 = true := by kernel_rfl
theorem F_sz26 : (Tryd.prog.info? 26).map (·.size) = some 3 := by kernel_rfl
theorem F_ui5 : Tryd.prog.underlying 5 = some (.int .u8) := by kernel_rfl
theorem F_ul81 : Tryd.prog.underlying 81 = some (.slice 5) := by kernel_rfl
theorem F_us9 : Tryd.prog.underlying 9 = some .string := by kernel_rfl
theorem F_z26 : (Tryd.prog.info? 26).bind (·.zero) = some (.agg #[.int .i8 0, .int .i64 0, .string (⟨#[]⟩ : ByteArray)]) := by kernel_rfl
theorem bd26 : ∀ w : World, (Instr.build 26 [].toArray).run Tryd.prog w = .ok (.agg #[.int .i8 0, .int .i64 0, .string (⟨#[]⟩ : ByteArray)]) w := by
  intros
  kernel_rfl
theorem bs81_1_0iu8 : ∀ (a0 : Int), ∀ w : World, (Instr.buildSlice 81 1 [(0, .int .u8 a0)].toArray).run Tryd.prog w = .ok (.slice (some ⟨w.heap.size, 0, none⟩) 1 1) (w.alloc (.cells #[.int .u8 a0] 5)) := by
  intros
  kernel_rfl
theorem bs81_2_0iu8_1iu8 : ∀ (a0 : Int) (a1 : Int), ∀ w : World, (Instr.buildSlice 81 2 [(0, .int .u8 a0), (1, .int .u8 a1)].toArray).run Tryd.prog w = .ok (.slice (some ⟨w.heap.size, 0, none⟩) 2 2) (w.alloc (.cells #[.int .u8 a0, .int .u8 a1] 5)) := by
  intros
  kernel_rfl
theorem bs81_4_0iu8_1iu8_2iu8_3iu8 : ∀ (a0 : Int) (a1 : Int) (a2 : Int) (a3 : Int), ∀ w : World, (Instr.buildSlice 81 4 [(0, .int .u8 a0), (1, .int .u8 a1), (2, .int .u8 a2), (3, .int .u8 a3)].toArray).run Tryd.prog w = .ok (.slice (some ⟨w.heap.size, 0, none⟩) 4 4) (w.alloc (.cells #[.int .u8 a0, .int .u8 a1, .int .u8 a2, .int .u8 a3] 5)) := by
  intros
  kernel_rfl
theorem eqzV26eql (x : Vl) (a b : Operand) (w : World) : (do eqGuard .eql 26 a b (.agg #[.int .i8 x.k, .int .i64 x.n, .string x.s]) (.agg #[.int .i8 0, .int .i64 0, .string ⟨#[]⟩]); binOp .eql 26 (.agg #[.int .i8 x.k, .int .i64 x.n, .string x.s]) (.agg #[.int .i8 0, .int .i64 0, .string ⟨#[]⟩]) : Sem Value).run Tryd.prog w = .ok (.bool (zV x)) w := by
  have hu := Tryd.underlying26
  go_simp
  simp only [toList_nil_iff]
  (first | (by_cases h0 : x.v = (⟨#[]⟩ : ByteArray)) | skip) <;> (first | (by_cases h1 : x.k = 0 <;> by_cases h2 : x.n = 0 <;> by_cases h3 : x.s = (⟨#[]⟩ : ByteArray)) | (by_cases h1 : x.l.k = 0 <;> by_cases h2 : x.l.n = 0 <;> by_cases h3 : x.l.s = (⟨#[]⟩ : ByteArray))) <;> simp [zV, zT, *]
set_option maxHeartbeats 4000000 in
theorem r1_letter (c : Int) (w : World) :
    Rt Tryd.prog 125 #[.int .u8 c] w fun v w' => v = .bool (letterB c) ∧ Ext w w' := by
  refine enter Tryd.func125 rfl (l := [.int .u8 c]) rfl Tryd.ntmps125 (Nat.le_of_ble_eq_true rfl) ?_
  refine c_seq ?_
  refine c_reg ?_
  refine s_assign (v := .bool false) ev_c (w0 rfl) ?_
  refine c_done ?_
  refine n_then ?_
  refine c_seq ?_
  refine c_reg ?_
  refine s_move (v := .int .u8 c) (ev_t rfl rfl) (w0 rfl) ?_
  refine s_cmp (r := decide (97 ≤ c)) (ev_t rfl rfl) ev_c rfl (w0 rfl) ?_
  by_cases h1 : 97 ≤ c
  · refine s_move (v := .bool true) (vb (ev_t rfl rfl) (decide_eq_true h1)) (w0 rfl) ?_
    refine s_move (v := .int .u8 c) (ev_t rfl rfl) (wy rfl rfl rfl rfl) ?_
    refine s_cmp (r := decide (c ≤ 122)) (ev_t rfl rfl) ev_c rfl (wy rfl rfl rfl rfl) ?_
    refine s_pick1 (v := .bool (decide (c ≤ 122))) (ev_t rfl rfl) (ev_t rfl rfl) (w0 rfl) ?_
    by_cases h2 : c ≤ 122
    · refine s_move (v := .bool true) (vb (ev_t rfl rfl) (decide_eq_true h2)) (w0 rfl) ?_
      refine s_skip (wn rfl rfl rfl rfl rfl) ?_
      refine s_skip (wn rfl rfl rfl rfl rfl) ?_
      refine s_skip (wn rfl rfl rfl rfl rfl) ?_
      refine s_skip (wu rfl rfl rfl rfl) ?_
      refine s_skip (wu rfl rfl rfl rfl) ?_
      refine s_skip (wn rfl rfl rfl rfl rfl) ?_
      refine s_pick1 (v := .bool true) (ev_t rfl rfl) ev_c (w0 rfl) ?_
      refine s_move (v := .bool true) (ev_t rfl rfl) (w0 rfl) ?_
      refine s_skip (wn rfl rfl rfl rfl rfl) ?_
      refine s_skip (wn rfl rfl rfl rfl rfl) ?_
      refine s_skip (wn rfl rfl rfl rfl rfl) ?_
      refine s_skip (wu rfl rfl rfl rfl) ?_
      refine s_skip (wu rfl rfl rfl rfl) ?_
      refine s_skip (wn rfl rfl rfl rfl rfl) ?_
      refine s_pick1 (v := .bool true) (ev_t rfl rfl) ev_c (w0 rfl) ?_
      refine s_move (v := .bool true) (ev_t rfl rfl) (w0 rfl) ?_
      refine s_skip (wn rfl rfl rfl rfl rfl) ?_
      refine s_skip (wn rfl rfl rfl rfl rfl) ?_
      refine s_pick1 (v := .bool true) (ev_t rfl rfl) ev_c (w0 rfl) ?_
      refine s_assign (v := .bool true) (ev_t rfl rfl) (w0 rfl) ?_
      refine c_done ?_
      refine n_then ?_
      refine c_ret ?_
      refine ret1 (v := .bool true) rfl rfl rfl ?_
      refine ⟨_, rfl, ?_, (Ext.refl w)⟩
      (first | rfl | (simp [letterB, *]; done) | (simp [letterB, *]; omega) | (simp [letterB, *] <;> omega))
    · refine s_move (v := .bool false) (vb (ev_t rfl rfl) (decide_eq_false h2)) (w0 rfl) ?_
      refine s_move (v := .int .u8 c) (ev_t rfl rfl) (wy rfl rfl rfl rfl) ?_
      refine s_cmp (r := decide (65 ≤ c)) (ev_t rfl rfl) ev_c rfl (wy rfl rfl rfl rfl) ?_
      by_cases h3 : 65 ≤ c
      · refine s_move (v := .bool true) (vb (ev_t rfl rfl) (decide_eq_true h3)) (wy rfl rfl rfl rfl) ?_
        refine s_move (v := .int .u8 c) (ev_t rfl rfl) (wy rfl rfl rfl rfl) ?_
        refine s_cmp (r := decide (c ≤ 90)) (ev_t rfl rfl) ev_c rfl (wy rfl rfl rfl rfl) ?_
        refine s_pick1 (v := .bool (decide (c ≤ 90))) (ev_t rfl rfl) (ev_t rfl rfl) (wy rfl rfl rfl rfl) ?_
        refine s_pick0 (v := .bool (decide (c ≤ 90))) (ev_t rfl rfl) (ev_t rfl rfl) (w0 rfl) ?_
        by_cases h4 : c ≤ 90
        · refine s_move (v := .bool true) (vb (ev_t rfl rfl) (decide_eq_true h4)) (w0 rfl) ?_
          refine s_skip (wn rfl rfl rfl rfl rfl) ?_
          refine s_skip (wn rfl rfl rfl rfl rfl) ?_
          refine s_skip (wn rfl rfl rfl rfl rfl) ?_
          refine s_skip (wu rfl rfl rfl rfl) ?_
          refine s_skip (wu rfl rfl rfl rfl) ?_
          refine s_skip (wn rfl rfl rfl rfl rfl) ?_
          refine s_pick1 (v := .bool true) (ev_t rfl rfl) ev_c (w0 rfl) ?_
          refine s_move (v := .bool true) (ev_t rfl rfl) (w0 rfl) ?_
          refine s_skip (wn rfl rfl rfl rfl rfl) ?_
          refine s_skip (wn rfl rfl rfl rfl rfl) ?_
          refine s_pick1 (v := .bool true) (ev_t rfl rfl) ev_c (w0 rfl) ?_
          refine s_assign (v := .bool true) (ev_t rfl rfl) (w0 rfl) ?_
          refine c_done ?_
          refine n_then ?_
          refine c_ret ?_
          refine ret1 (v := .bool true) rfl rfl rfl ?_
          refine ⟨_, rfl, ?_, (Ext.refl w)⟩
          (first | rfl | (simp [letterB, *]; done) | (simp [letterB, *]; omega) | (simp [letterB, *] <;> omega))
        · refine s_move (v := .bool false) (vb (ev_t rfl rfl) (decide_eq_false h4)) (w0 rfl) ?_
          refine s_move (v := .int .u8 c) (ev_t rfl rfl) (wy rfl rfl rfl rfl) ?_
          refine s_cmp (r := decide (48 ≤ c)) (ev_t rfl rfl) ev_c rfl (wy rfl rfl rfl rfl) ?_
          by_cases h5 : 48 ≤ c
          · refine s_move (v := .bool true) (vb (ev_t rfl rfl) (decide_eq_true h5)) (wy rfl rfl rfl rfl) ?_
            refine s_move (v := .int .u8 c) (ev_t rfl rfl) (wy rfl rfl rfl rfl) ?_
            refine s_cmp (r := decide (c ≤ 57)) (ev_t rfl rfl) ev_c rfl (wy rfl rfl rfl rfl) ?_
            refine s_pick1 (v := .bool (decide (c ≤ 57))) (ev_t rfl rfl) (ev_t rfl rfl) (wy rfl rfl rfl rfl) ?_
            refine s_pick0 (v := .bool (decide (c ≤ 57))) (ev_t rfl rfl) (ev_t rfl rfl) (w0 rfl) ?_
            by_cases h6 : c ≤ 57
            · refine s_move (v := .bool true) (vb (ev_t rfl rfl) (decide_eq_true h6)) (w0 rfl) ?_
              refine s_skip (wn rfl rfl rfl rfl rfl) ?_
              refine s_skip (wn rfl rfl rfl rfl rfl) ?_
              refine s_pick1 (v := .bool true) (ev_t rfl rfl) ev_c (w0 rfl) ?_
              refine s_assign (v := .bool true) (ev_t rfl rfl) (w0 rfl) ?_
              refine c_done ?_
              refine n_then ?_
              refine c_ret ?_
              refine ret1 (v := .bool true) rfl rfl rfl ?_
              refine ⟨_, rfl, ?_, (Ext.refl w)⟩
              (first | rfl | (simp [letterB, *]; done) | (simp [letterB, *]; omega) | (simp [letterB, *] <;> omega))
            · refine s_move (v := .bool false) (vb (ev_t rfl rfl) (decide_eq_false h6)) (w0 rfl) ?_
              refine s_move (v := .int .u8 c) (ev_t rfl rfl) (wy rfl rfl rfl rfl) ?_
              refine s_cmp (r := decide (c = 95)) (ev_t rfl rfl) ev_c rfl (wy rfl rfl rfl rfl) ?_
              refine s_pick0 (v := .bool (decide (c = 95))) (ev_t rfl rfl) (ev_t rfl rfl) (w0 rfl) ?_
              refine s_assign (v := .bool (decide (c = 95))) (ev_t rfl rfl) (w0 rfl) ?_
              refine c_done ?_
              refine n_then ?_
              refine c_ret ?_
              refine ret1 (v := .bool (decide (c = 95))) rfl rfl rfl ?_
              refine ⟨_, rfl, ?_, (Ext.refl w)⟩
              (first | rfl | (simp [letterB, *]; done) | (simp [letterB, *]; omega) | (simp [letterB, *] <;> omega))
          · refine s_move (v := .bool false) (vb (ev_t rfl rfl) (decide_eq_false h5)) (wy rfl rfl rfl rfl) ?_
            refine s_skip (wn rfl rfl rfl rfl rfl) ?_
            refine s_skip (wn rfl rfl rfl rfl rfl) ?_
            refine s_pick0 (v := .bool false) (ev_t rfl rfl) ev_c (wy rfl rfl rfl rfl) ?_
            refine s_pick0 (v := .bool false) (ev_t rfl rfl) (ev_t rfl rfl) (w0 rfl) ?_
            refine s_move (v := .bool false) (ev_t rfl rfl) (w0 rfl) ?_
            refine s_move (v := .int .u8 c) (ev_t rfl rfl) (wy rfl rfl rfl rfl) ?_
            refine s_cmp (r := decide (c = 95)) (ev_t rfl rfl) ev_c rfl (wy rfl rfl rfl rfl) ?_
            refine s_pick0 (v := .bool (decide (c = 95))) (ev_t rfl rfl) (ev_t rfl rfl) (w0 rfl) ?_
            refine s_assign (v := .bool (decide (c = 95))) (ev_t rfl rfl) (w0 rfl) ?_
            refine c_done ?_
            refine n_then ?_
            refine c_ret ?_
            refine ret1 (v := .bool (decide (c = 95))) rfl rfl rfl ?_
            refine ⟨_, rfl, ?_, (Ext.refl w)⟩
            (first | rfl | (simp [letterB, *]; done) | (simp [letterB, *]; omega) | (simp [letterB, *] <;> omega))
      · refine s_move (v := .bool false) (vb (ev_t rfl rfl) (decide_eq_false h3)) (wy rfl rfl rfl rfl) ?_
        refine s_skip (wn rfl rfl rfl rfl rfl) ?_
        refine s_skip (wn rfl rfl rfl rfl rfl) ?_
        refine s_pick0 (v := .bool false) (ev_t rfl rfl) ev_c (wy rfl rfl rfl rfl) ?_
        refine s_pick0 (v := .bool false) (ev_t rfl rfl) (ev_t rfl rfl) (w0 rfl) ?_
        refine s_move (v := .bool false) (ev_t rfl rfl) (w0 rfl) ?_
        refine s_move (v := .int .u8 c) (ev_t rfl rfl) (wy rfl rfl rfl rfl) ?_
        refine s_cmp (r := decide (48 ≤ c)) (ev_t rfl rfl) ev_c rfl (wy rfl rfl rfl rfl) ?_
        by_cases h7 : 48 ≤ c
        · refine s_move (v := .bool true) (vb (ev_t rfl rfl) (decide_eq_true h7)) (wy rfl rfl rfl rfl) ?_
          refine s_move (v := .int .u8 c) (ev_t rfl rfl) (wy rfl rfl rfl rfl) ?_
          refine s_cmp (r := decide (c ≤ 57)) (ev_t rfl rfl) ev_c rfl (wy rfl rfl rfl rfl) ?_
          refine s_pick1 (v := .bool (decide (c ≤ 57))) (ev_t rfl rfl) (ev_t rfl rfl) (wy rfl rfl rfl rfl) ?_
          refine s_pick0 (v := .bool (decide (c ≤ 57))) (ev_t rfl rfl) (ev_t rfl rfl) (w0 rfl) ?_
          by_cases h8 : c ≤ 57
          · refine s_move (v := .bool true) (vb (ev_t rfl rfl) (decide_eq_true h8)) (w0 rfl) ?_
            refine s_skip (wn rfl rfl rfl rfl rfl) ?_
            refine s_skip (wn rfl rfl rfl rfl rfl) ?_
            refine s_pick1 (v := .bool true) (ev_t rfl rfl) ev_c (w0 rfl) ?_
            refine s_assign (v := .bool true) (ev_t rfl rfl) (w0 rfl) ?_
            refine c_done ?_
            refine n_then ?_
            refine c_ret ?_
            refine ret1 (v := .bool true) rfl rfl rfl ?_
            refine ⟨_, rfl, ?_, (Ext.refl w)⟩
            (first | rfl | (simp [letterB, *]; done) | (simp [letterB, *]; omega) | (simp [letterB, *] <;> omega))
          · refine s_move (v := .bool false) (vb (ev_t rfl rfl) (decide_eq_false h8)) (w0 rfl) ?_
            refine s_move (v := .int .u8 c) (ev_t rfl rfl) (wy rfl rfl rfl rfl) ?_
            refine s_cmp (r := decide (c = 95)) (ev_t rfl rfl) ev_c rfl (wy rfl rfl rfl rfl) ?_
            refine s_pick0 (v := .bool (decide (c = 95))) (ev_t rfl rfl) (ev_t rfl rfl) (w0 rfl) ?_
            refine s_assign (v := .bool (decide (c = 95))) (ev_t rfl rfl) (w0 rfl) ?_
            refine c_done ?_
            refine n_then ?_
            refine c_ret ?_
            refine ret1 (v := .bool (decide (c = 95))) rfl rfl rfl ?_
            refine ⟨_, rfl, ?_, (Ext.refl w)⟩
            (first | rfl | (simp [letterB, *]; done) | (simp [letterB, *]; omega) | (simp [letterB, *] <;> omega))
        · refine s_move (v := .bool false) (vb (ev_t rfl rfl) (decide_eq_false h7)) (wy rfl rfl rfl rfl) ?_
          refine s_skip (wn rfl rfl rfl rfl rfl) ?_
          refine s_skip (wn rfl rfl rfl rfl rfl) ?_
          refine s_pick0 (v := .bool false) (ev_t rfl rfl) ev_c (wy rfl rfl rfl rfl) ?_
          refine s_pick0 (v := .bool false) (ev_t rfl rfl) (ev_t rfl rfl) (w0 rfl) ?_
          refine s_move (v := .bool false) (ev_t rfl rfl) (w0 rfl) ?_
          refine s_move (v := .int .u8 c) (ev_t rfl rfl) (wy rfl rfl rfl rfl) ?_
          refine s_cmp (r := decide (c = 95)) (ev_t rfl rfl) ev_c rfl (wy rfl rfl rfl rfl) ?_
          refine s_pick0 (v := .bool (decide (c = 95))) (ev_t rfl rfl) (ev_t rfl rfl) (w0 rfl) ?_
          refine s_assign (v := .bool (decide (c = 95))) (ev_t rfl rfl) (w0 rfl) ?_
          refine c_done ?_
          refine n_then ?_
          refine c_ret ?_
          refine ret1 (v := .bool (decide (c = 95))) rfl rfl rfl ?_
          refine ⟨_, rfl, ?_, (Ext.refl w)⟩
          (first | rfl | (simp [letterB, *]; done) | (simp [letterB, *]; omega) | (simp [letterB, *] <;> omega))
  · refine s_move (v := .bool false) (vb (ev_t rfl rfl) (decide_eq_false h1)) (w0 rfl) ?_
    refine s_skip (wn rfl rfl rfl rfl rfl) ?_
    refine s_skip (wn rfl rfl rfl rfl rfl) ?_
    refine s_pick0 (v := .bool false) (ev_t rfl rfl) ev_c (w0 rfl) ?_
    refine s_move (v := .bool false) (ev_t rfl rfl) (w0 rfl) ?_
    refine s_move (v := .int .u8 c) (ev_t rfl rfl) (wy rfl rfl rfl rfl) ?_
    refine s_cmp (r := decide (65 ≤ c)) (ev_t rfl rfl) ev_c rfl (wy rfl rfl rfl rfl) ?_
    by_cases h9 : 65 ≤ c
    · refine s_move (v := .bool true) (vb (ev_t rfl rfl) (decide_eq_true h9)) (wy rfl rfl rfl rfl) ?_
      refine s_move (v := .int .u8 c) (ev_t rfl rfl) (wy rfl rfl rfl rfl) ?_
      refine s_cmp (r := decide (c ≤ 90)) (ev_t rfl rfl) ev_c rfl (wy rfl rfl rfl rfl) ?_
      refine s_pick1 (v := .bool (decide (c ≤ 90))) (ev_t rfl rfl) (ev_t rfl rfl) (wy rfl rfl rfl rfl) ?_
      refine s_pick0 (v := .bool (decide (c ≤ 90))) (ev_t rfl rfl) (ev_t rfl rfl) (w0 rfl) ?_
      by_cases h10 : c ≤ 90
      · refine s_move (v := .bool true) (vb (ev_t rfl rfl) (decide_eq_true h10)) (w0 rfl) ?_
        refine s_skip (wn rfl rfl rfl rfl rfl) ?_
        refine s_skip (wn rfl rfl rfl rfl rfl) ?_
        refine s_skip (wn rfl rfl rfl rfl rfl) ?_
        refine s_skip (wu rfl rfl rfl rfl) ?_
        refine s_skip (wu rfl rfl rfl rfl) ?_
        refine s_skip (wn rfl rfl rfl rfl rfl) ?_
        refine s_pick1 (v := .bool true) (ev_t rfl rfl) ev_c (w0 rfl) ?_
        refine s_move (v := .bool true) (ev_t rfl rfl) (w0 rfl) ?_
        refine s_skip (wn rfl rfl rfl rfl rfl) ?_
        refine s_skip (wn rfl rfl rfl rfl rfl) ?_
        refine s_pick1 (v := .bool true) (ev_t rfl rfl) ev_c (w0 rfl) ?_
        refine s_assign (v := .bool true) (ev_t rfl rfl) (w0 rfl) ?_
        refine c_done ?_
        refine n_then ?_
        refine c_ret ?_
        refine ret1 (v := .bool true) rfl rfl rfl ?_
        refine ⟨_, rfl, ?_, (Ext.refl w)⟩
        (first | rfl | (simp [letterB, *]; done) | (simp [letterB, *]; omega) | (simp [letterB, *] <;> omega))
      · refine s_move (v := .bool false) (vb (ev_t rfl rfl) (decide_eq_false h10)) (w0 rfl) ?_
        refine s_move (v := .int .u8 c) (ev_t rfl rfl) (wy rfl rfl rfl rfl) ?_
        refine s_cmp (r := decide (48 ≤ c)) (ev_t rfl rfl) ev_c rfl (wy rfl rfl rfl rfl) ?_
        by_cases h11 : 48 ≤ c
        · refine s_move (v := .bool true) (vb (ev_t rfl rfl) (decide_eq_true h11)) (wy rfl rfl rfl rfl) ?_
          refine s_move (v := .int .u8 c) (ev_t rfl rfl) (wy rfl rfl rfl rfl) ?_
          refine s_cmp (r := decide (c ≤ 57)) (ev_t rfl rfl) ev_c rfl (wy rfl rfl rfl rfl) ?_
          refine s_pick1 (v := .bool (decide (c ≤ 57))) (ev_t rfl rfl) (ev_t rfl rfl) (wy rfl rfl rfl rfl) ?_
          refine s_pick0 (v := .bool (decide (c ≤ 57))) (ev_t rfl rfl) (ev_t rfl rfl) (w0 rfl) ?_
          by_cases h12 : c ≤ 57
          · refine s_move (v := .bool true) (vb (ev_t rfl rfl) (decide_eq_true h12)) (w0 rfl) ?_
            refine s_skip (wn rfl rfl rfl rfl rfl) ?_
            refine s_skip (wn rfl rfl rfl rfl rfl) ?_
            refine s_pick1 (v := .bool true) (ev_t rfl rfl) ev_c (w0 rfl) ?_
            refine s_assign (v := .bool true) (ev_t rfl rfl) (w0 rfl) ?_
            refine c_done ?_
            refine n_then ?_
            refine c_ret ?_
            refine ret1 (v := .bool true) rfl rfl rfl ?_
            refine ⟨_, rfl, ?_, (Ext.refl w)⟩
            (first | rfl | (simp [letterB, *]; done) | (simp [letterB, *]; omega) | (simp [letterB, *] <;> omega))
          · refine s_move (v := .bool false) (vb (ev_t rfl rfl) (decide_eq_false h12)) (w0 rfl) ?_
            refine s_move (v := .int .u8 c) (ev_t rfl rfl) (wy rfl rfl rfl rfl) ?_
            refine s_cmp (r := decide (c = 95)) (ev_t rfl rfl) ev_c rfl (wy rfl rfl rfl rfl) ?_
            refine s_pick0 (v := .bool (decide (c = 95))) (ev_t rfl rfl) (ev_t rfl rfl) (w0 rfl) ?_
            refine s_assign (v := .bool (decide (c = 95))) (ev_t rfl rfl) (w0 rfl) ?_
            refine c_done ?_
            refine n_then ?_
            refine c_ret ?_
            refine ret1 (v := .bool (decide (c = 95))) rfl rfl rfl ?_
            refine ⟨_, rfl, ?_, (Ext.refl w)⟩
            (first | rfl | (simp [letterB, *]; done) | (simp [letterB, *]; omega) | (simp [letterB, *] <;> omega))
        · refine s_move (v := .bool false) (vb (ev_t rfl rfl) (decide_eq_false h11)) (wy rfl rfl rfl rfl) ?_
          refine s_skip (wn rfl rfl rfl rfl rfl) ?_
          refine s_skip (wn rfl rfl rfl rfl rfl) ?_
          refine s_pick0 (v := .bool false) (ev_t rfl rfl) ev_c (wy rfl rfl rfl rfl) ?_
          refine s_pick0 (v := .bool false) (ev_t rfl rfl) (ev_t rfl rfl) (w0 rfl) ?_
          refine s_move (v := .bool false) (ev_t rfl rfl) (w0 rfl) ?_
          refine s_move (v := .int .u8 c) (ev_t rfl rfl) (wy rfl rfl rfl rfl) ?_
          refine s_cmp (r := decide (c = 95)) (ev_t rfl rfl) ev_c rfl (wy rfl rfl rfl rfl) ?_
          refine s_pick0 (v := .bool (decide (c = 95))) (ev_t rfl rfl) (ev_t rfl rfl) (w0 rfl) ?_
          refine s_assign (v := .bool (decide (c = 95))) (ev_t rfl rfl) (w0 rfl) ?_
          refine c_done ?_
          refine n_then ?_
          refine c_ret ?_
          refine ret1 (v := .bool (decide (c = 95))) rfl rfl rfl ?_
          refine ⟨_, rfl, ?_, (Ext.refl w)⟩
          (first | rfl | (simp [letterB, *]; done) | (simp [letterB, *]; omega) | (simp [letterB, *] <;> omega))
    · refine s_move (v := .bool false) (vb (ev_t rfl rfl) (decide_eq_false h9)) (wy rfl rfl rfl rfl) ?_
      refine s_skip (wn rfl rfl rfl rfl rfl) ?_
      refine s_skip (wn rfl rfl rfl rfl rfl) ?_
      refine s_pick0 (v := .bool false) (ev_t rfl rfl) ev_c (wy rfl rfl rfl rfl) ?_
      refine s_pick0 (v := .bool false) (ev_t rfl rfl) (ev_t rfl rfl) (w0 rfl) ?_
      refine s_move (v := .bool false) (ev_t rfl rfl) (w0 rfl) ?_
      refine s_move (v := .int .u8 c) (ev_t rfl rfl) (wy rfl rfl rfl rfl) ?_
      refine s_cmp (r := decide (48 ≤ c)) (ev_t rfl rfl) ev_c rfl (wy rfl rfl rfl rfl) ?_
      by_cases h13 : 48 ≤ c
      · refine s_move (v := .bool true) (vb (ev_t rfl rfl) (decide_eq_true h13)) (wy rfl rfl rfl rfl) ?_
        refine s_move (v := .int .u8 c) (ev_t rfl rfl) (wy rfl rfl rfl rfl) ?_
        refine s_cmp (r := decide (c ≤ 57)) (ev_t rfl rfl) ev_c rfl (wy rfl rfl rfl rfl) ?_
        refine s_pick1 (v := .bool (decide (c ≤ 57))) (ev_t rfl rfl) (ev_t rfl rfl) (wy rfl rfl rfl rfl) ?_
        refine s_pick0 (v := .bool (decide (c ≤ 57))) (ev_t rfl rfl) (ev_t rfl rfl) (w0 rfl) ?_
        by_cases h14 : c ≤ 57
        · refine s_move (v := .bool true) (vb (ev_t rfl rfl) (decide_eq_true h14)) (w0 rfl) ?_
          refine s_skip (wn rfl rfl rfl rfl rfl) ?_
          refine s_skip (wn rfl rfl rfl rfl rfl) ?_
          refine s_pick1 (v := .bool true) (ev_t rfl rfl) ev_c (w0 rfl) ?_
          refine s_assign (v := .bool true) (ev_t rfl rfl) (w0 rfl) ?_
          refine c_done ?_
          refine n_then ?_
          refine c_ret ?_
          refine ret1 (v := .bool true) rfl rfl rfl ?_
          refine ⟨_, rfl, ?_, (Ext.refl w)⟩
          (first | rfl | (simp [letterB, *]; done) | (simp [letterB, *]; omega) | (simp [letterB, *] <;> omega))
        · refine s_move (v := .bool false) (vb (ev_t rfl rfl) (decide_eq_false h14)) (w0 rfl) ?_
          refine s_move (v := .int .u8 c) (ev_t rfl rfl) (wy rfl rfl rfl rfl) ?_
          refine s_cmp (r := decide (c = 95)) (ev_t rfl rfl) ev_c rfl (wy rfl rfl rfl rfl) ?_
          refine s_pick0 (v := .bool (decide (c = 95))) (ev_t rfl rfl) (ev_t rfl rfl) (w0 rfl) ?_
          refine s_assign (v := .bool (decide (c = 95))) (ev_t rfl rfl) (w0 rfl) ?_
          refine c_done ?_
          refine n_then ?_
          refine c_ret ?_
          refine ret1 (v := .bool (decide (c = 95))) rfl rfl rfl ?_
          refine ⟨_, rfl, ?_, (Ext.refl w)⟩
          (first | rfl | (simp [letterB, *]; done) | (simp [letterB, *]; omega) | (simp [letterB, *] <;> omega))
      · refine s_move (v := .bool false) (vb (ev_t rfl rfl) (decide_eq_false h13)) (wy rfl rfl rfl rfl) ?_
        refine s_skip (wn rfl rfl rfl rfl rfl) ?_
        refine s_skip (wn rfl rfl rfl rfl rfl) ?_
        refine s_pick0 (v := .bool false) (ev_t rfl rfl) ev_c (wy rfl rfl rfl rfl) ?_
        refine s_pick0 (v := .bool false) (ev_t rfl rfl) (ev_t rfl rfl) (w0 rfl) ?_
        refine s_move (v := .bool false) (ev_t rfl rfl) (w0 rfl) ?_
        refine s_move (v := .int .u8 c) (ev_t rfl rfl) (wy rfl rfl rfl rfl) ?_
        refine s_cmp (r := decide (c = 95)) (ev_t rfl rfl) ev_c rfl (wy rfl rfl rfl rfl) ?_
        refine s_pick0 (v := .bool (decide (c = 95))) (ev_t rfl rfl) (ev_t rfl rfl) (w0 rfl) ?_
        refine s_assign (v := .bool (decide (c = 95))) (ev_t rfl rfl) (w0 rfl) ?_
        refine c_done ?_
        refine n_then ?_
        refine c_ret ?_
        refine ret1 (v := .bool (decide (c = 95))) rfl rfl rfl ?_
        refine ⟨_, rfl, ?_, (Ext.refl w)⟩
        (first | rfl | (simp [letterB, *]; done) | (simp [letterB, *]; omega) | (simp [letterB, *] <;> omega))
set_option maxHeartbeats 4000000 in
theorem r1_written (s : ByteArray) (lo hi : Int) (w : World) (hl : (lo = 97 ∧ hi = 122) ∨ (lo = 65 ∧ hi = 90)) (hs : s.size ≤ 140737488351232) :
    Rt Tryd.prog 117 #[.string s, .int .u8 lo, .int .u8 hi] w fun v w' => v = .bool (wordB s lo hi) ∧ Ext w w' := by
  refine enter Tryd.func117 rfl (l := [.string s, .int .u8 lo, .int .u8 hi]) rfl Tryd.ntmps117 (Nat.le_of_ble_eq_true rfl) ?_
  refine c_seq ?_
  refine c_reg ?_
  refine s_assign (v := .bool false) ev_c (w0 rfl) ?_
  refine c_done ?_
  refine n_then ?_
  refine c_seq ?_
  refine c_seq ?_
  refine c_reg ?_
  refine s_move (v := .string s) (ev_t rfl rfl) (w0 rfl) ?_
  refine s_lenS F_us9 (ev_t rfl rfl) (w0 rfl) ?_
  refine s_cmp (r := decide ((s.size : Int) < 1)) (ev_t rfl rfl) ev_c rfl (w0 rfl) ?_
  by_cases h1 : (s.size : Int) < 1
  · refine s_move (v := .bool true) (vb (ev_t rfl rfl) (decide_eq_true h1)) (w0 rfl) ?_
    refine s_skip (wn rfl rfl rfl rfl rfl) ?_
    refine s_skip (wn rfl rfl rfl rfl rfl) ?_
    refine s_skip (wn rfl rfl rfl rfl rfl) ?_
    refine s_pick1 (v := .bool true) (ev_t rfl rfl) ev_c (w0 rfl) ?_
    refine s_move (v := .bool true) (ev_t rfl rfl) (w0 rfl) ?_
    refine s_skip (wn rfl rfl rfl rfl rfl) ?_
    refine s_skip (wn rfl rfl rfl rfl rfl) ?_
    refine s_skip (wn rfl rfl rfl rfl rfl) ?_
    refine s_skip (wn rfl rfl rfl rfl rfl) ?_
    refine s_pick1 (v := .bool true) (ev_t rfl rfl) ev_c (w0 rfl) ?_
    refine s_move (v := .bool true) (ev_t rfl rfl) (w0 rfl) ?_
    refine s_skip (wn rfl rfl rfl rfl rfl) ?_
    refine s_skip (wn rfl rfl rfl rfl rfl) ?_
    refine s_skip (wn rfl rfl rfl rfl rfl) ?_
    refine s_skip (wn rfl rfl rfl rfl rfl) ?_
    refine s_pick1 (v := .bool true) (ev_t rfl rfl) ev_c (w0 rfl) ?_
    refine c_done ?_
    refine n_then ?_
    refine c_cond1 (ev_t rfl rfl) ?_
    refine c_seq ?_
    refine c_reg ?_
    refine s_assign (v := .bool false) ev_c (w0 rfl) ?_
    refine c_done ?_
    refine n_then ?_
    refine c_ret ?_
    refine r_then ?_
    refine ret1 (v := .bool false) rfl rfl rfl ?_
    refine ⟨_, rfl, ?_, (Ext.refl w)⟩
    (simp only [wordB]; congr 1; symm; simp only [decide_eq_false_iff_not]; omega)
  · refine s_move (v := .bool false) (vb (ev_t rfl rfl) (decide_eq_false h1)) (w0 rfl) ?_
    refine s_move (v := .string s) (ev_t rfl rfl) (wy rfl rfl rfl rfl) ?_
    refine s_lenS F_us9 (ev_t rfl rfl) (wy rfl rfl rfl rfl) ?_
    refine s_cmp (r := decide (120 < (s.size : Int))) (ev_t rfl rfl) ev_c rfl (wy rfl rfl rfl rfl) ?_
    refine s_pick0 (v := .bool (decide (120 < (s.size : Int)))) (ev_t rfl rfl) (ev_t rfl rfl) (w0 rfl) ?_
    by_cases h2 : 120 < (s.size : Int)
    · refine s_move (v := .bool true) (vb (ev_t rfl rfl) (decide_eq_true h2)) (w0 rfl) ?_
      refine s_skip (wn rfl rfl rfl rfl rfl) ?_
      refine s_skip (wn rfl rfl rfl rfl rfl) ?_
      refine s_skip (wn rfl rfl rfl rfl rfl) ?_
      refine s_skip (wn rfl rfl rfl rfl rfl) ?_
      refine s_pick1 (v := .bool true) (ev_t rfl rfl) ev_c (w0 rfl) ?_
      refine s_move (v := .bool true) (ev_t rfl rfl) (w0 rfl) ?_
      refine s_skip (wn rfl rfl rfl rfl rfl) ?_
      refine s_skip (wn rfl rfl rfl rfl rfl) ?_
      refine s_skip (wn rfl rfl rfl rfl rfl) ?_
      refine s_skip (wn rfl rfl rfl rfl rfl) ?_
      refine s_pick1 (v := .bool true) (ev_t rfl rfl) ev_c (w0 rfl) ?_
      refine c_done ?_
      refine n_then ?_
      refine c_cond1 (ev_t rfl rfl) ?_
      refine c_seq ?_
      refine c_reg ?_
      refine s_assign (v := .bool false) ev_c (w0 rfl) ?_
      refine c_done ?_
      refine n_then ?_
      refine c_ret ?_
      refine r_then ?_
      refine ret1 (v := .bool false) rfl rfl rfl ?_
      refine ⟨_, rfl, ?_, (Ext.refl w)⟩
      (simp only [wordB]; congr 1; symm; simp only [decide_eq_false_iff_not]; omega)
    · refine s_move (v := .bool false) (vb (ev_t rfl rfl) (decide_eq_false h2)) (w0 rfl) ?_
      refine s_move (v := .string s) (ev_t rfl rfl) (wy rfl rfl rfl rfl) ?_
      refine s_byte (j := 0) F_us9 (ev_t rfl rfl) ev_c rfl (by omega) (wy rfl rfl rfl rfl) ?_
      refine s_move (v := .int .u8 lo) (ev_t rfl rfl) (wy rfl rfl rfl rfl) ?_
      refine s_cmp (r := decide ((byteAt s 0 : Int) < lo)) (ev_t rfl rfl) (ev_t rfl rfl) rfl (wy rfl rfl rfl rfl) ?_
      refine s_pick0 (v := .bool (decide ((byteAt s 0 : Int) < lo))) (ev_t rfl rfl) (ev_t rfl rfl) (w0 rfl) ?_
      by_cases h3 : (byteAt s 0 : Int) < lo
      · refine s_move (v := .bool true) (vb (ev_t rfl rfl) (decide_eq_true h3)) (w0 rfl) ?_
        refine s_skip (wn rfl rfl rfl rfl rfl) ?_
        refine s_skip (wn rfl rfl rfl rfl rfl) ?_
        refine s_skip (wn rfl rfl rfl rfl rfl) ?_
        refine s_skip (wn rfl rfl rfl rfl rfl) ?_
        refine s_pick1 (v := .bool true) (ev_t rfl rfl) ev_c (w0 rfl) ?_
        refine c_done ?_
        refine n_then ?_
        refine c_cond1 (ev_t rfl rfl) ?_
        refine c_seq ?_
        refine c_reg ?_
        refine s_assign (v := .bool false) ev_c (w0 rfl) ?_
        refine c_done ?_
        refine n_then ?_
        refine c_ret ?_
        refine r_then ?_
        refine ret1 (v := .bool false) rfl rfl rfl ?_
        refine ⟨_, rfl, ?_, (Ext.refl w)⟩
        (simp only [wordB]; congr 1; symm; simp only [decide_eq_false_iff_not]; omega)
      · refine s_move (v := .bool false) (vb (ev_t rfl rfl) (decide_eq_false h3)) (w0 rfl) ?_
        refine s_move (v := .string s) (ev_t rfl rfl) (wy rfl rfl rfl rfl) ?_
        refine s_byte (j := 0) F_us9 (ev_t rfl rfl) ev_c rfl (by omega) (wy rfl rfl rfl rfl) ?_
        refine s_move (v := .int .u8 hi) (ev_t rfl rfl) (wy rfl rfl rfl rfl) ?_
        refine s_cmp (r := decide (hi < (byteAt s 0 : Int))) (ev_t rfl rfl) (ev_t rfl rfl) rfl (wy rfl rfl rfl rfl) ?_
        refine s_pick0 (v := .bool (decide (hi < (byteAt s 0 : Int)))) (ev_t rfl rfl) (ev_t rfl rfl) (w0 rfl) ?_
        refine c_done ?_
        refine n_then ?_
        by_cases h4 : hi < (byteAt s 0 : Int)
        · refine c_cond1 (vb (ev_t rfl rfl) (decide_eq_true h4)) ?_
          refine c_seq ?_
          refine c_reg ?_
          refine s_assign (v := .bool false) ev_c (w0 rfl) ?_
          refine c_done ?_
          refine n_then ?_
          refine c_ret ?_
          refine r_then ?_
          refine ret1 (v := .bool false) rfl rfl rfl ?_
          refine ⟨_, rfl, ?_, (Ext.refl w)⟩
          (simp only [wordB]; congr 1; symm; simp only [decide_eq_false_iff_not]; omega)
        · refine c_cond0 (vb (ev_t rfl rfl) (decide_eq_false h4)) ?_
          refine c_skip ?_
          refine n_then ?_
          refine c_seq ?_
          refine c_seq ?_
          refine c_reg ?_
          refine s_assign (v := .int .i64 1) ev_c (w0 rfl) ?_
          refine c_done ?_
          refine n_then ?_
          refine c_block ?_
          refine c_loop (α := Nat) (fun (i : Nat) env_ w_ => Ext w w_ ∧ 1 ≤ i ∧ i ≤ s.size ∧ (∀ j, 1 ≤ j → j < i → letterB (byteAt s j) = true) ∧ env_ 0 = .string s ∧ env_ 7 = .int .i64 ((i : Nat) : Int)) (fun i => s.size - i) (1) ⟨Ext.refl _, Nat.le_refl _, by omega, fun j h1 hj => by omega, rfl, rfl⟩ ?_
          rintro i env7 w5 ⟨x6, i8, i9, i10, e11, e12⟩
          refine c_seq ?_
          refine c_seq ?_
          refine c_reg ?_
          refine s_move (v := .int .i64 ((i : Nat) : Int)) (ev_t rfl e12) (w0 rfl) ?_
          refine s_move (v := .string s) (ev_t rfl e11) (w0 rfl) ?_
          refine s_lenS F_us9 (ev_t rfl rfl) (w0 rfl) ?_
          refine s_cmp (r := decide (((i : Nat) : Int) < (s.size : Int))) (ev_t rfl rfl) (ev_t rfl rfl) rfl (w0 rfl) ?_
          refine c_done ?_
          refine n_then ?_
          by_cases h13 : ((i : Nat) : Int) < (s.size : Int)
          · refine c_cond1 (vb (ev_t rfl rfl) (decide_eq_true h13)) ?_
            refine c_skip ?_
            refine n_then ?_
            refine c_seq ?_
            refine c_block ?_
            refine c_seq ?_
            refine c_reg ?_
            refine s_move (v := .string s) (ev_t rfl e11) (w0 rfl) ?_
            refine s_move (v := .int .i64 ((i : Nat) : Int)) (ev_t rfl e12) (w0 rfl) ?_
            refine s_byte (j := i) F_us9 (ev_t rfl rfl) (ev_t rfl rfl) rfl (by omega) (w0 rfl) ?_
            refine s_call F_e125 (w0 rfl) ev_f (m1 (ev_t rfl rfl)) (args := #[.int .u8 (byteAt s i : Int)]) rfl (r1_letter (byteAt s i : Int) _) ?_
            rintro _ w15 ⟨rfl, x14⟩
            refine s_not (b := letterB (byteAt s i : Int)) (ev_t rfl rfl) (w0 rfl) ?_
            refine c_done ?_
            refine n_then ?_
            rcases Bool.eq_false_or_eq_true (letterB (byteAt s i : Int)) with h16 | h16
            · refine c_cond0 (vb (ev_t rfl rfl) (nbt h16)) ?_
              refine c_skip ?_
              refine n_block ?_
              refine n_then ?_
              refine c_reg ?_
              refine s_move (v := .int .i64 ((i : Nat) : Int)) (ev_t rfl e12) (w0 rfl) ?_
              refine s_add (r := ((i + 1 : Nat) : Int)) (ev_t rfl rfl) ev_c (by omega) (by omega) (w0 rfl) ?_
              refine s_assign (v := .int .i64 ((i + 1 : Nat) : Int)) (ev_t rfl rfl) (w0 rfl) ?_
              refine c_done ?_
              exact ⟨(i + 1), _, rfl, ⟨(Ext.trans x6 x14), by omega, by omega, step_all i10 (by assumption), e11, rfl⟩, (show s.size - (i + 1) < s.size - i by omega)⟩
            · refine c_cond1 (vb (ev_t rfl rfl) (nbf h16)) ?_
              refine c_seq ?_
              refine c_reg ?_
              refine s_assign (v := .bool false) ev_c (w0 rfl) ?_
              refine c_done ?_
              refine n_then ?_
              refine c_ret ?_
              refine r_block ?_
              refine r_then ?_
              refine r_then ?_
              refine r_block ?_
              refine r_then ?_
              refine ret1 (v := .bool false) rfl rfl rfl ?_
              refine ⟨_, rfl, ?_, (Ext.trans x6 x14)⟩
              (refine congrArg Value.bool (Eq.symm (wordB_no i (by omega) (by assumption))))
          · refine c_cond0 (vb (ev_t rfl rfl) (decide_eq_false h13)) ?_
            refine c_exit ?_
            refine e_then ?_
            refine e_then ?_
            refine e_hit ?_
            refine n_then ?_
            refine c_seq ?_
            refine c_reg ?_
            refine s_assign (v := .bool true) ev_c (w0 rfl) ?_
            refine c_done ?_
            refine n_then ?_
            refine c_ret ?_
            refine ret1 (v := .bool true) rfl rfl rfl ?_
            refine ⟨_, rfl, ?_, x6⟩
            (refine congrArg Value.bool (Eq.symm (wordB_yes hl (by omega) (by omega) (by omega) (by omega) (fun j h1 hj => i10 j h1 (by omega)))))
set_option maxHeartbeats 4000000 in
theorem r1_Keyword (s : ByteArray) (w : World) :
    Rt Tryd.prog 119 #[.string s] w fun v w' => v = .bool (kwB s) ∧ Ext w w' := by
  refine enter Tryd.func119 rfl (l := [.string s]) rfl Tryd.ntmps119 (Nat.le_of_ble_eq_true rfl) ?_
  refine c_seq ?_
  refine c_reg ?_
  refine s_assign (v := .bool false) ev_c (w0 rfl) ?_
  refine c_done ?_
  refine n_then ?_
  refine c_seq ?_
  refine c_reg ?_
  refine s_move (v := .string s) (ev_t rfl rfl) (w0 rfl) ?_
  refine s_cmpS (r := decide (s = (⟨#[110, 111, 116]⟩ : ByteArray))) (ev_t rfl rfl) ev_c rfl (w0 rfl) ?_
  by_cases h1 : s = (⟨#[110, 111, 116]⟩ : ByteArray)
  · refine s_move (v := .bool true) (vb (ev_t rfl rfl) (decide_eq_true h1)) (w0 rfl) ?_
    refine s_skip (wn rfl rfl rfl rfl rfl) ?_
    refine s_skip (wn rfl rfl rfl rfl rfl) ?_
    refine s_pick1 (v := .bool true) (ev_t rfl rfl) ev_c (w0 rfl) ?_
    refine s_move (v := .bool true) (ev_t rfl rfl) (w0 rfl) ?_
    refine s_skip (wn rfl rfl rfl rfl rfl) ?_
    refine s_skip (wn rfl rfl rfl rfl rfl) ?_
    refine s_pick1 (v := .bool true) (ev_t rfl rfl) ev_c (w0 rfl) ?_
    refine s_move (v := .bool true) (ev_t rfl rfl) (w0 rfl) ?_
    refine s_skip (wn rfl rfl rfl rfl rfl) ?_
    refine s_skip (wn rfl rfl rfl rfl rfl) ?_
    refine s_pick1 (v := .bool true) (ev_t rfl rfl) ev_c (w0 rfl) ?_
    refine s_move (v := .bool true) (ev_t rfl rfl) (w0 rfl) ?_
    refine s_skip (wn rfl rfl rfl rfl rfl) ?_
    refine s_skip (wn rfl rfl rfl rfl rfl) ?_
    refine s_pick1 (v := .bool true) (ev_t rfl rfl) ev_c (w0 rfl) ?_
    refine s_move (v := .bool true) (ev_t rfl rfl) (w0 rfl) ?_
    refine s_skip (wn rfl rfl rfl rfl rfl) ?_
    refine s_skip (wn rfl rfl rfl rfl rfl) ?_
    refine s_pick1 (v := .bool true) (ev_t rfl rfl) ev_c (w0 rfl) ?_
    refine s_move (v := .bool true) (ev_t rfl rfl) (w0 rfl) ?_
    refine s_skip (wn rfl rfl rfl rfl rfl) ?_
    refine s_skip (wn rfl rfl rfl rfl rfl) ?_
    refine s_pick1 (v := .bool true) (ev_t rfl rfl) ev_c (w0 rfl) ?_
    refine s_move (v := .bool true) (ev_t rfl rfl) (w0 rfl) ?_
    refine s_skip (wn rfl rfl rfl rfl rfl) ?_
    refine s_skip (wn rfl rfl rfl rfl rfl) ?_
    refine s_pick1 (v := .bool true) (ev_t rfl rfl) ev_c (w0 rfl) ?_
    refine s_assign (v := .bool true) (ev_t rfl rfl) (w0 rfl) ?_
    refine c_done ?_
    refine n_then ?_
    refine c_ret ?_
    refine ret1 (v := .bool true) rfl rfl rfl ?_
    refine ⟨_, rfl, ?_, (Ext.refl w)⟩
    (first | rfl | (simp [kwB, *]; done) | (simp [kwB, *]; omega) | (simp [kwB, *] <;> omega))
  · refine s_move (v := .bool false) (vb (ev_t rfl rfl) (decide_eq_false h1)) (w0 rfl) ?_
    refine s_move (v := .string s) (ev_t rfl rfl) (wy rfl rfl rfl rfl) ?_
    refine s_cmpS (r := decide (s = (⟨#[99, 111, 117, 110, 116]⟩ : ByteArray))) (ev_t rfl rfl) ev_c rfl (wy rfl rfl rfl rfl) ?_
    refine s_pick0 (v := .bool (decide (s = (⟨#[99, 111, 117, 110, 116]⟩ : ByteArray)))) (ev_t rfl rfl) (ev_t rfl rfl) (w0 rfl) ?_
    by_cases h2 : s = (⟨#[99, 111, 117, 110, 116]⟩ : ByteArray)
    · refine s_move (v := .bool true) (vb (ev_t rfl rfl) (decide_eq_true h2)) (w0 rfl) ?_
      refine s_skip (wn rfl rfl rfl rfl rfl) ?_
      refine s_skip (wn rfl rfl rfl rfl rfl) ?_
      refine s_pick1 (v := .bool true) (ev_t rfl rfl) ev_c (w0 rfl) ?_
      refine s_move (v := .bool true) (ev_t rfl rfl) (w0 rfl) ?_
      refine s_skip (wn rfl rfl rfl rfl rfl) ?_
      refine s_skip (wn rfl rfl rfl rfl rfl) ?_
      refine s_pick1 (v := .bool true) (ev_t rfl rfl) ev_c (w0 rfl) ?_
      refine s_move (v := .bool true) (ev_t rfl rfl) (w0 rfl) ?_
      refine s_skip (wn rfl rfl rfl rfl rfl) ?_
      refine s_skip (wn rfl rfl rfl rfl rfl) ?_
      refine s_pick1 (v := .bool true) (ev_t rfl rfl) ev_c (w0 rfl) ?_
      refine s_move (v := .bool true) (ev_t rfl rfl) (w0 rfl) ?_
      refine s_skip (wn rfl rfl rfl rfl rfl) ?_
      refine s_skip (wn rfl rfl rfl rfl rfl) ?_
      refine s_pick1 (v := .bool true) (ev_t rfl rfl) ev_c (w0 rfl) ?_
      refine s_move (v := .bool true) (ev_t rfl rfl) (w0 rfl) ?_
      refine s_skip (wn rfl rfl rfl rfl rfl) ?_
      refine s_skip (wn rfl rfl rfl rfl rfl) ?_
      refine s_pick1 (v := .bool true) (ev_t rfl rfl) ev_c (w0 rfl) ?_
      refine s_move (v := .bool true) (ev_t rfl rfl) (w0 rfl) ?_
      refine s_skip (wn rfl rfl rfl rfl rfl) ?_
      refine s_skip (wn rfl rfl rfl rfl rfl) ?_
      refine s_pick1 (v := .bool true) (ev_t rfl rfl) ev_c (w0 rfl) ?_
      refine s_assign (v := .bool true) (ev_t rfl rfl) (w0 rfl) ?_
      refine c_done ?_
      refine n_then ?_
      refine c_ret ?_
      refine ret1 (v := .bool true) rfl rfl rfl ?_
      refine ⟨_, rfl, ?_, (Ext.refl w)⟩
      (first | rfl | (simp [kwB, *]; done) | (simp [kwB, *]; omega) | (simp [kwB, *] <;> omega))
    · refine s_move (v := .bool false) (vb (ev_t rfl rfl) (decide_eq_false h2)) (w0 rfl) ?_
      refine s_move (v := .string s) (ev_t rfl rfl) (wy rfl rfl rfl rfl) ?_
      refine s_cmpS (r := decide (s = (⟨#[115, 117, 109]⟩ : ByteArray))) (ev_t rfl rfl) ev_c rfl (wy rfl rfl rfl rfl) ?_
      refine s_pick0 (v := .bool (decide (s = (⟨#[115, 117, 109]⟩ : ByteArray)))) (ev_t rfl rfl) (ev_t rfl rfl) (w0 rfl) ?_
      by_cases h3 : s = (⟨#[115, 117, 109]⟩ : ByteArray)
      · refine s_move (v := .bool true) (vb (ev_t rfl rfl) (decide_eq_true h3)) (w0 rfl) ?_
        refine s_skip (wn rfl rfl rfl rfl rfl) ?_
        refine s_skip (wn rfl rfl rfl rfl rfl) ?_
        refine s_pick1 (v := .bool true) (ev_t rfl rfl) ev_c (w0 rfl) ?_
        refine s_move (v := .bool true) (ev_t rfl rfl) (w0 rfl) ?_
        refine s_skip (wn rfl rfl rfl rfl rfl) ?_
        refine s_skip (wn rfl rfl rfl rfl rfl) ?_
        refine s_pick1 (v := .bool true) (ev_t rfl rfl) ev_c (w0 rfl) ?_
        refine s_move (v := .bool true) (ev_t rfl rfl) (w0 rfl) ?_
        refine s_skip (wn rfl rfl rfl rfl rfl) ?_
        refine s_skip (wn rfl rfl rfl rfl rfl) ?_
        refine s_pick1 (v := .bool true) (ev_t rfl rfl) ev_c (w0 rfl) ?_
        refine s_move (v := .bool true) (ev_t rfl rfl) (w0 rfl) ?_
        refine s_skip (wn rfl rfl rfl rfl rfl) ?_
        refine s_skip (wn rfl rfl rfl rfl rfl) ?_
        refine s_pick1 (v := .bool true) (ev_t rfl rfl) ev_c (w0 rfl) ?_
        refine s_move (v := .bool true) (ev_t rfl rfl) (w0 rfl) ?_
        refine s_skip (wn rfl rfl rfl rfl rfl) ?_
        refine s_skip (wn rfl rfl rfl rfl rfl) ?_
        refine s_pick1 (v := .bool true) (ev_t rfl rfl) ev_c (w0 rfl) ?_
        refine s_assign (v := .bool true) (ev_t rfl rfl) (w0 rfl) ?_
        refine c_done ?_
        refine n_then ?_
        refine c_ret ?_
        refine ret1 (v := .bool true) rfl rfl rfl ?_
        refine ⟨_, rfl, ?_, (Ext.refl w)⟩
        (first | rfl | (simp [kwB, *]; done) | (simp [kwB, *]; omega) | (simp [kwB, *] <;> omega))
      · refine s_move (v := .bool false) (vb (ev_t rfl rfl) (decide_eq_false h3)) (w0 rfl) ?_
        refine s_move (v := .string s) (ev_t rfl rfl) (wy rfl rfl rfl rfl) ?_
        refine s_cmpS (r := decide (s = (⟨#[109, 105, 110]⟩ : ByteArray))) (ev_t rfl rfl) ev_c rfl (wy rfl rfl rfl rfl) ?_
        refine s_pick0 (v := .bool (decide (s = (⟨#[109, 105, 110]⟩ : ByteArray)))) (ev_t rfl rfl) (ev_t rfl rfl) (w0 rfl) ?_
        by_cases h4 : s = (⟨#[109, 105, 110]⟩ : ByteArray)
        · refine s_move (v := .bool true) (vb (ev_t rfl rfl) (decide_eq_true h4)) (w0 rfl) ?_
          refine s_skip (wn rfl rfl rfl rfl rfl) ?_
          refine s_skip (wn rfl rfl rfl rfl rfl) ?_
          refine s_pick1 (v := .bool true) (ev_t rfl rfl) ev_c (w0 rfl) ?_
          refine s_move (v := .bool true) (ev_t rfl rfl) (w0 rfl) ?_
          refine s_skip (wn rfl rfl rfl rfl rfl) ?_
          refine s_skip (wn rfl rfl rfl rfl rfl) ?_
          refine s_pick1 (v := .bool true) (ev_t rfl rfl) ev_c (w0 rfl) ?_
          refine s_move (v := .bool true) (ev_t rfl rfl) (w0 rfl) ?_
          refine s_skip (wn rfl rfl rfl rfl rfl) ?_
          refine s_skip (wn rfl rfl rfl rfl rfl) ?_
          refine s_pick1 (v := .bool true) (ev_t rfl rfl) ev_c (w0 rfl) ?_
          refine s_move (v := .bool true) (ev_t rfl rfl) (w0 rfl) ?_
          refine s_skip (wn rfl rfl rfl rfl rfl) ?_
          refine s_skip (wn rfl rfl rfl rfl rfl) ?_
          refine s_pick1 (v := .bool true) (ev_t rfl rfl) ev_c (w0 rfl) ?_
          refine s_assign (v := .bool true) (ev_t rfl rfl) (w0 rfl) ?_
          refine c_done ?_
          refine n_then ?_
          refine c_ret ?_
          refine ret1 (v := .bool true) rfl rfl rfl ?_
          refine ⟨_, rfl, ?_, (Ext.refl w)⟩
          (first | rfl | (simp [kwB, *]; done) | (simp [kwB, *]; omega) | (simp [kwB, *] <;> omega))
        · refine s_move (v := .bool false) (vb (ev_t rfl rfl) (decide_eq_false h4)) (w0 rfl) ?_
          refine s_move (v := .string s) (ev_t rfl rfl) (wy rfl rfl rfl rfl) ?_
          refine s_cmpS (r := decide (s = (⟨#[109, 97, 120]⟩ : ByteArray))) (ev_t rfl rfl) ev_c rfl (wy rfl rfl rfl rfl) ?_
          refine s_pick0 (v := .bool (decide (s = (⟨#[109, 97, 120]⟩ : ByteArray)))) (ev_t rfl rfl) (ev_t rfl rfl) (w0 rfl) ?_
          by_cases h5 : s = (⟨#[109, 97, 120]⟩ : ByteArray)
          · refine s_move (v := .bool true) (vb (ev_t rfl rfl) (decide_eq_true h5)) (w0 rfl) ?_
            refine s_skip (wn rfl rfl rfl rfl rfl) ?_
            refine s_skip (wn rfl rfl rfl rfl rfl) ?_
            refine s_pick1 (v := .bool true) (ev_t rfl rfl) ev_c (w0 rfl) ?_
            refine s_move (v := .bool true) (ev_t rfl rfl) (w0 rfl) ?_
            refine s_skip (wn rfl rfl rfl rfl rfl) ?_
            refine s_skip (wn rfl rfl rfl rfl rfl) ?_
            refine s_pick1 (v := .bool true) (ev_t rfl rfl) ev_c (w0 rfl) ?_
            refine s_move (v := .bool true) (ev_t rfl rfl) (w0 rfl) ?_
            refine s_skip (wn rfl rfl rfl rfl rfl) ?_
            refine s_skip (wn rfl rfl rfl rfl rfl) ?_
            refine s_pick1 (v := .bool true) (ev_t rfl rfl) ev_c (w0 rfl) ?_
            refine s_assign (v := .bool true) (ev_t rfl rfl) (w0 rfl) ?_
            refine c_done ?_
            refine n_then ?_
            refine c_ret ?_
            refine ret1 (v := .bool true) rfl rfl rfl ?_
            refine ⟨_, rfl, ?_, (Ext.refl w)⟩
            (first | rfl | (simp [kwB, *]; done) | (simp [kwB, *]; omega) | (simp [kwB, *] <;> omega))
          · refine s_move (v := .bool false) (vb (ev_t rfl rfl) (decide_eq_false h5)) (w0 rfl) ?_
            refine s_move (v := .string s) (ev_t rfl rfl) (wy rfl rfl rfl rfl) ?_
            refine s_cmpS (r := decide (s = (⟨#[108, 101, 110]⟩ : ByteArray))) (ev_t rfl rfl) ev_c rfl (wy rfl rfl rfl rfl) ?_
            refine s_pick0 (v := .bool (decide (s = (⟨#[108, 101, 110]⟩ : ByteArray)))) (ev_t rfl rfl) (ev_t rfl rfl) (w0 rfl) ?_
            by_cases h6 : s = (⟨#[108, 101, 110]⟩ : ByteArray)
            · refine s_move (v := .bool true) (vb (ev_t rfl rfl) (decide_eq_true h6)) (w0 rfl) ?_
              refine s_skip (wn rfl rfl rfl rfl rfl) ?_
              refine s_skip (wn rfl rfl rfl rfl rfl) ?_
              refine s_pick1 (v := .bool true) (ev_t rfl rfl) ev_c (w0 rfl) ?_
              refine s_move (v := .bool true) (ev_t rfl rfl) (w0 rfl) ?_
              refine s_skip (wn rfl rfl rfl rfl rfl) ?_
              refine s_skip (wn rfl rfl rfl rfl rfl) ?_
              refine s_pick1 (v := .bool true) (ev_t rfl rfl) ev_c (w0 rfl) ?_
              refine s_assign (v := .bool true) (ev_t rfl rfl) (w0 rfl) ?_
              refine c_done ?_
              refine n_then ?_
              refine c_ret ?_
              refine ret1 (v := .bool true) rfl rfl rfl ?_
              refine ⟨_, rfl, ?_, (Ext.refl w)⟩
              (first | rfl | (simp [kwB, *]; done) | (simp [kwB, *]; omega) | (simp [kwB, *] <;> omega))
            · refine s_move (v := .bool false) (vb (ev_t rfl rfl) (decide_eq_false h6)) (w0 rfl) ?_
              refine s_move (v := .string s) (ev_t rfl rfl) (wy rfl rfl rfl rfl) ?_
              refine s_cmpS (r := decide (s = (⟨#[99, 104, 97, 114, 115]⟩ : ByteArray))) (ev_t rfl rfl) ev_c rfl (wy rfl rfl rfl rfl) ?_
              refine s_pick0 (v := .bool (decide (s = (⟨#[99, 104, 97, 114, 115]⟩ : ByteArray)))) (ev_t rfl rfl) (ev_t rfl rfl) (w0 rfl) ?_
              by_cases h7 : s = (⟨#[99, 104, 97, 114, 115]⟩ : ByteArray)
              · refine s_move (v := .bool true) (vb (ev_t rfl rfl) (decide_eq_true h7)) (w0 rfl) ?_
                refine s_skip (wn rfl rfl rfl rfl rfl) ?_
                refine s_skip (wn rfl rfl rfl rfl rfl) ?_
                refine s_pick1 (v := .bool true) (ev_t rfl rfl) ev_c (w0 rfl) ?_
                refine s_assign (v := .bool true) (ev_t rfl rfl) (w0 rfl) ?_
                refine c_done ?_
                refine n_then ?_
                refine c_ret ?_
                refine ret1 (v := .bool true) rfl rfl rfl ?_
                refine ⟨_, rfl, ?_, (Ext.refl w)⟩
                (first | rfl | (simp [kwB, *]; done) | (simp [kwB, *]; omega) | (simp [kwB, *] <;> omega))
              · refine s_move (v := .bool false) (vb (ev_t rfl rfl) (decide_eq_false h7)) (w0 rfl) ?_
                refine s_move (v := .string s) (ev_t rfl rfl) (wy rfl rfl rfl rfl) ?_
                refine s_cmpS (r := decide (s = (⟨#[98, 97, 99, 107]⟩ : ByteArray))) (ev_t rfl rfl) ev_c rfl (wy rfl rfl rfl rfl) ?_
                refine s_pick0 (v := .bool (decide (s = (⟨#[98, 97, 99, 107]⟩ : ByteArray)))) (ev_t rfl rfl) (ev_t rfl rfl) (w0 rfl) ?_
                refine s_assign (v := .bool (decide (s = (⟨#[98, 97, 99, 107]⟩ : ByteArray)))) (ev_t rfl rfl) (w0 rfl) ?_
                refine c_done ?_
                refine n_then ?_
                refine c_ret ?_
                refine ret1 (v := .bool (decide (s = (⟨#[98, 97, 99, 107]⟩ : ByteArray)))) rfl rfl rfl ?_
                refine ⟨_, rfl, ?_, (Ext.refl w)⟩
                (first | rfl | (simp [kwB, *]; done) | (simp [kwB, *]; omega) | (simp [kwB, *] <;> omega))
set_option maxHeartbeats 4000000 in
theorem r1_Name (s : ByteArray) (w : World) (hs : s.size ≤ 140737488351232) :
    Rt Tryd.prog 105 #[.string s] w fun v w' => v = .bool (nameB s) ∧ Ext w w' := by
  refine enter Tryd.func105 rfl (l := [.string s]) rfl Tryd.ntmps105 (Nat.le_of_ble_eq_true rfl) ?_
  refine c_seq ?_
  refine c_reg ?_
  refine s_assign (v := .bool false) ev_c (w0 rfl) ?_
  refine c_done ?_
  refine n_then ?_
  refine c_seq ?_
  refine c_reg ?_
  refine s_move (v := .string s) (ev_t rfl rfl) (w0 rfl) ?_
  refine s_call F_e117 (w0 rfl) ev_f (m3 (ev_t rfl rfl) ev_c ev_c) (args := #[.string s, .int .u8 97, .int .u8 122]) rfl (r1_written s 97 122 _ (by decide) (by omega)) ?_
  rintro _ w2 ⟨rfl, x1⟩
  rcases Bool.eq_false_or_eq_true (wordB s 97 122) with h3 | h3
  · refine s_move (v := .bool true) (vb (ev_t rfl rfl) h3) (w0 rfl) ?_
    refine s_move (v := .string s) (ev_t rfl rfl) (wy rfl rfl rfl rfl) ?_
    refine s_call F_e119 (wy rfl rfl rfl rfl) ev_f (m1 (ev_t rfl rfl)) (args := #[.string s]) rfl (r1_Keyword s _) ?_
    rintro _ w5 ⟨rfl, x4⟩
    refine s_not (b := kwB s) (ev_t rfl rfl) (wy rfl rfl rfl rfl) ?_
    refine s_pick1 (v := .bool (!(kwB s))) (ev_t rfl rfl) (ev_t rfl rfl) (w0 rfl) ?_
    refine s_assign (v := .bool (!(kwB s))) (ev_t rfl rfl) (w0 rfl) ?_
    refine c_done ?_
    refine n_then ?_
    refine c_ret ?_
    refine ret1 (v := .bool (!(kwB s))) rfl rfl rfl ?_
    refine ⟨_, rfl, ?_, (Ext.trans x1 x4)⟩
    (first | rfl | (simp [nameB, *]; done) | (simp [nameB, *]; omega) | (simp [nameB, *] <;> omega))
  · refine s_move (v := .bool false) (vb (ev_t rfl rfl) h3) (w0 rfl) ?_
    refine s_skip (wn rfl rfl rfl rfl rfl) ?_
    refine s_skip (wn rfl rfl rfl rfl rfl) ?_
    refine s_skip (wn rfl rfl rfl rfl rfl) ?_
    refine s_pick0 (v := .bool false) (ev_t rfl rfl) ev_c (w0 rfl) ?_
    refine s_assign (v := .bool false) (ev_t rfl rfl) (w0 rfl) ?_
    refine c_done ?_
    refine n_then ?_
    refine c_ret ?_
    refine ret1 (v := .bool false) rfl rfl rfl ?_
    refine ⟨_, rfl, ?_, x1⟩
    (first | rfl | (simp [nameB, *]; done) | (simp [nameB, *]; omega) | (simp [nameB, *] <;> omega))
set_option maxHeartbeats 4000000 in
theorem r1_Variable (s : ByteArray) (w : World) (hs : s.size ≤ 140737488351232) :
    Rt Tryd.prog 103 #[.string s] w fun v w' => v = .bool (varB s) ∧ Ext w w' := by
  refine enter Tryd.func103 rfl (l := [.string s]) rfl Tryd.ntmps103 (Nat.le_of_ble_eq_true rfl) ?_
  refine c_seq ?_
  refine c_reg ?_
  refine s_assign (v := .bool false) ev_c (w0 rfl) ?_
  refine c_done ?_
  refine n_then ?_
  refine c_seq ?_
  refine c_reg ?_
  refine s_move (v := .string s) (ev_t rfl rfl) (w0 rfl) ?_
  refine s_call F_e117 (w0 rfl) ev_f (m3 (ev_t rfl rfl) ev_c ev_c) (args := #[.string s, .int .u8 65, .int .u8 90]) rfl (r1_written s 65 90 _ (by decide) (by omega)) ?_
  rintro _ w2 ⟨rfl, x1⟩
  refine s_assign (v := .bool (wordB s 65 90)) (ev_t rfl rfl) (w0 rfl) ?_
  refine c_done ?_
  refine n_then ?_
  refine c_ret ?_
  refine ret1 (v := .bool (wordB s 65 90)) rfl rfl rfl ?_
  refine ⟨_, rfl, ?_, x1⟩
  (first | rfl | (simp [varB, *]; done) | (simp [varB, *]; omega) | (simp [varB, *] <;> omega))
set_option maxHeartbeats 4000000 in
theorem r1_Check (x : Vl) (w : World) :
    Rt Tryd.prog 102 #[.agg #[.int .i8 x.k, .int .i64 x.n, .string x.s]] w fun v w' => v = .int .i64 (if okV x then 0 else 10 : Int) ∧ Ext w w' := by
  refine enter Tryd.func102 rfl (l := [.agg #[.int .i8 x.k, .int .i64 x.n, .string x.s]]) rfl Tryd.ntmps102 (Nat.le_of_ble_eq_true rfl) ?_
  refine c_seq ?_
  refine c_reg ?_
  refine s_box (v := .agg #[.int .i8 x.k, .int .i64 x.n, .string x.s]) (cs := #[.int .i8 x.k, .int .i64 x.n, .string x.s]) (w0 rfl) (ev_t rfl rfl) rfl ?_
  intro w2 g1 n3
  refine s_assign (v := .int .i64 0) ev_c (w0 rfl) ?_
  refine c_done ?_
  refine n_then ?_
  refine c_seq ?_
  refine c_seq ?_
  refine c_reg ?_
  refine s_field (off := 0) (o' := 0) F_f26_0 (ev_t rfl rfl) rfl (w0 rfl) ?_
  refine s_load (v := .int .i8 x.k) F_o24 (ev_t rfl rfl) (cell_of_blk (i := 0) (NewB.blk n3) rfl) (w0 rfl) ?_
  refine s_cmp (r := decide (x.k = 1)) (ev_t rfl rfl) ev_c rfl (w0 rfl) ?_
  by_cases h4 : x.k = 1
  · refine s_move (v := .bool true) (vb (ev_t rfl rfl) (decide_eq_true h4)) (w0 rfl) ?_
    refine s_field (off := 2) (o' := 2) F_f26_2 (ev_t rfl rfl) rfl (wy rfl rfl rfl rfl) ?_
    refine s_load (v := .string x.s) F_o9 (ev_t rfl rfl) (cell_of_blk (i := 2) (NewB.blk n3) rfl) (wy rfl rfl rfl rfl) ?_
    refine s_cmpS (r := decide (x.s = (⟨#[]⟩ : ByteArray))) (ev_t rfl rfl) ev_c rfl (wy rfl rfl rfl rfl) ?_
    refine s_pick1 (v := .bool (decide (x.s = (⟨#[]⟩ : ByteArray)))) (ev_t rfl rfl) (ev_t rfl rfl) (w0 rfl) ?_
    by_cases h5 : x.s = (⟨#[]⟩ : ByteArray)
    · refine s_move (v := .bool true) (vb (ev_t rfl rfl) (decide_eq_true h5)) (w0 rfl) ?_
      refine s_skip (wn rfl rfl rfl rfl rfl) ?_
      refine s_skip (wn rfl rfl rfl rfl rfl) ?_
      refine s_skip (wn rfl rfl rfl rfl rfl) ?_
      refine s_skip (wn rfl rfl rfl rfl rfl) ?_
      refine s_skip (wu rfl rfl rfl rfl) ?_
      refine s_skip (wu rfl rfl rfl rfl) ?_
      refine s_skip (wu rfl rfl rfl rfl) ?_
      refine s_skip (wn rfl rfl rfl rfl rfl) ?_
      refine s_skip (wn rfl rfl rfl rfl rfl) ?_
      refine s_skip (wu rfl rfl rfl rfl) ?_
      refine s_skip (wu rfl rfl rfl rfl) ?_
      refine s_skip (wu rfl rfl rfl rfl) ?_
      refine s_skip (wu rfl rfl rfl rfl) ?_
      refine s_skip (wn rfl rfl rfl rfl rfl) ?_
      refine s_pick1 (v := .bool true) (ev_t rfl rfl) ev_c (w0 rfl) ?_
      refine c_done ?_
      refine n_then ?_
      refine c_cond1 (ev_t rfl rfl) ?_
      refine c_seq ?_
      refine c_reg ?_
      refine s_assign (v := .int .i64 0) ev_c (w0 rfl) ?_
      refine c_done ?_
      refine n_then ?_
      refine c_ret ?_
      refine r_then ?_
      refine ret1 (v := .int .i64 0) rfl rfl rfl ?_
      refine ⟨_, rfl, ?_, (NewB.ext n3)⟩
      (first | rfl | (simp [okV, *]; done) | (simp [okV, *]; omega) | (simp [okV, *] <;> omega))
    · refine s_move (v := .bool false) (vb (ev_t rfl rfl) (decide_eq_false h5)) (w0 rfl) ?_
      refine s_field (off := 0) (o' := 0) F_f26_0 (ev_t rfl rfl) rfl (wy rfl rfl rfl rfl) ?_
      refine s_load (v := .int .i8 x.k) F_o24 (ev_t rfl rfl) (cell_of_blk (i := 0) (NewB.blk n3) rfl) (wy rfl rfl rfl rfl) ?_
      refine s_cmp (r := decide (x.k = 2)) (ev_t rfl rfl) ev_c rfl (wy rfl rfl rfl rfl) ?_
      by_cases h6 : x.k = 2
      · refine s_move (v := .bool true) (vb (ev_t rfl rfl) (decide_eq_true h6)) (wy rfl rfl rfl rfl) ?_
        refine s_field (off := 1) (o' := 1) F_f26_1 (ev_t rfl rfl) rfl (wy rfl rfl rfl rfl) ?_
        refine s_load (v := .int .i64 x.n) F_o2 (ev_t rfl rfl) (cell_of_blk (i := 1) (NewB.blk n3) rfl) (wy rfl rfl rfl rfl) ?_
        refine s_cmp (r := decide (x.n = 0)) (ev_t rfl rfl) ev_c rfl (wy rfl rfl rfl rfl) ?_
        refine s_pick1 (v := .bool (decide (x.n = 0))) (ev_t rfl rfl) (ev_t rfl rfl) (wy rfl rfl rfl rfl) ?_
        by_cases h7 : x.n = 0
        · refine s_move (v := .bool true) (vb (ev_t rfl rfl) (decide_eq_true h7)) (wy rfl rfl rfl rfl) ?_
          refine s_field (off := 2) (o' := 2) F_f26_2 (ev_t rfl rfl) rfl (wy rfl rfl rfl rfl) ?_
          refine s_load (v := .string x.s) F_o9 (ev_t rfl rfl) (cell_of_blk (i := 2) (NewB.blk n3) rfl) (wy rfl rfl rfl rfl) ?_
          refine s_lenS F_us9 (ev_t rfl rfl) (wy rfl rfl rfl rfl) ?_
          refine s_cmp (r := decide ((x.s.size : Int) ≤ 200)) (ev_t rfl rfl) ev_c rfl (wy rfl rfl rfl rfl) ?_
          refine s_pick1 (v := .bool (decide ((x.s.size : Int) ≤ 200))) (ev_t rfl rfl) (ev_t rfl rfl) (wy rfl rfl rfl rfl) ?_
          refine s_pick0 (v := .bool (decide ((x.s.size : Int) ≤ 200))) (ev_t rfl rfl) (ev_t rfl rfl) (w0 rfl) ?_
          refine c_done ?_
          refine n_then ?_
          by_cases h8 : (x.s.size : Int) ≤ 200
          · refine c_cond1 (vb (ev_t rfl rfl) (decide_eq_true h8)) ?_
            refine c_seq ?_
            refine c_reg ?_
            refine s_assign (v := .int .i64 0) ev_c (w0 rfl) ?_
            refine c_done ?_
            refine n_then ?_
            refine c_ret ?_
            refine r_then ?_
            refine ret1 (v := .int .i64 0) rfl rfl rfl ?_
            refine ⟨_, rfl, ?_, (NewB.ext n3)⟩
            (first | rfl | (simp [okV, *]; done) | (simp [okV, *]; omega) | (simp [okV, *] <;> omega))
          · refine c_cond0 (vb (ev_t rfl rfl) (decide_eq_false h8)) ?_
            refine c_skip ?_
            refine n_then ?_
            refine c_seq ?_
            refine c_reg ?_
            refine s_assign (v := .int .i64 10) ev_c (w0 rfl) ?_
            refine c_done ?_
            refine n_then ?_
            refine c_ret ?_
            refine ret1 (v := .int .i64 10) rfl rfl rfl ?_
            refine ⟨_, rfl, ?_, (NewB.ext n3)⟩
            (first | rfl | (simp [okV, *]; done) | (simp [okV, *]; omega) | (simp [okV, *] <;> omega))
        · refine s_move (v := .bool false) (vb (ev_t rfl rfl) (decide_eq_false h7)) (wy rfl rfl rfl rfl) ?_
          refine s_skip (wn rfl rfl rfl rfl rfl) ?_
          refine s_skip (wn rfl rfl rfl rfl rfl) ?_
          refine s_skip (wn rfl rfl rfl rfl rfl) ?_
          refine s_skip (wn rfl rfl rfl rfl rfl) ?_
          refine s_pick0 (v := .bool false) (ev_t rfl rfl) ev_c (wy rfl rfl rfl rfl) ?_
          refine s_pick0 (v := .bool false) (ev_t rfl rfl) (ev_t rfl rfl) (w0 rfl) ?_
          refine c_done ?_
          refine n_then ?_
          refine c_cond0 (ev_t rfl rfl) ?_
          refine c_skip ?_
          refine n_then ?_
          refine c_seq ?_
          refine c_reg ?_
          refine s_assign (v := .int .i64 10) ev_c (w0 rfl) ?_
          refine c_done ?_
          refine n_then ?_
          refine c_ret ?_
          refine ret1 (v := .int .i64 10) rfl rfl rfl ?_
          refine ⟨_, rfl, ?_, (NewB.ext n3)⟩
          (first | rfl | (simp [okV, *]; done) | (simp [okV, *]; omega) | (simp [okV, *] <;> omega))
      · refine s_move (v := .bool false) (vb (ev_t rfl rfl) (decide_eq_false h6)) (wy rfl rfl rfl rfl) ?_
        refine s_skip (wn rfl rfl rfl rfl rfl) ?_
        refine s_skip (wn rfl rfl rfl rfl rfl) ?_
        refine s_skip (wn rfl rfl rfl rfl rfl) ?_
        refine s_pick0 (v := .bool false) (ev_t rfl rfl) ev_c (wy rfl rfl rfl rfl) ?_
        refine s_move (v := .bool false) (ev_t rfl rfl) (wy rfl rfl rfl rfl) ?_
        refine s_skip (wn rfl rfl rfl rfl rfl) ?_
        refine s_skip (wn rfl rfl rfl rfl rfl) ?_
        refine s_skip (wn rfl rfl rfl rfl rfl) ?_
        refine s_skip (wn rfl rfl rfl rfl rfl) ?_
        refine s_pick0 (v := .bool false) (ev_t rfl rfl) ev_c (wy rfl rfl rfl rfl) ?_
        refine s_pick0 (v := .bool false) (ev_t rfl rfl) (ev_t rfl rfl) (w0 rfl) ?_
        refine c_done ?_
        refine n_then ?_
        refine c_cond0 (ev_t rfl rfl) ?_
        refine c_skip ?_
        refine n_then ?_
        refine c_seq ?_
        refine c_reg ?_
        refine s_assign (v := .int .i64 10) ev_c (w0 rfl) ?_
        refine c_done ?_
        refine n_then ?_
        refine c_ret ?_
        refine ret1 (v := .int .i64 10) rfl rfl rfl ?_
        refine ⟨_, rfl, ?_, (NewB.ext n3)⟩
        (first | rfl | (simp [okV, *]; done) | (simp [okV, *]; omega) | (simp [okV, *] <;> omega))
  · refine s_move (v := .bool false) (vb (ev_t rfl rfl) (decide_eq_false h4)) (w0 rfl) ?_
    refine s_skip (wn rfl rfl rfl rfl rfl) ?_
    refine s_skip (wn rfl rfl rfl rfl rfl) ?_
    refine s_skip (wn rfl rfl rfl rfl rfl) ?_
    refine s_pick0 (v := .bool false) (ev_t rfl rfl) ev_c (w0 rfl) ?_
    refine s_move (v := .bool false) (ev_t rfl rfl) (w0 rfl) ?_
    refine s_field (off := 0) (o' := 0) F_f26_0 (ev_t rfl rfl) rfl (wy rfl rfl rfl rfl) ?_
    refine s_load (v := .int .i8 x.k) F_o24 (ev_t rfl rfl) (cell_of_blk (i := 0) (NewB.blk n3) rfl) (wy rfl rfl rfl rfl) ?_
    refine s_cmp (r := decide (x.k = 2)) (ev_t rfl rfl) ev_c rfl (wy rfl rfl rfl rfl) ?_
    by_cases h9 : x.k = 2
    · refine s_move (v := .bool true) (vb (ev_t rfl rfl) (decide_eq_true h9)) (wy rfl rfl rfl rfl) ?_
      refine s_field (off := 1) (o' := 1) F_f26_1 (ev_t rfl rfl) rfl (wy rfl rfl rfl rfl) ?_
      refine s_load (v := .int .i64 x.n) F_o2 (ev_t rfl rfl) (cell_of_blk (i := 1) (NewB.blk n3) rfl) (wy rfl rfl rfl rfl) ?_
      refine s_cmp (r := decide (x.n = 0)) (ev_t rfl rfl) ev_c rfl (wy rfl rfl rfl rfl) ?_
      refine s_pick1 (v := .bool (decide (x.n = 0))) (ev_t rfl rfl) (ev_t rfl rfl) (wy rfl rfl rfl rfl) ?_
      by_cases h10 : x.n = 0
      · refine s_move (v := .bool true) (vb (ev_t rfl rfl) (decide_eq_true h10)) (wy rfl rfl rfl rfl) ?_
        refine s_field (off := 2) (o' := 2) F_f26_2 (ev_t rfl rfl) rfl (wy rfl rfl rfl rfl) ?_
        refine s_load (v := .string x.s) F_o9 (ev_t rfl rfl) (cell_of_blk (i := 2) (NewB.blk n3) rfl) (wy rfl rfl rfl rfl) ?_
        refine s_lenS F_us9 (ev_t rfl rfl) (wy rfl rfl rfl rfl) ?_
        refine s_cmp (r := decide ((x.s.size : Int) ≤ 200)) (ev_t rfl rfl) ev_c rfl (wy rfl rfl rfl rfl) ?_
        refine s_pick1 (v := .bool (decide ((x.s.size : Int) ≤ 200))) (ev_t rfl rfl) (ev_t rfl rfl) (wy rfl rfl rfl rfl) ?_
        refine s_pick0 (v := .bool (decide ((x.s.size : Int) ≤ 200))) (ev_t rfl rfl) (ev_t rfl rfl) (w0 rfl) ?_
        refine c_done ?_
        refine n_then ?_
        by_cases h11 : (x.s.size : Int) ≤ 200
        · refine c_cond1 (vb (ev_t rfl rfl) (decide_eq_true h11)) ?_
          refine c_seq ?_
          refine c_reg ?_
          refine s_assign (v := .int .i64 0) ev_c (w0 rfl) ?_
          refine c_done ?_
          refine n_then ?_
          refine c_ret ?_
          refine r_then ?_
          refine ret1 (v := .int .i64 0) rfl rfl rfl ?_
          refine ⟨_, rfl, ?_, (NewB.ext n3)⟩
          (first | rfl | (simp [okV, *]; done) | (simp [okV, *]; omega) | (simp [okV, *] <;> omega))
        · refine c_cond0 (vb (ev_t rfl rfl) (decide_eq_false h11)) ?_
          refine c_skip ?_
          refine n_then ?_
          refine c_seq ?_
          refine c_reg ?_
          refine s_assign (v := .int .i64 10) ev_c (w0 rfl) ?_
          refine c_done ?_
          refine n_then ?_
          refine c_ret ?_
          refine ret1 (v := .int .i64 10) rfl rfl rfl ?_
          refine ⟨_, rfl, ?_, (NewB.ext n3)⟩
          (first | rfl | (simp [okV, *]; done) | (simp [okV, *]; omega) | (simp [okV, *] <;> omega))
      · refine s_move (v := .bool false) (vb (ev_t rfl rfl) (decide_eq_false h10)) (wy rfl rfl rfl rfl) ?_
        refine s_skip (wn rfl rfl rfl rfl rfl) ?_
        refine s_skip (wn rfl rfl rfl rfl rfl) ?_
        refine s_skip (wn rfl rfl rfl rfl rfl) ?_
        refine s_skip (wn rfl rfl rfl rfl rfl) ?_
        refine s_pick0 (v := .bool false) (ev_t rfl rfl) ev_c (wy rfl rfl rfl rfl) ?_
        refine s_pick0 (v := .bool false) (ev_t rfl rfl) (ev_t rfl rfl) (w0 rfl) ?_
        refine c_done ?_
        refine n_then ?_
        refine c_cond0 (ev_t rfl rfl) ?_
        refine c_skip ?_
        refine n_then ?_
        refine c_seq ?_
        refine c_reg ?_
        refine s_assign (v := .int .i64 10) ev_c (w0 rfl) ?_
        refine c_done ?_
        refine n_then ?_
        refine c_ret ?_
        refine ret1 (v := .int .i64 10) rfl rfl rfl ?_
        refine ⟨_, rfl, ?_, (NewB.ext n3)⟩
        (first | rfl | (simp [okV, *]; done) | (simp [okV, *]; omega) | (simp [okV, *] <;> omega))
    · refine s_move (v := .bool false) (vb (ev_t rfl rfl) (decide_eq_false h9)) (wy rfl rfl rfl rfl) ?_
      refine s_skip (wn rfl rfl rfl rfl rfl) ?_
      refine s_skip (wn rfl rfl rfl rfl rfl) ?_
      refine s_skip (wn rfl rfl rfl rfl rfl) ?_
      refine s_pick0 (v := .bool false) (ev_t rfl rfl) ev_c (wy rfl rfl rfl rfl) ?_
      refine s_move (v := .bool false) (ev_t rfl rfl) (wy rfl rfl rfl rfl) ?_
      refine s_skip (wn rfl rfl rfl rfl rfl) ?_
      refine s_skip (wn rfl rfl rfl rfl rfl) ?_
      refine s_skip (wn rfl rfl rfl rfl rfl) ?_
      refine s_skip (wn rfl rfl rfl rfl rfl) ?_
      refine s_pick0 (v := .bool false) (ev_t rfl rfl) ev_c (wy rfl rfl rfl rfl) ?_
      refine s_pick0 (v := .bool false) (ev_t rfl rfl) (ev_t rfl rfl) (w0 rfl) ?_
      refine c_done ?_
      refine n_then ?_
      refine c_cond0 (ev_t rfl rfl) ?_
      refine c_skip ?_
      refine n_then ?_
      refine c_seq ?_
      refine c_reg ?_
      refine s_assign (v := .int .i64 10) ev_c (w0 rfl) ?_
      refine c_done ?_
      refine n_then ?_
      refine c_ret ?_
      refine ret1 (v := .int .i64 10) rfl rfl rfl ?_
      refine ⟨_, rfl, ?_, (NewB.ext n3)⟩
      (first | rfl | (simp [okV, *]; done) | (simp [okV, *]; omega) | (simp [okV, *] <;> omega))
set_option maxHeartbeats 4000000 in
theorem r4_said (b : Bool) (w : World) :
    Rt Tryd.prog 43 #[.bool b] w fun v w' => v = .int .i64 (code b) ∧ Ext w w' := by
  refine enter Tryd.func43 rfl (l := [.bool b]) rfl Tryd.ntmps43 (Nat.le_of_ble_eq_true rfl) ?_
  refine c_seq ?_
  refine c_reg ?_
  refine s_assign (v := .int .i64 0) ev_c (w0 rfl) ?_
  refine c_done ?_
  refine n_then ?_
  refine c_seq ?_
  refine c_seq ?_
  refine c_reg ?_
  refine s_move (v := .bool b) (ev_t rfl rfl) (w0 rfl) ?_
  refine c_done ?_
  refine n_then ?_
  rcases Bool.eq_false_or_eq_true b with h1 | h1
  · refine c_cond1 (vb (ev_t rfl rfl) h1) ?_
    refine c_seq ?_
    refine c_reg ?_
    refine s_assign (v := .int .i64 0) ev_c (w0 rfl) ?_
    refine c_done ?_
    refine n_then ?_
    refine c_ret ?_
    refine r_then ?_
    refine ret1 (v := .int .i64 0) rfl rfl rfl ?_
    refine ⟨_, rfl, ?_, (Ext.refl w)⟩
    (first | rfl | (simp [code, *]; done) | (simp [code, *]; omega) | (simp [code, *] <;> omega))
  · refine c_cond0 (vb (ev_t rfl rfl) h1) ?_
    refine c_skip ?_
    refine n_then ?_
    refine c_seq ?_
    refine c_reg ?_
    refine s_assign (v := .int .i64 40) ev_c (w0 rfl) ?_
    refine c_done ?_
    refine n_then ?_
    refine c_ret ?_
    refine ret1 (v := .int .i64 40) rfl rfl rfl ?_
    refine ⟨_, rfl, ?_, (Ext.refl w)⟩
    (first | rfl | (simp [code, *]; done) | (simp [code, *]; omega) | (simp [code, *] <;> omega))
set_option maxHeartbeats 4000000 in
theorem r4_kids (op : Int) (w : World) :
    Rt Tryd.prog 75 #[.int .i8 op] w fun v w' => v = .int .i64 (kidsN op) ∧ Ext w w' := by
  refine enter Tryd.func75 rfl (l := [.int .i8 op]) rfl Tryd.ntmps75 (Nat.le_of_ble_eq_true rfl) ?_
  refine c_seq ?_
  refine c_reg ?_
  refine s_assign (v := .int .i64 0) ev_c (w0 rfl) ?_
  refine c_done ?_
  refine n_then ?_
  refine c_seq ?_
  refine c_block ?_
  refine c_seq ?_
  refine c_reg ?_
  refine s_move (v := .int .i8 op) (ev_t rfl rfl) (w0 rfl) ?_
  refine s_cmp (r := decide (op = 1)) (ev_t rfl rfl) ev_c rfl (w0 rfl) ?_
  by_cases h1 : op = 1
  · refine s_move (v := .bool true) (vb (ev_t rfl rfl) (decide_eq_true h1)) (w0 rfl) ?_
    refine s_skip (wn rfl rfl rfl rfl rfl) ?_
    refine s_skip (wn rfl rfl rfl rfl rfl) ?_
    refine s_skip (wn rfl rfl rfl rfl rfl) ?_
    refine s_skip (wu rfl rfl rfl rfl) ?_
    refine s_skip (wu rfl rfl rfl rfl) ?_
    refine s_skip (wn rfl rfl rfl rfl rfl) ?_
    refine s_pick1 (v := .bool true) (ev_t rfl rfl) ev_c (w0 rfl) ?_
    refine s_assign (v := .bool true) (ev_t rfl rfl) (w0 rfl) ?_
    refine c_done ?_
    refine n_then ?_
    refine c_cond1 (ev_t rfl rfl) ?_
    refine c_seq ?_
    refine c_reg ?_
    refine s_assign (v := .int .i64 1) ev_c (w0 rfl) ?_
    refine c_done ?_
    refine n_then ?_
    refine c_ret ?_
    refine r_block ?_
    refine r_then ?_
    refine ret1 (v := .int .i64 1) rfl rfl rfl ?_
    refine ⟨_, rfl, ?_, (Ext.refl w)⟩
    (first | rfl | (simp [kidsN, *]; done) | (simp [kidsN, *]; omega) | (simp [kidsN, *] <;> omega))
  · refine s_move (v := .bool false) (vb (ev_t rfl rfl) (decide_eq_false h1)) (w0 rfl) ?_
    refine s_move (v := .int .i8 op) (ev_t rfl rfl) (wy rfl rfl rfl rfl) ?_
    refine s_cmp (r := decide (8 ≤ op)) (ev_t rfl rfl) ev_c rfl (wy rfl rfl rfl rfl) ?_
    by_cases h2 : 8 ≤ op
    · refine s_move (v := .bool true) (vb (ev_t rfl rfl) (decide_eq_true h2)) (wy rfl rfl rfl rfl) ?_
      refine s_move (v := .int .i8 op) (ev_t rfl rfl) (wy rfl rfl rfl rfl) ?_
      refine s_cmp (r := decide (op ≤ 10)) (ev_t rfl rfl) ev_c rfl (wy rfl rfl rfl rfl) ?_
      refine s_pick1 (v := .bool (decide (op ≤ 10))) (ev_t rfl rfl) (ev_t rfl rfl) (wy rfl rfl rfl rfl) ?_
      refine s_pick0 (v := .bool (decide (op ≤ 10))) (ev_t rfl rfl) (ev_t rfl rfl) (w0 rfl) ?_
      refine s_assign (v := .bool (decide (op ≤ 10))) (ev_t rfl rfl) (w0 rfl) ?_
      refine c_done ?_
      refine n_then ?_
      by_cases h3 : op ≤ 10
      · refine c_cond1 (vb (ev_t rfl rfl) (decide_eq_true h3)) ?_
        refine c_seq ?_
        refine c_reg ?_
        refine s_assign (v := .int .i64 1) ev_c (w0 rfl) ?_
        refine c_done ?_
        refine n_then ?_
        refine c_ret ?_
        refine r_block ?_
        refine r_then ?_
        refine ret1 (v := .int .i64 1) rfl rfl rfl ?_
        refine ⟨_, rfl, ?_, (Ext.refl w)⟩
        (first | rfl | (simp [kidsN, *]; done) | (simp [kidsN, *]; omega) | (simp [kidsN, *] <;> omega))
      · refine c_cond0 (vb (ev_t rfl rfl) (decide_eq_false h3)) ?_
        refine c_seq ?_
        refine c_reg ?_
        refine s_move (v := .int .i8 op) (ev_t rfl rfl) (w0 rfl) ?_
        refine s_cmp (r := decide (2 ≤ op)) (ev_t rfl rfl) ev_c rfl (w0 rfl) ?_
        by_cases h4 : 2 ≤ op
        · refine s_move (v := .bool true) (vb (ev_t rfl rfl) (decide_eq_true h4)) (w0 rfl) ?_
          refine s_move (v := .int .i8 op) (ev_t rfl rfl) (wy rfl rfl rfl rfl) ?_
          refine s_cmp (r := decide (op ≤ 7)) (ev_t rfl rfl) ev_c rfl (wy rfl rfl rfl rfl) ?_
          refine s_pick1 (v := .bool (decide (op ≤ 7))) (ev_t rfl rfl) (ev_t rfl rfl) (w0 rfl) ?_
          refine s_assign (v := .bool (decide (op ≤ 7))) (ev_t rfl rfl) (w0 rfl) ?_
          refine c_done ?_
          refine n_then ?_
          by_cases h5 : op ≤ 7
          · refine c_cond1 (vb (ev_t rfl rfl) (decide_eq_true h5)) ?_
            refine c_seq ?_
            refine c_reg ?_
            refine s_assign (v := .int .i64 2) ev_c (w0 rfl) ?_
            refine c_done ?_
            refine n_then ?_
            refine c_ret ?_
            refine r_block ?_
            refine r_then ?_
            refine ret1 (v := .int .i64 2) rfl rfl rfl ?_
            refine ⟨_, rfl, ?_, (Ext.refl w)⟩
            (first | rfl | (simp [kidsN, *]; done) | (simp [kidsN, *]; omega) | (simp [kidsN, *] <;> omega))
          · refine c_cond0 (vb (ev_t rfl rfl) (decide_eq_false h5)) ?_
            refine c_skip ?_
            refine n_block ?_
            refine n_then ?_
            refine c_seq ?_
            refine c_reg ?_
            refine s_assign (v := .int .i64 (-1)) ev_c (w0 rfl) ?_
            refine c_done ?_
            refine n_then ?_
            refine c_ret ?_
            refine ret1 (v := .int .i64 (-1)) rfl rfl rfl ?_
            refine ⟨_, rfl, ?_, (Ext.refl w)⟩
            (first | rfl | (simp [kidsN, *]; done) | (simp [kidsN, *]; omega) | (simp [kidsN, *] <;> omega))
        · refine s_move (v := .bool false) (vb (ev_t rfl rfl) (decide_eq_false h4)) (w0 rfl) ?_
          refine s_skip (wn rfl rfl rfl rfl rfl) ?_
          refine s_skip (wn rfl rfl rfl rfl rfl) ?_
          refine s_pick0 (v := .bool false) (ev_t rfl rfl) ev_c (w0 rfl) ?_
          refine s_assign (v := .bool false) (ev_t rfl rfl) (w0 rfl) ?_
          refine c_done ?_
          refine n_then ?_
          refine c_cond0 (ev_t rfl rfl) ?_
          refine c_skip ?_
          refine n_block ?_
          refine n_then ?_
          refine c_seq ?_
          refine c_reg ?_
          refine s_assign (v := .int .i64 (-1)) ev_c (w0 rfl) ?_
          refine c_done ?_
          refine n_then ?_
          refine c_ret ?_
          refine ret1 (v := .int .i64 (-1)) rfl rfl rfl ?_
          refine ⟨_, rfl, ?_, (Ext.refl w)⟩
          (first | rfl | (simp [kidsN, *]; done) | (simp [kidsN, *]; omega) | (simp [kidsN, *] <;> omega))
    · refine s_move (v := .bool false) (vb (ev_t rfl rfl) (decide_eq_false h2)) (wy rfl rfl rfl rfl) ?_
      refine s_skip (wn rfl rfl rfl rfl rfl) ?_
      refine s_skip (wn rfl rfl rfl rfl rfl) ?_
      refine s_pick0 (v := .bool false) (ev_t rfl rfl) ev_c (wy rfl rfl rfl rfl) ?_
      refine s_pick0 (v := .bool false) (ev_t rfl rfl) (ev_t rfl rfl) (w0 rfl) ?_
      refine s_assign (v := .bool false) (ev_t rfl rfl) (w0 rfl) ?_
      refine c_done ?_
      refine n_then ?_
      refine c_cond0 (ev_t rfl rfl) ?_
      refine c_seq ?_
      refine c_reg ?_
      refine s_move (v := .int .i8 op) (ev_t rfl rfl) (w0 rfl) ?_
      refine s_cmp (r := decide (2 ≤ op)) (ev_t rfl rfl) ev_c rfl (w0 rfl) ?_
      by_cases h6 : 2 ≤ op
      · refine s_move (v := .bool true) (vb (ev_t rfl rfl) (decide_eq_true h6)) (w0 rfl) ?_
        refine s_move (v := .int .i8 op) (ev_t rfl rfl) (wy rfl rfl rfl rfl) ?_
        refine s_cmp (r := decide (op ≤ 7)) (ev_t rfl rfl) ev_c rfl (wy rfl rfl rfl rfl) ?_
        refine s_pick1 (v := .bool (decide (op ≤ 7))) (ev_t rfl rfl) (ev_t rfl rfl) (w0 rfl) ?_
        refine s_assign (v := .bool (decide (op ≤ 7))) (ev_t rfl rfl) (w0 rfl) ?_
        refine c_done ?_
        refine n_then ?_
        by_cases h7 : op ≤ 7
        · refine c_cond1 (vb (ev_t rfl rfl) (decide_eq_true h7)) ?_
          refine c_seq ?_
          refine c_reg ?_
          refine s_assign (v := .int .i64 2) ev_c (w0 rfl) ?_
          refine c_done ?_
          refine n_then ?_
          refine c_ret ?_
          refine r_block ?_
          refine r_then ?_
          refine ret1 (v := .int .i64 2) rfl rfl rfl ?_
          refine ⟨_, rfl, ?_, (Ext.refl w)⟩
          (first | rfl | (simp [kidsN, *]; done) | (simp [kidsN, *]; omega) | (simp [kidsN, *] <;> omega))
        · refine c_cond0 (vb (ev_t rfl rfl) (decide_eq_false h7)) ?_
          refine c_skip ?_
          refine n_block ?_
          refine n_then ?_
          refine c_seq ?_
          refine c_reg ?_
          refine s_assign (v := .int .i64 (-1)) ev_c (w0 rfl) ?_
          refine c_done ?_
          refine n_then ?_
          refine c_ret ?_
          refine ret1 (v := .int .i64 (-1)) rfl rfl rfl ?_
          refine ⟨_, rfl, ?_, (Ext.refl w)⟩
          (first | rfl | (simp [kidsN, *]; done) | (simp [kidsN, *]; omega) | (simp [kidsN, *] <;> omega))
      · refine s_move (v := .bool false) (vb (ev_t rfl rfl) (decide_eq_false h6)) (w0 rfl) ?_
        refine s_skip (wn rfl rfl rfl rfl rfl) ?_
        refine s_skip (wn rfl rfl rfl rfl rfl) ?_
        refine s_pick0 (v := .bool false) (ev_t rfl rfl) ev_c (w0 rfl) ?_
        refine s_assign (v := .bool false) (ev_t rfl rfl) (w0 rfl) ?_
        refine c_done ?_
        refine n_then ?_
        refine c_cond0 (ev_t rfl rfl) ?_
        refine c_skip ?_
        refine n_block ?_
        refine n_then ?_
        refine c_seq ?_
        refine c_reg ?_
        refine s_assign (v := .int .i64 (-1)) ev_c (w0 rfl) ?_
        refine c_done ?_
        refine n_then ?_
        refine c_ret ?_
        refine ret1 (v := .int .i64 (-1)) rfl rfl rfl ?_
        refine ⟨_, rfl, ?_, (Ext.refl w)⟩
        (first | rfl | (simp [kidsN, *]; done) | (simp [kidsN, *]; omega) | (simp [kidsN, *] <;> omega))
set_option maxHeartbeats 4000000 in
theorem r4_term (x : Tm) (w : World) (hx : x.wf) :
    Rt Tryd.prog 74 #[.agg #[.string x.v, .int .i8 x.l.k, .int .i64 x.l.n, .string x.l.s]] w fun v w' => v = .bool (tmB x) ∧ Ext w w' := by
  refine enter Tryd.func74 rfl (l := [.agg #[.string x.v, .int .i8 x.l.k, .int .i64 x.l.n, .string x.l.s]]) rfl Tryd.ntmps74 (Nat.le_of_ble_eq_true rfl) ?_
  refine c_seq ?_
  refine c_reg ?_
  refine s_box (v := .agg #[.string x.v, .int .i8 x.l.k, .int .i64 x.l.n, .string x.l.s]) (cs := #[.string x.v, .int .i8 x.l.k, .int .i64 x.l.n, .string x.l.s]) (w0 rfl) (ev_t rfl rfl) rfl ?_
  intro w2 g1 n3
  refine s_assign (v := .bool false) ev_c (w0 rfl) ?_
  refine c_done ?_
  refine n_then ?_
  refine c_seq ?_
  refine c_reg ?_
  refine s_build (v := .agg #[.int .i8 0, .int .i64 0, .string (⟨#[]⟩ : ByteArray)]) (vs := []) b0 (bd26) (w0 rfl) ?_
  refine s_alloc (cs := #[.int .i8 0, .int .i64 0, .string (⟨#[]⟩ : ByteArray)]) (w0 rfl) F_z26 rfl ?_
  intro w5 g4 n6
  refine s_store (cs' := #[.int .i8 0, .int .i64 0, .string (⟨#[]⟩ : ByteArray)]) F_sz26 (ev_t rfl rfl) (ev_t rfl rfl) (l := [.int .i8 0, .int .i64 0, .string (⟨#[]⟩ : ByteArray)]) rfl rfl rfl (NewB.blk n6) (Nat.le_of_ble_eq_true rfl) rfl (w0 rfl) ?_
  intro w7 k8
  refine c_done ?_
  refine n_then ?_
  refine c_seq ?_
  refine c_seq ?_
  refine c_reg ?_
  refine s_field (off := 0) (o' := 0) F_f28_0 (ev_t rfl rfl) rfl (w0 rfl) ?_
  refine s_load (v := .string x.v) F_o9 (ev_t rfl rfl) (cell_of_blk (i := 0) (Ext.blk (Keep.then_ (NewB.ext n6) (Wrote.keep k8) (fun i_ hi_ h_ => by have a_ := NewB.eq n6; have b_ := Keep.size (Ext.refl w2); omega)) (NewB.blk n3)) rfl) (w0 rfl) ?_
  refine c_done ?_
  refine n_then ?_
  refine c_block ?_
  refine c_seq ?_
  refine c_reg ?_
  refine s_cmpS (r := decide (x.v = (⟨#[]⟩ : ByteArray))) (ev_t rfl rfl) ev_c rfl (w0 rfl) ?_
  refine s_assign (v := .bool (decide (x.v = (⟨#[]⟩ : ByteArray)))) (ev_t rfl rfl) (w0 rfl) ?_
  refine c_done ?_
  refine n_then ?_
  by_cases h9 : x.v = (⟨#[]⟩ : ByteArray)
  · refine c_cond1 (vb (ev_t rfl rfl) (decide_eq_true h9)) ?_
    refine c_seq ?_
    refine c_reg ?_
    refine s_field (off := 1) (o' := 1) F_f28_1 (ev_t rfl rfl) rfl (w0 rfl) ?_
    refine s_loadL (cs := [.int .i8 x.l.k, .int .i64 x.l.n, .string x.l.s]) (ca := #[.int .i8 x.l.k, .int .i64 x.l.n, .string x.l.s]) F_m26 (ev_t rfl rfl) rfl rfl (blk_cells (Ext.blk (Keep.then_ (NewB.ext n6) (Wrote.keep k8) (fun i_ hi_ h_ => by have a_ := NewB.eq n6; have b_ := Keep.size (Ext.refl w2); omega)) (NewB.blk n3)) 1 (cs := [.int .i8 x.l.k, .int .i64 x.l.n, .string x.l.s]) rfl) (w0 rfl) ?_
    refine s_call F_e102 (w0 rfl) ev_f (m1 (ev_t rfl rfl)) (args := #[.agg #[.int .i8 x.l.k, .int .i64 x.l.n, .string x.l.s]]) rfl (r1_Check x.l _) ?_
    rintro _ w11 ⟨rfl, x10⟩
    refine s_cmp (r := okV x.l) (ev_t rfl rfl) ev_c (ci_t (b := (okV x.l)) (by decide)) (w0 rfl) ?_
    refine s_assign (v := .bool (okV x.l)) (ev_t rfl rfl) (w0 rfl) ?_
    refine c_done ?_
    refine n_then ?_
    refine c_ret ?_
    refine r_block ?_
    refine r_then ?_
    refine ret1 (v := .bool (okV x.l)) rfl rfl rfl ?_
    refine ⟨_, rfl, ?_, (Ext.trans (Keep.then_ (Ext.trans (NewB.ext n3) (NewB.ext n6)) (Wrote.keep k8) (fun i_ hi_ h_ => by have a_ := NewB.eq n6; have b_ := Keep.size (NewB.ext n3); omega)) x10)⟩
    (first | rfl | (simp [tmB, zV, okV, *]; done) | (simp [tmB, zV, okV, *]; omega) | (simp [tmB, zV, okV, *] <;> omega))
  · refine c_cond0 (vb (ev_t rfl rfl) (decide_eq_false h9)) ?_
    refine c_seq ?_
    refine c_reg ?_
    refine s_cmpS (r := decide (x.v = (⟨#[95]⟩ : ByteArray))) (ev_t rfl rfl) ev_c rfl (w0 rfl) ?_
    refine s_assign (v := .bool (decide (x.v = (⟨#[95]⟩ : ByteArray)))) (ev_t rfl rfl) (w0 rfl) ?_
    refine c_done ?_
    refine n_then ?_
    by_cases h12 : x.v = (⟨#[95]⟩ : ByteArray)
    · refine c_cond1 (vb (ev_t rfl rfl) (decide_eq_true h12)) ?_
      refine c_seq ?_
      refine c_reg ?_
      refine s_field (off := 1) (o' := 1) F_f28_1 (ev_t rfl rfl) rfl (w0 rfl) ?_
      refine s_loadL (cs := [.int .i8 x.l.k, .int .i64 x.l.n, .string x.l.s]) (ca := #[.int .i8 x.l.k, .int .i64 x.l.n, .string x.l.s]) F_m26 (ev_t rfl rfl) rfl rfl (blk_cells (Ext.blk (Keep.then_ (NewB.ext n6) (Wrote.keep k8) (fun i_ hi_ h_ => by have a_ := NewB.eq n6; have b_ := Keep.size (Ext.refl w2); omega)) (NewB.blk n3)) 1 (cs := [.int .i8 x.l.k, .int .i64 x.l.n, .string x.l.s]) rfl) (w0 rfl) ?_
      refine s_loadL (cs := [.int .i8 0, .int .i64 0, .string (⟨#[]⟩ : ByteArray)]) (ca := #[.int .i8 0, .int .i64 0, .string (⟨#[]⟩ : ByteArray)]) F_m26 (ev_t rfl rfl) rfl rfl (blk_cells (Wrote.blk k8) 0 (cs := [.int .i8 0, .int .i64 0, .string (⟨#[]⟩ : ByteArray)]) rfl) (w0 rfl) ?_
      refine s_cmpG (r := zV x.l) (ev_t rfl rfl) (ev_t rfl rfl) ((fun w_ => eqzV26eql x.l _ _ w_)) (w0 rfl) ?_
      refine s_assign (v := .bool (zV x.l)) (ev_t rfl rfl) (w0 rfl) ?_
      refine c_done ?_
      refine n_then ?_
      refine c_ret ?_
      refine r_block ?_
      refine r_then ?_
      refine ret1 (v := .bool (zV x.l)) rfl rfl rfl ?_
      refine ⟨_, rfl, ?_, (Keep.then_ (Ext.trans (NewB.ext n3) (NewB.ext n6)) (Wrote.keep k8) (fun i_ hi_ h_ => by have a_ := NewB.eq n6; have b_ := Keep.size (NewB.ext n3); omega))⟩
      (first | rfl | (simp [tmB, zV, okV, *]; done) | (simp [tmB, zV, okV, *]; omega) | (simp [tmB, zV, okV, *] <;> omega))
    · refine c_cond0 (vb (ev_t rfl rfl) (decide_eq_false h12)) ?_
      refine c_skip ?_
      refine n_block ?_
      refine n_then ?_
      refine c_seq ?_
      refine c_reg ?_
      refine s_field (off := 0) (o' := 0) F_f28_0 (ev_t rfl rfl) rfl (w0 rfl) ?_
      refine s_load (v := .string x.v) F_o9 (ev_t rfl rfl) (cell_of_blk (i := 0) (Ext.blk (Keep.then_ (NewB.ext n6) (Wrote.keep k8) (fun i_ hi_ h_ => by have a_ := NewB.eq n6; have b_ := Keep.size (Ext.refl w2); omega)) (NewB.blk n3)) rfl) (w0 rfl) ?_
      refine s_call F_e103 (w0 rfl) ev_f (m1 (ev_t rfl rfl)) (args := #[.string x.v]) rfl (r1_Variable x.v _ (Tm.wf.v hx)) ?_
      rintro _ w14 ⟨rfl, x13⟩
      rcases Bool.eq_false_or_eq_true (varB x.v) with h15 | h15
      · refine s_move (v := .bool true) (vb (ev_t rfl rfl) h15) (w0 rfl) ?_
        refine s_field (off := 1) (o' := 1) F_f28_1 (ev_t rfl rfl) rfl (wy rfl rfl rfl rfl) ?_
        refine s_loadL (cs := [.int .i8 x.l.k, .int .i64 x.l.n, .string x.l.s]) (ca := #[.int .i8 x.l.k, .int .i64 x.l.n, .string x.l.s]) F_m26 (ev_t rfl rfl) rfl rfl (blk_cells (Ext.blk (Ext.trans (Keep.then_ (NewB.ext n6) (Wrote.keep k8) (fun i_ hi_ h_ => by have a_ := NewB.eq n6; have b_ := Keep.size (Ext.refl w2); omega)) x13) (NewB.blk n3)) 1 (cs := [.int .i8 x.l.k, .int .i64 x.l.n, .string x.l.s]) rfl) (wy rfl rfl rfl rfl) ?_
        refine s_loadL (cs := [.int .i8 0, .int .i64 0, .string (⟨#[]⟩ : ByteArray)]) (ca := #[.int .i8 0, .int .i64 0, .string (⟨#[]⟩ : ByteArray)]) F_m26 (ev_t rfl rfl) rfl rfl (blk_cells (Ext.blk x13 (Wrote.blk k8)) 0 (cs := [.int .i8 0, .int .i64 0, .string (⟨#[]⟩ : ByteArray)]) rfl) (wy rfl rfl rfl rfl) ?_
        refine s_cmpG (r := zV x.l) (ev_t rfl rfl) (ev_t rfl rfl) ((fun w_ => eqzV26eql x.l _ _ w_)) (wy rfl rfl rfl rfl) ?_
        refine s_pick1 (v := .bool (zV x.l)) (ev_t rfl rfl) (ev_t rfl rfl) (w0 rfl) ?_
        refine s_assign (v := .bool (zV x.l)) (ev_t rfl rfl) (w0 rfl) ?_
        refine c_done ?_
        refine n_then ?_
        refine c_ret ?_
        refine ret1 (v := .bool (zV x.l)) rfl rfl rfl ?_
        refine ⟨_, rfl, ?_, (Ext.trans (Keep.then_ (Ext.trans (NewB.ext n3) (NewB.ext n6)) (Wrote.keep k8) (fun i_ hi_ h_ => by have a_ := NewB.eq n6; have b_ := Keep.size (NewB.ext n3); omega)) x13)⟩
        (first | rfl | (simp [tmB, zV, okV, *]; done) | (simp [tmB, zV, okV, *]; omega) | (simp [tmB, zV, okV, *] <;> omega))
      · refine s_move (v := .bool false) (vb (ev_t rfl rfl) h15) (w0 rfl) ?_
        refine s_skip (wn rfl rfl rfl rfl rfl) ?_
        refine s_skip (wn rfl rfl rfl rfl rfl) ?_
        refine s_skip (wn rfl rfl rfl rfl rfl) ?_
        refine s_skip (wn rfl rfl rfl rfl rfl) ?_
        refine s_pick0 (v := .bool false) (ev_t rfl rfl) ev_c (w0 rfl) ?_
        refine s_assign (v := .bool false) (ev_t rfl rfl) (w0 rfl) ?_
        refine c_done ?_
        refine n_then ?_
        refine c_ret ?_
        refine ret1 (v := .bool false) rfl rfl rfl ?_
        refine ⟨_, rfl, ?_, (Ext.trans (Keep.then_ (Ext.trans (NewB.ext n3) (NewB.ext n6)) (Wrote.keep k8) (fun i_ hi_ h_ => by have a_ := NewB.eq n6; have b_ := Keep.size (NewB.ext n3); omega)) x13)⟩
        (first | rfl | (simp [tmB, zV, okV, *]; done) | (simp [tmB, zV, okV, *]; omega) | (simp [tmB, zV, okV, *] <;> omega))
set_option maxHeartbeats 4000000 in
theorem r1_digits (u : Nat) (w : World) (hu : u ≤ 18446744073709551615) :
    Rt Tryd.prog 118 #[.int .u64 ((u : Nat) : Int)] w fun v w' => v = .string (digB u) ∧ Ext w w' := by
  refine enter Tryd.func118 rfl (l := [.int .u64 ((u : Nat) : Int)]) rfl Tryd.ntmps118 (Nat.le_of_ble_eq_true rfl) ?_
  refine c_seq ?_
  refine c_reg ?_
  refine s_assign (v := .string (⟨#[]⟩ : ByteArray)) ev_c (w0 rfl) ?_
  refine c_done ?_
  refine n_then ?_
  refine c_seq ?_
  refine c_reg ?_
  refine s_assign (v := .string (⟨#[]⟩ : ByteArray)) ev_c (w0 rfl) ?_
  refine c_done ?_
  refine n_then ?_
  refine c_seq ?_
  refine c_block ?_
  refine c_loop (α := Nat × List UInt8) (fun x_ env_ w_ => match x_ with | (m, acc) => Ext w w_ ∧ m ≤ 18446744073709551615 ∧ decDigits u = decDigits m ++ acc ∧ env_ 0 = .int .u64 ((m : Nat) : Int) ∧ env_ 2 = .string (⟨#[]⟩ : ByteArray) ∧ env_ 3 = .string (strL acc)) (fun x_ => match x_ with | (m, acc) => m) (u, []) ⟨Ext.refl _, hu, (by simp), rfl, rfl, rfl⟩ ?_
  rintro ⟨m, acc⟩ env3 w1 ⟨x2, i4, i5, e6, e7, e8⟩
  have hl_ := decDigits_20 hu
  have hl2_ : acc.length ≤ 20 := by rw [i5] at hl_; simp at hl_; omega
  have hl3_ : (strL acc).size = acc.length := by simp [strL, ByteArray.size]
  refine c_seq ?_
  refine c_seq ?_
  refine c_reg ?_
  refine s_move (v := .int .u64 ((m : Nat) : Int)) (ev_t rfl e6) (w0 rfl) ?_
  refine s_cmp (r := decide (10 ≤ ((m : Nat) : Int))) (ev_t rfl rfl) ev_c rfl (w0 rfl) ?_
  refine c_done ?_
  refine n_then ?_
  by_cases h9 : 10 ≤ ((m : Nat) : Int)
  · refine c_cond1 (vb (ev_t rfl rfl) (decide_eq_true h9)) ?_
    refine c_skip ?_
    refine n_then ?_
    refine c_block ?_
    refine c_seq ?_
    refine c_reg ?_
    refine s_move (v := .int .u64 ((m : Nat) : Int)) (ev_t rfl e6) (w0 rfl) ?_
    refine s_rem (r := ((m % 10 : Nat) : Int)) (ev_t rfl rfl) ev_c (by decide) (rem_nat m 10 (K := 10) rfl) (w0 rfl) ?_
    refine s_ar (r := ((48 + m % 10 : Nat) : Int)) ev_c (ev_t rfl rfl) (ar_add (conv_u64 (by omega)) (by omega)) (w0 rfl) ?_
    refine s_conv (r := ((48 + m % 10 : Nat) : Int)) F_cv165_5 (ev_t rfl rfl) (conv_u8 (by omega)) (w0 rfl) ?_
    refine s_bslice (vs := [(0, .int .u8 ((48 + m % 10 : Nat) : Int))]) (cs := #[.int .u8 ((48 + m % 10 : Nat) : Int)]) (b1 (ev_t rfl rfl)) (bs81_1_0iu8 ((48 + m % 10 : Nat) : Int)) (w0 rfl) ?_
    intro w11 g10 n12
    refine s_bstr (l := [(UInt8.ofNat (48 + m % 10))]) F_ul81 F_ui5 F_us9 (ev_t rfl rfl) rfl (bstr_blk (l := [(UInt8.ofNat (48 + m % 10))]) (NewB.blk n12) (bc1 (u8_ofNat (by omega)))).1 (bstr_blk (l := [(UInt8.ofNat (48 + m % 10))]) (NewB.blk n12) (bc1 (u8_ofNat (by omega)))).2 (w0 rfl) ?_
    refine s_move (v := .string (strL acc)) (ev_t rfl e8) (w0 rfl) ?_
    refine s_cat (ev_t rfl rfl) (ev_t rfl rfl) (by have e_ : (⟨([UInt8.ofNat (48 + m % 10)] : List UInt8).toArray⟩ : ByteArray).size = 1 := rfl; have e2_ : (⟨([UInt8.ofNat (48 + m)] : List UInt8).toArray⟩ : ByteArray).size = 1 := rfl; omega) (w0 rfl) ?_
    refine s_assign (v := .string ((⟨([(UInt8.ofNat (48 + m % 10))] : List UInt8).toArray⟩ : ByteArray) ++ (strL acc))) (ev_t rfl rfl) (w0 rfl) ?_
    refine c_done ?_
    refine n_then ?_
    refine c_reg ?_
    refine s_move (v := .int .u64 ((m : Nat) : Int)) (ev_t rfl e6) (w0 rfl) ?_
    refine s_quo (r := ((m / 10 : Nat) : Int)) (ev_t rfl rfl) ev_c (by decide) (quo_u64 m 10 (K := 10) rfl (by decide) (by omega)) (w0 rfl) ?_
    refine s_assign (v := .int .u64 ((m / 10 : Nat) : Int)) (ev_t rfl rfl) (w0 rfl) ?_
    refine c_done ?_
    refine n_block ?_
    exact ⟨(m / 10, [UInt8.ofNat (48 + m % 10)] ++ acc), _, rfl, ⟨(Ext.trans x2 (NewB.ext n12)), by omega, dig_step i5 (by omega), rfl, e7, (congrArg Value.string (cat_bytes _ _))⟩, (show (m / 10) < m by omega)⟩
  · refine c_cond0 (vb (ev_t rfl rfl) (decide_eq_false h9)) ?_
    refine c_exit ?_
    refine e_then ?_
    refine e_then ?_
    refine e_hit ?_
    refine n_then ?_
    refine c_seq ?_
    refine c_reg ?_
    refine s_move (v := .int .u64 ((m : Nat) : Int)) (ev_t rfl e6) (w0 rfl) ?_
    refine s_ar (r := ((48 + m : Nat) : Int)) ev_c (ev_t rfl rfl) (ar_add (conv_u64 (by omega)) (by omega)) (w0 rfl) ?_
    refine s_conv (r := ((48 + m : Nat) : Int)) F_cv165_5 (ev_t rfl rfl) (conv_u8 (by omega)) (w0 rfl) ?_
    refine s_bslice (vs := [(0, .int .u8 ((48 + m : Nat) : Int))]) (cs := #[.int .u8 ((48 + m : Nat) : Int)]) (b1 (ev_t rfl rfl)) (bs81_1_0iu8 ((48 + m : Nat) : Int)) (w0 rfl) ?_
    intro w14 g13 n15
    refine s_bstr (l := [(UInt8.ofNat (48 + m))]) F_ul81 F_ui5 F_us9 (ev_t rfl rfl) rfl (bstr_blk (l := [(UInt8.ofNat (48 + m))]) (NewB.blk n15) (bc1 (u8_ofNat (by omega)))).1 (bstr_blk (l := [(UInt8.ofNat (48 + m))]) (NewB.blk n15) (bc1 (u8_ofNat (by omega)))).2 (w0 rfl) ?_
    refine s_move (v := .string (strL acc)) (ev_t rfl e8) (w0 rfl) ?_
    refine s_cat (ev_t rfl rfl) (ev_t rfl rfl) (by have e_ : (⟨([UInt8.ofNat (48 + m % 10)] : List UInt8).toArray⟩ : ByteArray).size = 1 := rfl; have e2_ : (⟨([UInt8.ofNat (48 + m)] : List UInt8).toArray⟩ : ByteArray).size = 1 := rfl; omega) (w0 rfl) ?_
    refine s_assign (v := .string ((⟨([(UInt8.ofNat (48 + m))] : List UInt8).toArray⟩ : ByteArray) ++ (strL acc))) (ev_t rfl rfl) (w0 rfl) ?_
    refine c_done ?_
    refine n_then ?_
    refine c_ret ?_
    refine ret1 (v := .string ((⟨([(UInt8.ofNat (48 + m))] : List UInt8).toArray⟩ : ByteArray) ++ (strL acc))) rfl rfl rfl ?_
    refine ⟨_, rfl, ?_, (Ext.trans x2 (NewB.ext n15))⟩
    (rw [digB, dig_end i5 (by omega)]; exact congrArg Value.string (cat_bytes _ _))
set_option maxHeartbeats 4000000 in
theorem r1_Digits (n : Int) (w : World) (hn : -9223372036854775808 ≤ n ∧ n ≤ 9223372036854775807) :
    Rt Tryd.prog 104 #[.int .i64 n] w fun v w' => v = .string (itoaB n) ∧ Ext w w' := by
  refine enter Tryd.func104 rfl (l := [.int .i64 n]) rfl Tryd.ntmps104 (Nat.le_of_ble_eq_true rfl) ?_
  refine c_seq ?_
  refine c_reg ?_
  refine s_assign (v := .string (⟨#[]⟩ : ByteArray)) ev_c (w0 rfl) ?_
  refine c_done ?_
  refine n_then ?_
  refine c_seq ?_
  refine c_seq ?_
  refine c_reg ?_
  refine s_move (v := .int .i64 n) (ev_t rfl rfl) (w0 rfl) ?_
  refine s_cmp (r := decide (n < 0)) (ev_t rfl rfl) ev_c rfl (w0 rfl) ?_
  refine c_done ?_
  refine n_then ?_
  by_cases h1 : n < 0
  · refine c_cond1 (vb (ev_t rfl rfl) (decide_eq_true h1)) ?_
    refine c_seq ?_
    refine c_reg ?_
    refine s_move (v := .int .i64 n) (ev_t rfl rfl) (w0 rfl) ?_
    refine s_conv (r := (IntKind.u64.wrap n)) F_cv2_165 (ev_t rfl rfl) rfl (w0 rfl) ?_
    refine s_neg (r := ((n.natAbs : Nat) : Int)) (ev_t rfl rfl) (wrap_neg (by omega) hn.1) (w0 rfl) ?_
    refine s_call F_e118 (w0 rfl) ev_f (m1 (ev_t rfl rfl)) (args := #[.int .u64 ((n.natAbs : Nat) : Int)]) rfl (r1_digits n.natAbs _ (by omega)) ?_
    rintro _ w3 ⟨rfl, x2⟩
    refine s_cat ev_c (ev_t rfl rfl) (by have := digB_size (u := n.natAbs) (by omega); have e_ : (⟨#[45]⟩ : ByteArray).size = 1 := rfl; omega) (w0 rfl) ?_
    refine s_assign (v := .string ((⟨#[45]⟩ : ByteArray) ++ (digB n.natAbs))) (ev_t rfl rfl) (w0 rfl) ?_
    refine c_done ?_
    refine n_then ?_
    refine c_ret ?_
    refine r_then ?_
    refine ret1 (v := .string ((⟨#[45]⟩ : ByteArray) ++ (digB n.natAbs))) rfl rfl rfl ?_
    refine ⟨_, rfl, ?_, x2⟩
    (exact congrArg Value.string (itoaB_neg (by omega) hn.1).symm)
  · refine c_cond0 (vb (ev_t rfl rfl) (decide_eq_false h1)) ?_
    refine c_skip ?_
    refine n_then ?_
    refine c_seq ?_
    refine c_reg ?_
    refine s_move (v := .int .i64 n) (ev_t rfl rfl) (w0 rfl) ?_
    refine s_conv (r := ((n.toNat : Nat) : Int)) F_cv2_165 (ev_t rfl rfl) (wrap_pos (by omega) hn.2) (w0 rfl) ?_
    refine s_call F_e118 (w0 rfl) ev_f (m1 (ev_t rfl rfl)) (args := #[.int .u64 ((n.toNat : Nat) : Int)]) rfl (r1_digits n.toNat _ (by omega)) ?_
    rintro _ w5 ⟨rfl, x4⟩
    refine s_assign (v := .string (digB n.toNat)) (ev_t rfl rfl) (w0 rfl) ?_
    refine c_done ?_
    refine n_then ?_
    refine c_ret ?_
    refine ret1 (v := .string (digB n.toNat)) rfl rfl rfl ?_
    refine ⟨_, rfl, ?_, x4⟩
    (exact congrArg Value.string (itoaB_pos (by omega)).symm)
set_option maxHeartbeats 4000000 in
theorem r1_Quoted (s : ByteArray) (w : World) (hs : s.size ≤ 1000000) :
    Rt Tryd.prog 106 #[.string s] w fun v w' => v = .string (quotB s) ∧ Ext w w' := by
  refine enter Tryd.func106 rfl (l := [.string s]) rfl Tryd.ntmps106 (Nat.le_of_ble_eq_true rfl) ?_
  refine c_seq ?_
  refine c_reg ?_
  refine s_assign (v := .string (⟨#[]⟩ : ByteArray)) ev_c (w0 rfl) ?_
  refine c_done ?_
  refine n_then ?_
  refine c_seq ?_
  refine c_reg ?_
  refine s_assign (v := .string (⟨#[48, 49, 50, 51, 52, 53, 54, 55, 56, 57, 97, 98, 99, 100, 101, 102]⟩ : ByteArray)) ev_c (w0 rfl) ?_
  refine c_done ?_
  refine n_then ?_
  refine c_seq ?_
  refine c_reg ?_
  refine s_bslice (vs := [(0, .int .u8 34)]) (cs := #[.int .u8 34]) (b1 ev_c) (bs81_1_0iu8 34) (w0 rfl) ?_
  intro w2 g1 n3
  refine s_assign (v := .slice (some ⟨g1, 0, none⟩) 1 1) (ev_t rfl rfl) (w0 rfl) ?_
  refine c_done ?_
  refine n_then ?_
  refine c_seq ?_
  refine c_seq ?_
  refine c_reg ?_
  refine s_assign (v := .int .i64 0) ev_c (w0 rfl) ?_
  refine c_done ?_
  refine n_then ?_
  refine c_block ?_
  refine c_loop (α := Nat × Option Addr × Nat) (fun x_ env_ w_ => match x_ with | (i, A, c) => Ext w w_ ∧ i ≤ s.size ∧ w_.ownsRow w.heap.size 5 1 (.slice A (quotL s i).length c) (quotL s i).length (byteCells (quotL s i)) ∧ env_ 0 = .string s ∧ env_ 2 = .string (⟨#[]⟩ : ByteArray) ∧ env_ 3 = .string (⟨#[48, 49, 50, 51, 52, 53, 54, 55, 56, 57, 97, 98, 99, 100, 101, 102]⟩ : ByteArray) ∧ env_ 4 = .slice A ((quotL s i).length) c ∧ env_ 5 = .int .i64 ((i : Nat) : Int)) (fun x_ => match x_ with | (i, A, c) => s.size - i) (0, (some ⟨g1, 0, none⟩), 1) ⟨(NewB.ext n3), Nat.zero_le _, (own_len (cs := byteCells [34]) (cs2 := byteCells (quotL s 0)) (own_bytes (cs2 := byteCells [34]) (own_new (base := w.heap.size) (m := 1) (len := 1) n3 (Keep.size (Ext.refl w)) rfl (by decide)) (show byteCells [34] = [.int .u8 34] from bc1 rfl).symm) rfl rfl), rfl, rfl, rfl, rfl, rfl⟩ ?_
  rintro ⟨i, A, c⟩ env6 w4 ⟨x5, i7, i8, e9, e10, e11, e12, e13⟩
  have hq_ := quotL_le s i
  have hb_ := byteAt_lt s i
  refine c_seq ?_
  refine c_seq ?_
  refine c_reg ?_
  refine s_move (v := .int .i64 ((i : Nat) : Int)) (ev_t rfl e13) (w0 rfl) ?_
  refine s_move (v := .string s) (ev_t rfl e9) (w0 rfl) ?_
  refine s_lenS F_us9 (ev_t rfl rfl) (w0 rfl) ?_
  refine s_cmp (r := decide (((i : Nat) : Int) < (s.size : Int))) (ev_t rfl rfl) (ev_t rfl rfl) rfl (w0 rfl) ?_
  refine c_done ?_
  refine n_then ?_
  by_cases h14 : ((i : Nat) : Int) < (s.size : Int)
  · refine c_cond1 (vb (ev_t rfl rfl) (decide_eq_true h14)) ?_
    refine c_skip ?_
    refine n_then ?_
    refine c_seq ?_
    refine c_block ?_
    refine c_seq ?_
    refine c_reg ?_
    refine s_move (v := .string s) (ev_t rfl e9) (w0 rfl) ?_
    refine s_move (v := .int .i64 ((i : Nat) : Int)) (ev_t rfl e13) (w0 rfl) ?_
    refine s_byte (j := i) F_us9 (ev_t rfl rfl) (ev_t rfl rfl) rfl (by omega) (w0 rfl) ?_
    refine s_assign (v := .int .u8 (byteAt s i : Int)) (ev_t rfl rfl) (w0 rfl) ?_
    refine c_done ?_
    refine n_then ?_
    refine c_block ?_
    refine c_seq ?_
    refine c_reg ?_
    refine s_move (v := .int .u8 (byteAt s i : Int)) (ev_t rfl rfl) (w0 rfl) ?_
    refine s_cmp (r := decide ((byteAt s i : Int) = 10)) (ev_t rfl rfl) ev_c rfl (w0 rfl) ?_
    refine s_assign (v := .bool (decide ((byteAt s i : Int) = 10))) (ev_t rfl rfl) (w0 rfl) ?_
    refine c_done ?_
    refine n_then ?_
    by_cases h15 : (byteAt s i : Int) = 10
    · refine c_cond1 (vb (ev_t rfl rfl) (decide_eq_true h15)) ?_
      refine c_reg ?_
      refine s_move (v := .slice A ((quotL s i).length) c) (ev_t rfl e12) (w0 rfl) ?_
      refine s_bslice (vs := [(0, .int .u8 92), (1, .int .u8 110)]) (cs := #[.int .u8 92, .int .u8 110]) (b2 ev_c ev_c) (bs81_2_0iu8_1iu8 92 110) (w0 rfl) ?_
      intro w17 g16 n18
      refine s_append (m := 1) (k := 2) (news := [.int .u8 92, .int .u8 110]) F_ul81 F_if5 rfl (by decide) (ev_t rfl rfl) (own_ext (NewB.ext n18) i8) (ev_t rfl rfl) rfl (by have z_ := blk_cells (NewB.blk n18) 0 (cs := [.int .u8 92, .int .u8 110]) rfl; exact z_) rfl (by omega) (by omega) (Keep.size (Ext.trans x5 (NewB.ext n18))) (w0 rfl) ?_
      intro A21 c22 w19 ow23 k20
      replace ow23 := own_cat (b := [92, 110]) ow23 (bc2 rfl rfl)
      refine s_assign (v := .slice A21 ((quotL s i).length + 2) c22) (ev_t rfl rfl) (w0 rfl) ?_
      refine c_done ?_
      refine n_block ?_
      refine n_block ?_
      refine n_then ?_
      refine c_reg ?_
      refine s_move (v := .int .i64 ((i : Nat) : Int)) (ev_t rfl e13) (w0 rfl) ?_
      refine s_add (r := ((i + 1 : Nat) : Int)) (ev_t rfl rfl) ev_c (by omega) (by omega) (w0 rfl) ?_
      refine s_assign (v := .int .i64 ((i + 1 : Nat) : Int)) (ev_t rfl rfl) (w0 rfl) ?_
      refine c_done ?_
      exact ⟨(i + 1, A21, c22), _, rfl, ⟨(Keep.then_ (Ext.trans x5 (NewB.ext n18)) k20 (fun i_ hi_ h_ => by have a_ := own_ge (own_ext (NewB.ext n18) i8) i_ h_; omega)), by omega, (own_len ow23 (by rw [(quotL_step s i (by omega) (l := [92, 110]) (by unfold encB; have e_ : (s.data.getD i 0).toNat = byteAt s i := rfl; rw [e_]; (repeat' split) <;> first | rfl | omega | (exfalso; omega)))]; simp) (by rw [(quotL_step s i (by omega) (l := [92, 110]) (by unfold encB; have e_ : (s.data.getD i 0).toNat = byteAt s i := rfl; rw [e_]; (repeat' split) <;> first | rfl | omega | (exfalso; omega)))])), e9, e10, e11, (by rw [(quotL_step s i (by omega) (l := [92, 110]) (by unfold encB; have e_ : (s.data.getD i 0).toNat = byteAt s i := rfl; rw [e_]; (repeat' split) <;> first | rfl | omega | (exfalso; omega))), List.length_append]; rfl), rfl⟩, (show s.size - (i + 1) < s.size - i by omega)⟩
    · refine c_cond0 (vb (ev_t rfl rfl) (decide_eq_false h15)) ?_
      refine c_seq ?_
      refine c_reg ?_
      refine s_move (v := .int .u8 (byteAt s i : Int)) (ev_t rfl rfl) (w0 rfl) ?_
      refine s_cmp (r := decide ((byteAt s i : Int) = 34)) (ev_t rfl rfl) ev_c rfl (w0 rfl) ?_
      by_cases h24 : (byteAt s i : Int) = 34
      · refine s_move (v := .bool true) (vb (ev_t rfl rfl) (decide_eq_true h24)) (w0 rfl) ?_
        refine s_skip (wn rfl rfl rfl rfl rfl) ?_
        refine s_skip (wn rfl rfl rfl rfl rfl) ?_
        refine s_pick1 (v := .bool true) (ev_t rfl rfl) ev_c (w0 rfl) ?_
        refine s_assign (v := .bool true) (ev_t rfl rfl) (w0 rfl) ?_
        refine c_done ?_
        refine n_then ?_
        refine c_cond1 (ev_t rfl rfl) ?_
        refine c_reg ?_
        refine s_move (v := .slice A ((quotL s i).length) c) (ev_t rfl e12) (w0 rfl) ?_
        refine s_move (v := .int .u8 (byteAt s i : Int)) (ev_t rfl rfl) (w0 rfl) ?_
        refine s_bslice (vs := [(0, .int .u8 92), (1, .int .u8 (byteAt s i : Int))]) (cs := #[.int .u8 92, .int .u8 (byteAt s i : Int)]) (b2 ev_c (ev_t rfl rfl)) (bs81_2_0iu8_1iu8 92 (byteAt s i : Int)) (w0 rfl) ?_
        intro w26 g25 n27
        refine s_append (m := 1) (k := 2) (news := [.int .u8 92, .int .u8 (byteAt s i : Int)]) F_ul81 F_if5 rfl (by decide) (ev_t rfl rfl) (own_ext (NewB.ext n27) i8) (ev_t rfl rfl) rfl (by have z_ := blk_cells (NewB.blk n27) 0 (cs := [.int .u8 92, .int .u8 (byteAt s i : Int)]) rfl; exact z_) rfl (by omega) (by omega) (Keep.size (Ext.trans x5 (NewB.ext n27))) (w0 rfl) ?_
        intro A30 c31 w28 ow32 k29
        replace ow32 := own_cat (b := [92, (s.data.getD i 0)]) ow32 (bc2 rfl rfl)
        refine s_assign (v := .slice A30 ((quotL s i).length + 2) c31) (ev_t rfl rfl) (w0 rfl) ?_
        refine c_done ?_
        refine n_block ?_
        refine n_block ?_
        refine n_then ?_
        refine c_reg ?_
        refine s_move (v := .int .i64 ((i : Nat) : Int)) (ev_t rfl e13) (w0 rfl) ?_
        refine s_add (r := ((i + 1 : Nat) : Int)) (ev_t rfl rfl) ev_c (by omega) (by omega) (w0 rfl) ?_
        refine s_assign (v := .int .i64 ((i + 1 : Nat) : Int)) (ev_t rfl rfl) (w0 rfl) ?_
        refine c_done ?_
        exact ⟨(i + 1, A30, c31), _, rfl, ⟨(Keep.then_ (Ext.trans x5 (NewB.ext n27)) k29 (fun i_ hi_ h_ => by have a_ := own_ge (own_ext (NewB.ext n27) i8) i_ h_; omega)), by omega, (own_len ow32 (by rw [(quotL_step s i (by omega) (l := [92, (s.data.getD i 0)]) (by unfold encB; have e_ : (s.data.getD i 0).toNat = byteAt s i := rfl; rw [e_]; (repeat' split) <;> first | rfl | omega | (exfalso; omega)))]; simp) (by rw [(quotL_step s i (by omega) (l := [92, (s.data.getD i 0)]) (by unfold encB; have e_ : (s.data.getD i 0).toNat = byteAt s i := rfl; rw [e_]; (repeat' split) <;> first | rfl | omega | (exfalso; omega)))])), e9, e10, e11, (by rw [(quotL_step s i (by omega) (l := [92, (s.data.getD i 0)]) (by unfold encB; have e_ : (s.data.getD i 0).toNat = byteAt s i := rfl; rw [e_]; (repeat' split) <;> first | rfl | omega | (exfalso; omega))), List.length_append]; rfl), rfl⟩, (show s.size - (i + 1) < s.size - i by omega)⟩
      · refine s_move (v := .bool false) (vb (ev_t rfl rfl) (decide_eq_false h24)) (w0 rfl) ?_
        refine s_move (v := .int .u8 (byteAt s i : Int)) (ev_t rfl rfl) (wy rfl rfl rfl rfl) ?_
        refine s_cmp (r := decide ((byteAt s i : Int) = 92)) (ev_t rfl rfl) ev_c rfl (wy rfl rfl rfl rfl) ?_
        refine s_pick0 (v := .bool (decide ((byteAt s i : Int) = 92))) (ev_t rfl rfl) (ev_t rfl rfl) (w0 rfl) ?_
        refine s_assign (v := .bool (decide ((byteAt s i : Int) = 92))) (ev_t rfl rfl) (w0 rfl) ?_
        refine c_done ?_
        refine n_then ?_
        by_cases h33 : (byteAt s i : Int) = 92
        · refine c_cond1 (vb (ev_t rfl rfl) (decide_eq_true h33)) ?_
          refine c_reg ?_
          refine s_move (v := .slice A ((quotL s i).length) c) (ev_t rfl e12) (w0 rfl) ?_
          refine s_move (v := .int .u8 (byteAt s i : Int)) (ev_t rfl rfl) (w0 rfl) ?_
          refine s_bslice (vs := [(0, .int .u8 92), (1, .int .u8 (byteAt s i : Int))]) (cs := #[.int .u8 92, .int .u8 (byteAt s i : Int)]) (b2 ev_c (ev_t rfl rfl)) (bs81_2_0iu8_1iu8 92 (byteAt s i : Int)) (w0 rfl) ?_
          intro w35 g34 n36
          refine s_append (m := 1) (k := 2) (news := [.int .u8 92, .int .u8 (byteAt s i : Int)]) F_ul81 F_if5 rfl (by decide) (ev_t rfl rfl) (own_ext (NewB.ext n36) i8) (ev_t rfl rfl) rfl (by have z_ := blk_cells (NewB.blk n36) 0 (cs := [.int .u8 92, .int .u8 (byteAt s i : Int)]) rfl; exact z_) rfl (by omega) (by omega) (Keep.size (Ext.trans x5 (NewB.ext n36))) (w0 rfl) ?_
          intro A39 c40 w37 ow41 k38
          replace ow41 := own_cat (b := [92, (s.data.getD i 0)]) ow41 (bc2 rfl rfl)
          refine s_assign (v := .slice A39 ((quotL s i).length + 2) c40) (ev_t rfl rfl) (w0 rfl) ?_
          refine c_done ?_
          refine n_block ?_
          refine n_block ?_
          refine n_then ?_
          refine c_reg ?_
          refine s_move (v := .int .i64 ((i : Nat) : Int)) (ev_t rfl e13) (w0 rfl) ?_
          refine s_add (r := ((i + 1 : Nat) : Int)) (ev_t rfl rfl) ev_c (by omega) (by omega) (w0 rfl) ?_
          refine s_assign (v := .int .i64 ((i + 1 : Nat) : Int)) (ev_t rfl rfl) (w0 rfl) ?_
          refine c_done ?_
          exact ⟨(i + 1, A39, c40), _, rfl, ⟨(Keep.then_ (Ext.trans x5 (NewB.ext n36)) k38 (fun i_ hi_ h_ => by have a_ := own_ge (own_ext (NewB.ext n36) i8) i_ h_; omega)), by omega, (own_len ow41 (by rw [(quotL_step s i (by omega) (l := [92, (s.data.getD i 0)]) (by unfold encB; have e_ : (s.data.getD i 0).toNat = byteAt s i := rfl; rw [e_]; (repeat' split) <;> first | rfl | omega | (exfalso; omega)))]; simp) (by rw [(quotL_step s i (by omega) (l := [92, (s.data.getD i 0)]) (by unfold encB; have e_ : (s.data.getD i 0).toNat = byteAt s i := rfl; rw [e_]; (repeat' split) <;> first | rfl | omega | (exfalso; omega)))])), e9, e10, e11, (by rw [(quotL_step s i (by omega) (l := [92, (s.data.getD i 0)]) (by unfold encB; have e_ : (s.data.getD i 0).toNat = byteAt s i := rfl; rw [e_]; (repeat' split) <;> first | rfl | omega | (exfalso; omega))), List.length_append]; rfl), rfl⟩, (show s.size - (i + 1) < s.size - i by omega)⟩
        · refine c_cond0 (vb (ev_t rfl rfl) (decide_eq_false h33)) ?_
          refine c_seq ?_
          refine c_reg ?_
          refine s_move (v := .int .u8 (byteAt s i : Int)) (ev_t rfl rfl) (w0 rfl) ?_
          refine s_cmp (r := decide (32 ≤ (byteAt s i : Int))) (ev_t rfl rfl) ev_c rfl (w0 rfl) ?_
          by_cases h42 : 32 ≤ (byteAt s i : Int)
          · refine s_move (v := .bool true) (vb (ev_t rfl rfl) (decide_eq_true h42)) (w0 rfl) ?_
            refine s_move (v := .int .u8 (byteAt s i : Int)) (ev_t rfl rfl) (wy rfl rfl rfl rfl) ?_
            refine s_cmp (r := decide ((byteAt s i : Int) ≤ 126)) (ev_t rfl rfl) ev_c rfl (wy rfl rfl rfl rfl) ?_
            refine s_pick1 (v := .bool (decide ((byteAt s i : Int) ≤ 126))) (ev_t rfl rfl) (ev_t rfl rfl) (w0 rfl) ?_
            refine s_assign (v := .bool (decide ((byteAt s i : Int) ≤ 126))) (ev_t rfl rfl) (w0 rfl) ?_
            refine c_done ?_
            refine n_then ?_
            by_cases h43 : (byteAt s i : Int) ≤ 126
            · refine c_cond1 (vb (ev_t rfl rfl) (decide_eq_true h43)) ?_
              refine c_reg ?_
              refine s_move (v := .slice A ((quotL s i).length) c) (ev_t rfl e12) (w0 rfl) ?_
              refine s_move (v := .int .u8 (byteAt s i : Int)) (ev_t rfl rfl) (w0 rfl) ?_
              refine s_bslice (vs := [(0, .int .u8 (byteAt s i : Int))]) (cs := #[.int .u8 (byteAt s i : Int)]) (b1 (ev_t rfl rfl)) (bs81_1_0iu8 (byteAt s i : Int)) (w0 rfl) ?_
              intro w45 g44 n46
              refine s_append (m := 1) (k := 1) (news := [.int .u8 (byteAt s i : Int)]) F_ul81 F_if5 rfl (by decide) (ev_t rfl rfl) (own_ext (NewB.ext n46) i8) (ev_t rfl rfl) rfl (by have z_ := blk_cells (NewB.blk n46) 0 (cs := [.int .u8 (byteAt s i : Int)]) rfl; exact z_) rfl (by omega) (by omega) (Keep.size (Ext.trans x5 (NewB.ext n46))) (w0 rfl) ?_
              intro A49 c50 w47 ow51 k48
              replace ow51 := own_cat (b := [(s.data.getD i 0)]) ow51 (bc1 rfl)
              refine s_assign (v := .slice A49 ((quotL s i).length + 1) c50) (ev_t rfl rfl) (w0 rfl) ?_
              refine c_done ?_
              refine n_block ?_
              refine n_block ?_
              refine n_then ?_
              refine c_reg ?_
              refine s_move (v := .int .i64 ((i : Nat) : Int)) (ev_t rfl e13) (w0 rfl) ?_
              refine s_add (r := ((i + 1 : Nat) : Int)) (ev_t rfl rfl) ev_c (by omega) (by omega) (w0 rfl) ?_
              refine s_assign (v := .int .i64 ((i + 1 : Nat) : Int)) (ev_t rfl rfl) (w0 rfl) ?_
              refine c_done ?_
              exact ⟨(i + 1, A49, c50), _, rfl, ⟨(Keep.then_ (Ext.trans x5 (NewB.ext n46)) k48 (fun i_ hi_ h_ => by have a_ := own_ge (own_ext (NewB.ext n46) i8) i_ h_; omega)), by omega, (own_len ow51 (by rw [(quotL_step s i (by omega) (l := [(s.data.getD i 0)]) (by unfold encB; have e_ : (s.data.getD i 0).toNat = byteAt s i := rfl; rw [e_]; (repeat' split) <;> first | rfl | omega | (exfalso; omega)))]; simp) (by rw [(quotL_step s i (by omega) (l := [(s.data.getD i 0)]) (by unfold encB; have e_ : (s.data.getD i 0).toNat = byteAt s i := rfl; rw [e_]; (repeat' split) <;> first | rfl | omega | (exfalso; omega)))])), e9, e10, e11, (by rw [(quotL_step s i (by omega) (l := [(s.data.getD i 0)]) (by unfold encB; have e_ : (s.data.getD i 0).toNat = byteAt s i := rfl; rw [e_]; (repeat' split) <;> first | rfl | omega | (exfalso; omega))), List.length_append]; rfl), rfl⟩, (show s.size - (i + 1) < s.size - i by omega)⟩
            · refine c_cond0 (vb (ev_t rfl rfl) (decide_eq_false h43)) ?_
              refine c_head (fun w_ => Keep (fun i_ => some i_ = (Value.slice A ((quotL s i).length) c).ownBlock) w4 w_) 9 mixed (by kernel_rfl) (fun _ x_ => Keep.ext (Keep.refl _ _) x_) ?_
              intro w52 x53
              refine h_val (v := .slice A ((quotL s i).length) c) (w0 rfl) (fun w_ c_ => r_move (v := .slice A ((quotL s i).length) c) (ev_t rfl e12)) ?_
              refine h_val (v := .string (⟨#[48, 49, 50, 51, 52, 53, 54, 55, 56, 57, 97, 98, 99, 100, 101, 102]⟩ : ByteArray)) (w0 rfl) (fun w_ c_ => r_move (v := .string (⟨#[48, 49, 50, 51, 52, 53, 54, 55, 56, 57, 97, 98, 99, 100, 101, 102]⟩ : ByteArray)) (ev_t rfl e11)) ?_
              refine h_val (v := .int .u8 (byteAt s i : Int)) (w0 rfl) (fun w_ c_ => r_move (v := .int .u8 (byteAt s i : Int)) (ev_t rfl rfl)) ?_
              refine h_val (v := .int .u8 (((byteAt s i) / 16 : Nat) : Int)) (w0 rfl) (fun w_ c_ => r_quo (r := (((byteAt s i) / 16 : Nat) : Int)) (ev_t rfl rfl) ev_c (by decide) (quo_u8 (byteAt s i) 16 (K := 16) rfl (by decide) (by omega))) ?_
              refine h_val (v := .int .u8 (byteAt (⟨#[48, 49, 50, 51, 52, 53, 54, 55, 56, 57, 97, 98, 99, 100, 101, 102]⟩ : ByteArray) ((byteAt s i) / 16) : Int)) (w0 rfl) (fun w_ c_ => r_byte (j := (byteAt s i) / 16) F_us9 (ev_t rfl rfl) (ev_t rfl rfl) rfl (Nat.lt_of_lt_of_le (show (byteAt s i) / 16 < 16 by omega) (by decide))) ?_
              refine h_val (v := .string (⟨#[48, 49, 50, 51, 52, 53, 54, 55, 56, 57, 97, 98, 99, 100, 101, 102]⟩ : ByteArray)) (w0 rfl) (fun w_ c_ => r_move (v := .string (⟨#[48, 49, 50, 51, 52, 53, 54, 55, 56, 57, 97, 98, 99, 100, 101, 102]⟩ : ByteArray)) (ev_t rfl e11)) ?_
              refine h_val (v := .int .u8 (byteAt s i : Int)) (w0 rfl) (fun w_ c_ => r_move (v := .int .u8 (byteAt s i : Int)) (ev_t rfl rfl)) ?_
              refine h_val (v := .int .u8 (((byteAt s i) % 16 : Nat) : Int)) (w0 rfl) (fun w_ c_ => r_rem (r := (((byteAt s i) % 16 : Nat) : Int)) (ev_t rfl rfl) ev_c (by decide) (rem_nat (byteAt s i) 16 (K := 16) rfl)) ?_
              refine h_val (v := .int .u8 (byteAt (⟨#[48, 49, 50, 51, 52, 53, 54, 55, 56, 57, 97, 98, 99, 100, 101, 102]⟩ : ByteArray) ((byteAt s i) % 16) : Int)) (w0 rfl) (fun w_ c_ => r_byte (j := (byteAt s i) % 16) F_us9 (ev_t rfl rfl) (ev_t rfl rfl) rfl (Nat.lt_of_lt_of_le (show (byteAt s i) % 16 < 16 by omega) (by decide))) ?_
              refine h_done ?_
              refine tl_cons ?_
              refine s_bslice (vs := [(0, .int .u8 92), (1, .int .u8 120), (2, .int .u8 (byteAt (⟨#[48, 49, 50, 51, 52, 53, 54, 55, 56, 57, 97, 98, 99, 100, 101, 102]⟩ : ByteArray) ((byteAt s i) / 16) : Int)), (3, .int .u8 (byteAt (⟨#[48, 49, 50, 51, 52, 53, 54, 55, 56, 57, 97, 98, 99, 100, 101, 102]⟩ : ByteArray) ((byteAt s i) % 16) : Int))]) (cs := #[.int .u8 92, .int .u8 120, .int .u8 (byteAt (⟨#[48, 49, 50, 51, 52, 53, 54, 55, 56, 57, 97, 98, 99, 100, 101, 102]⟩ : ByteArray) ((byteAt s i) / 16) : Int), .int .u8 (byteAt (⟨#[48, 49, 50, 51, 52, 53, 54, 55, 56, 57, 97, 98, 99, 100, 101, 102]⟩ : ByteArray) ((byteAt s i) % 16) : Int)]) (b4 ev_c ev_c (ev_t rfl rfl) (ev_t rfl rfl)) (bs81_4_0iu8_1iu8_2iu8_3iu8 92 120 (byteAt (⟨#[48, 49, 50, 51, 52, 53, 54, 55, 56, 57, 97, 98, 99, 100, 101, 102]⟩ : ByteArray) ((byteAt s i) / 16) : Int) (byteAt (⟨#[48, 49, 50, 51, 52, 53, 54, 55, 56, 57, 97, 98, 99, 100, 101, 102]⟩ : ByteArray) ((byteAt s i) % 16) : Int)) (w0 rfl) ?_
              intro w55 g54 n56
              refine tl_done ⟨(Keep.ext (Keep.ext (Keep.refl _ _) x53) (NewB.ext n56)), ?_⟩
              refine tl_cons ?_
              refine s_append (m := 1) (k := 4) (news := [.int .u8 92, .int .u8 120, .int .u8 (byteAt (⟨#[48, 49, 50, 51, 52, 53, 54, 55, 56, 57, 97, 98, 99, 100, 101, 102]⟩ : ByteArray) ((byteAt s i) / 16) : Int), .int .u8 (byteAt (⟨#[48, 49, 50, 51, 52, 53, 54, 55, 56, 57, 97, 98, 99, 100, 101, 102]⟩ : ByteArray) ((byteAt s i) % 16) : Int)]) F_ul81 F_if5 rfl (by decide) (ev_t rfl rfl) (own_ext (NewB.ext n56) (own_ext x53 i8)) (ev_t rfl rfl) rfl (by have z_ := blk_cells (NewB.blk n56) 0 (cs := [.int .u8 92, .int .u8 120, .int .u8 (byteAt (⟨#[48, 49, 50, 51, 52, 53, 54, 55, 56, 57, 97, 98, 99, 100, 101, 102]⟩ : ByteArray) ((byteAt s i) / 16) : Int), .int .u8 (byteAt (⟨#[48, 49, 50, 51, 52, 53, 54, 55, 56, 57, 97, 98, 99, 100, 101, 102]⟩ : ByteArray) ((byteAt s i) % 16) : Int)]) rfl; exact z_) rfl (by omega) (by omega) (Keep.size (Ext.trans (Ext.trans x5 x53) (NewB.ext n56))) (w0 rfl) ?_
              intro A59 c60 w57 ow61 k58
              replace ow61 := own_cat (b := [92, 120, ((⟨#[48, 49, 50, 51, 52, 53, 54, 55, 56, 57, 97, 98, 99, 100, 101, 102]⟩ : ByteArray).data.getD ((byteAt s i) / 16) 0), ((⟨#[48, 49, 50, 51, 52, 53, 54, 55, 56, 57, 97, 98, 99, 100, 101, 102]⟩ : ByteArray).data.getD ((byteAt s i) % 16) 0)]) ow61 (bc4 rfl rfl rfl rfl)
              refine tl_done ⟨(Keep.then_ (Keep.ext (Keep.ext (Keep.refl _ _) x53) (NewB.ext n56)) k58 (fun _ _ h => h)), ?_⟩
              refine tl_cons ?_
              refine s_assign (v := .slice A59 ((quotL s i).length + 4) c60) (ev_t rfl rfl) (w0 rfl) ?_
              refine tl_done ⟨(Keep.then_ (Keep.ext (Keep.ext (Keep.refl _ _) x53) (NewB.ext n56)) k58 (fun _ _ h => h)), ?_⟩
              refine tl_nil ?_
              refine n_block ?_
              refine n_block ?_
              refine n_then ?_
              refine c_reg ?_
              refine s_move (v := .int .i64 ((i : Nat) : Int)) (ev_t rfl e13) (w0 rfl) ?_
              refine s_add (r := ((i + 1 : Nat) : Int)) (ev_t rfl rfl) ev_c (by omega) (by omega) (w0 rfl) ?_
              refine s_assign (v := .int .i64 ((i + 1 : Nat) : Int)) (ev_t rfl rfl) (w0 rfl) ?_
              refine c_done ?_
              exact ⟨(i + 1, A59, c60), _, rfl, ⟨(Keep.then_ (Ext.trans (Ext.trans x5 x53) (NewB.ext n56)) k58 (fun i_ hi_ h_ => by have a_ := own_ge (own_ext (NewB.ext n56) (own_ext x53 i8)) i_ h_; omega)), by omega, (own_len ow61 (by rw [(quotL_step s i (by omega) (l := [92, 120, ((⟨#[48, 49, 50, 51, 52, 53, 54, 55, 56, 57, 97, 98, 99, 100, 101, 102]⟩ : ByteArray).data.getD ((byteAt s i) / 16) 0), ((⟨#[48, 49, 50, 51, 52, 53, 54, 55, 56, 57, 97, 98, 99, 100, 101, 102]⟩ : ByteArray).data.getD ((byteAt s i) % 16) 0)]) (by unfold encB; have e_ : (s.data.getD i 0).toNat = byteAt s i := rfl; rw [e_]; (repeat' split) <;> first | rfl | omega | (exfalso; omega)))]; simp) (by rw [(quotL_step s i (by omega) (l := [92, 120, ((⟨#[48, 49, 50, 51, 52, 53, 54, 55, 56, 57, 97, 98, 99, 100, 101, 102]⟩ : ByteArray).data.getD ((byteAt s i) / 16) 0), ((⟨#[48, 49, 50, 51, 52, 53, 54, 55, 56, 57, 97, 98, 99, 100, 101, 102]⟩ : ByteArray).data.getD ((byteAt s i) % 16) 0)]) (by unfold encB; have e_ : (s.data.getD i 0).toNat = byteAt s i := rfl; rw [e_]; (repeat' split) <;> first | rfl | omega | (exfalso; omega)))])), e9, e10, e11, (by rw [(quotL_step s i (by omega) (l := [92, 120, ((⟨#[48, 49, 50, 51, 52, 53, 54, 55, 56, 57, 97, 98, 99, 100, 101, 102]⟩ : ByteArray).data.getD ((byteAt s i) / 16) 0), ((⟨#[48, 49, 50, 51, 52, 53, 54, 55, 56, 57, 97, 98, 99, 100, 101, 102]⟩ : ByteArray).data.getD ((byteAt s i) % 16) 0)]) (by unfold encB; have e_ : (s.data.getD i 0).toNat = byteAt s i := rfl; rw [e_]; (repeat' split) <;> first | rfl | omega | (exfalso; omega))), List.length_append]; rfl), rfl⟩, (show s.size - (i + 1) < s.size - i by omega)⟩
          · refine s_move (v := .bool false) (vb (ev_t rfl rfl) (decide_eq_false h42)) (w0 rfl) ?_
            refine s_skip (wn rfl rfl rfl rfl rfl) ?_
            refine s_skip (wn rfl rfl rfl rfl rfl) ?_
            refine s_pick0 (v := .bool false) (ev_t rfl rfl) ev_c (w0 rfl) ?_
            refine s_assign (v := .bool false) (ev_t rfl rfl) (w0 rfl) ?_
            refine c_done ?_
            refine n_then ?_
            refine c_cond0 (ev_t rfl rfl) ?_
            refine c_head (fun w_ => Keep (fun i_ => some i_ = (Value.slice A ((quotL s i).length) c).ownBlock) w4 w_) 9 mixed (by kernel_rfl) (fun _ x_ => Keep.ext (Keep.refl _ _) x_) ?_
            intro w62 x63
            refine h_val (v := .slice A ((quotL s i).length) c) (w0 rfl) (fun w_ c_ => r_move (v := .slice A ((quotL s i).length) c) (ev_t rfl e12)) ?_
            refine h_val (v := .string (⟨#[48, 49, 50, 51, 52, 53, 54, 55, 56, 57, 97, 98, 99, 100, 101, 102]⟩ : ByteArray)) (w0 rfl) (fun w_ c_ => r_move (v := .string (⟨#[48, 49, 50, 51, 52, 53, 54, 55, 56, 57, 97, 98, 99, 100, 101, 102]⟩ : ByteArray)) (ev_t rfl e11)) ?_
            refine h_val (v := .int .u8 (byteAt s i : Int)) (w0 rfl) (fun w_ c_ => r_move (v := .int .u8 (byteAt s i : Int)) (ev_t rfl rfl)) ?_
            refine h_val (v := .int .u8 (((byteAt s i) / 16 : Nat) : Int)) (w0 rfl) (fun w_ c_ => r_quo (r := (((byteAt s i) / 16 : Nat) : Int)) (ev_t rfl rfl) ev_c (by decide) (quo_u8 (byteAt s i) 16 (K := 16) rfl (by decide) (by omega))) ?_
            refine h_val (v := .int .u8 (byteAt (⟨#[48, 49, 50, 51, 52, 53, 54, 55, 56, 57, 97, 98, 99, 100, 101, 102]⟩ : ByteArray) ((byteAt s i) / 16) : Int)) (w0 rfl) (fun w_ c_ => r_byte (j := (byteAt s i) / 16) F_us9 (ev_t rfl rfl) (ev_t rfl rfl) rfl (Nat.lt_of_lt_of_le (show (byteAt s i) / 16 < 16 by omega) (by decide))) ?_
            refine h_val (v := .string (⟨#[48, 49, 50, 51, 52, 53, 54, 55, 56, 57, 97, 98, 99, 100, 101, 102]⟩ : ByteArray)) (w0 rfl) (fun w_ c_ => r_move (v := .string (⟨#[48, 49, 50, 51, 52, 53, 54, 55, 56, 57, 97, 98, 99, 100, 101, 102]⟩ : ByteArray)) (ev_t rfl e11)) ?_
            refine h_val (v := .int .u8 (byteAt s i : Int)) (w0 rfl) (fun w_ c_ => r_move (v := .int .u8 (byteAt s i : Int)) (ev_t rfl rfl)) ?_
            refine h_val (v := .int .u8 (((byteAt s i) % 16 : Nat) : Int)) (w0 rfl) (fun w_ c_ => r_rem (r := (((byteAt s i) % 16 : Nat) : Int)) (ev_t rfl rfl) ev_c (by decide) (rem_nat (byteAt s i) 16 (K := 16) rfl)) ?_
            refine h_val (v := .int .u8 (byteAt (⟨#[48, 49, 50, 51, 52, 53, 54, 55, 56, 57, 97, 98, 99, 100, 101, 102]⟩ : ByteArray) ((byteAt s i) % 16) : Int)) (w0 rfl) (fun w_ c_ => r_byte (j := (byteAt s i) % 16) F_us9 (ev_t rfl rfl) (ev_t rfl rfl) rfl (Nat.lt_of_lt_of_le (show (byteAt s i) % 16 < 16 by omega) (by decide))) ?_
            refine h_done ?_
            refine tl_cons ?_
            refine s_bslice (vs := [(0, .int .u8 92), (1, .int .u8 120), (2, .int .u8 (byteAt (⟨#[48, 49, 50, 51, 52, 53, 54, 55, 56, 57, 97, 98, 99, 100, 101, 102]⟩ : ByteArray) ((byteAt s i) / 16) : Int)), (3, .int .u8 (byteAt (⟨#[48, 49, 50, 51, 52, 53, 54, 55, 56, 57, 97, 98, 99, 100, 101, 102]⟩ : ByteArray) ((byteAt s i) % 16) : Int))]) (cs := #[.int .u8 92, .int .u8 120, .int .u8 (byteAt (⟨#[48, 49, 50, 51, 52, 53, 54, 55, 56, 57, 97, 98, 99, 100, 101, 102]⟩ : ByteArray) ((byteAt s i) / 16) : Int), .int .u8 (byteAt (⟨#[48, 49, 50, 51, 52, 53, 54, 55, 56, 57, 97, 98, 99, 100, 101, 102]⟩ : ByteArray) ((byteAt s i) % 16) : Int)]) (b4 ev_c ev_c (ev_t rfl rfl) (ev_t rfl rfl)) (bs81_4_0iu8_1iu8_2iu8_3iu8 92 120 (byteAt (⟨#[48, 49, 50, 51, 52, 53, 54, 55, 56, 57, 97, 98, 99, 100, 101, 102]⟩ : ByteArray) ((byteAt s i) / 16) : Int) (byteAt (⟨#[48, 49, 50, 51, 52, 53, 54, 55, 56, 57, 97, 98, 99, 100, 101, 102]⟩ : ByteArray) ((byteAt s i) % 16) : Int)) (w0 rfl) ?_
            intro w65 g64 n66
            refine tl_done ⟨(Keep.ext (Keep.ext (Keep.refl _ _) x63) (NewB.ext n66)), ?_⟩
            refine tl_cons ?_
            refine s_append (m := 1) (k := 4) (news := [.int .u8 92, .int .u8 120, .int .u8 (byteAt (⟨#[48, 49, 50, 51, 52, 53, 54, 55, 56, 57, 97, 98, 99, 100, 101, 102]⟩ : ByteArray) ((byteAt s i) / 16) : Int), .int .u8 (byteAt (⟨#[48, 49, 50, 51, 52, 53, 54, 55, 56, 57, 97, 98, 99, 100, 101, 102]⟩ : ByteArray) ((byteAt s i) % 16) : Int)]) F_ul81 F_if5 rfl (by decide) (ev_t rfl rfl) (own_ext (NewB.ext n66) (own_ext x63 i8)) (ev_t rfl rfl) rfl (by have z_ := blk_cells (NewB.blk n66) 0 (cs := [.int .u8 92, .int .u8 120, .int .u8 (byteAt (⟨#[48, 49, 50, 51, 52, 53, 54, 55, 56, 57, 97, 98, 99, 100, 101, 102]⟩ : ByteArray) ((byteAt s i) / 16) : Int), .int .u8 (byteAt (⟨#[48, 49, 50, 51, 52, 53, 54, 55, 56, 57, 97, 98, 99, 100, 101, 102]⟩ : ByteArray) ((byteAt s i) % 16) : Int)]) rfl; exact z_) rfl (by omega) (by omega) (Keep.size (Ext.trans (Ext.trans x5 x63) (NewB.ext n66))) (w0 rfl) ?_
            intro A69 c70 w67 ow71 k68
            replace ow71 := own_cat (b := [92, 120, ((⟨#[48, 49, 50, 51, 52, 53, 54, 55, 56, 57, 97, 98, 99, 100, 101, 102]⟩ : ByteArray).data.getD ((byteAt s i) / 16) 0), ((⟨#[48, 49, 50, 51, 52, 53, 54, 55, 56, 57, 97, 98, 99, 100, 101, 102]⟩ : ByteArray).data.getD ((byteAt s i) % 16) 0)]) ow71 (bc4 rfl rfl rfl rfl)
            refine tl_done ⟨(Keep.then_ (Keep.ext (Keep.ext (Keep.refl _ _) x63) (NewB.ext n66)) k68 (fun _ _ h => h)), ?_⟩
            refine tl_cons ?_
            refine s_assign (v := .slice A69 ((quotL s i).length + 4) c70) (ev_t rfl rfl) (w0 rfl) ?_
            refine tl_done ⟨(Keep.then_ (Keep.ext (Keep.ext (Keep.refl _ _) x63) (NewB.ext n66)) k68 (fun _ _ h => h)), ?_⟩
            refine tl_nil ?_
            refine n_block ?_
            refine n_block ?_
            refine n_then ?_
            refine c_reg ?_
            refine s_move (v := .int .i64 ((i : Nat) : Int)) (ev_t rfl e13) (w0 rfl) ?_
            refine s_add (r := ((i + 1 : Nat) : Int)) (ev_t rfl rfl) ev_c (by omega) (by omega) (w0 rfl) ?_
            refine s_assign (v := .int .i64 ((i + 1 : Nat) : Int)) (ev_t rfl rfl) (w0 rfl) ?_
            refine c_done ?_
            exact ⟨(i + 1, A69, c70), _, rfl, ⟨(Keep.then_ (Ext.trans (Ext.trans x5 x63) (NewB.ext n66)) k68 (fun i_ hi_ h_ => by have a_ := own_ge (own_ext (NewB.ext n66) (own_ext x63 i8)) i_ h_; omega)), by omega, (own_len ow71 (by rw [(quotL_step s i (by omega) (l := [92, 120, ((⟨#[48, 49, 50, 51, 52, 53, 54, 55, 56, 57, 97, 98, 99, 100, 101, 102]⟩ : ByteArray).data.getD ((byteAt s i) / 16) 0), ((⟨#[48, 49, 50, 51, 52, 53, 54, 55, 56, 57, 97, 98, 99, 100, 101, 102]⟩ : ByteArray).data.getD ((byteAt s i) % 16) 0)]) (by unfold encB; have e_ : (s.data.getD i 0).toNat = byteAt s i := rfl; rw [e_]; (repeat' split) <;> first | rfl | omega | (exfalso; omega)))]; simp) (by rw [(quotL_step s i (by omega) (l := [92, 120, ((⟨#[48, 49, 50, 51, 52, 53, 54, 55, 56, 57, 97, 98, 99, 100, 101, 102]⟩ : ByteArray).data.getD ((byteAt s i) / 16) 0), ((⟨#[48, 49, 50, 51, 52, 53, 54, 55, 56, 57, 97, 98, 99, 100, 101, 102]⟩ : ByteArray).data.getD ((byteAt s i) % 16) 0)]) (by unfold encB; have e_ : (s.data.getD i 0).toNat = byteAt s i := rfl; rw [e_]; (repeat' split) <;> first | rfl | omega | (exfalso; omega)))])), e9, e10, e11, (by rw [(quotL_step s i (by omega) (l := [92, 120, ((⟨#[48, 49, 50, 51, 52, 53, 54, 55, 56, 57, 97, 98, 99, 100, 101, 102]⟩ : ByteArray).data.getD ((byteAt s i) / 16) 0), ((⟨#[48, 49, 50, 51, 52, 53, 54, 55, 56, 57, 97, 98, 99, 100, 101, 102]⟩ : ByteArray).data.getD ((byteAt s i) % 16) 0)]) (by unfold encB; have e_ : (s.data.getD i 0).toNat = byteAt s i := rfl; rw [e_]; (repeat' split) <;> first | rfl | omega | (exfalso; omega))), List.length_append]; rfl), rfl⟩, (show s.size - (i + 1) < s.size - i by omega)⟩
  · refine c_cond0 (vb (ev_t rfl rfl) (decide_eq_false h14)) ?_
    refine c_exit ?_
    refine e_then ?_
    refine e_then ?_
    refine e_hit ?_
    refine n_then ?_
    refine c_seq ?_
    refine c_reg ?_
    refine s_move (v := .slice A ((quotL s i).length) c) (ev_t rfl e12) (w0 rfl) ?_
    refine s_bslice (vs := [(0, .int .u8 34)]) (cs := #[.int .u8 34]) (b1 ev_c) (bs81_1_0iu8 34) (w0 rfl) ?_
    intro w73 g72 n74
    refine s_append (m := 1) (k := 1) (news := [.int .u8 34]) F_ul81 F_if5 rfl (by decide) (ev_t rfl rfl) (own_ext (NewB.ext n74) i8) (ev_t rfl rfl) rfl (by have z_ := blk_cells (NewB.blk n74) 0 (cs := [.int .u8 34]) rfl; exact z_) rfl (by omega) (by omega) (Keep.size (Ext.trans x5 (NewB.ext n74))) (w0 rfl) ?_
    intro A77 c78 w75 ow79 k76
    replace ow79 := own_cat (b := [34]) ow79 (bc1 rfl)
    refine s_assign (v := .slice A77 ((quotL s i).length + 1) c78) (ev_t rfl rfl) (w0 rfl) ?_
    refine c_done ?_
    refine n_then ?_
    refine c_seq ?_
    refine c_reg ?_
    refine s_move (v := .slice A77 ((quotL s i).length + 1) c78) (ev_t rfl rfl) (w0 rfl) ?_
    refine s_bstr (l := quotL s i ++ [34]) F_ul81 F_ui5 F_us9 (ev_t rfl rfl) (by simp) (bstr_own (own_len ow79 (k2 := (quotL s i ++ [34]).length) (by simp) rfl)).1 (bstr_own (own_len ow79 (k2 := (quotL s i ++ [34]).length) (by simp) rfl)).2 (w0 rfl) ?_
    refine s_assign (v := .string (⟨(quotL s i ++ [34]).toArray⟩ : ByteArray)) (ev_t rfl rfl) (w0 rfl) ?_
    refine c_done ?_
    refine n_then ?_
    refine c_ret ?_
    refine ret1 (v := .string (⟨(quotL s i ++ [34]).toArray⟩ : ByteArray)) rfl rfl rfl ?_
    refine ⟨_, rfl, ?_, (Keep.then_ (Ext.trans x5 (NewB.ext n74)) k76 (fun i_ hi_ h_ => by have a_ := own_ge (own_ext (NewB.ext n74) i8) i_ h_; omega))⟩
    (have e_ : i = s.size := by omega); subst e_; rfl
end Go.Proofs.Dw
