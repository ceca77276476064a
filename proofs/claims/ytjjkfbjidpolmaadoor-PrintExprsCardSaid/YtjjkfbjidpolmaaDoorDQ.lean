/- YtjjkfbjidpolmaaDoorDQ: part of the proof of this seat, by an AI agent: walks of the functions that the law reaches. No condition of its own but those that its theorems state. -/
import Derived.Test.YtjjkfbjidpolmaaDoorDP
import Derived.Test.YtjjkfbjidpolmaaDoorWkR
set_option linter.unusedVariables false
set_option linter.unusedSimpArgs false
set_option maxRecDepth 10000
namespace Go.Proofs.Dw
open Go Go.Wk Go.Proofs Go.Lib
attribute [local irreducible] Go.wpList Go.wpStill Go.wpQuiet Go.Code.wp Go.Calls
theorem F_e18 : enterable Tryd.prog 18 = true := by kernel_rfl
theorem bs29_1_0ii8_0s_0ii8_0ii64_0s_0s : ∀ (a0 : Int) (a1 : ByteArray) (a2 : Int) (a3 : Int) (a4 : ByteArray) (a5 : Option Addr) (a5n a5c : Nat), ∀ w : World, (Instr.buildSlice 29 1 [(0, .agg #[.int .i8 a0, .string a1, .int .i8 a2, .int .i64 a3, .string a4, .slice a5 a5n a5c])].toArray).run Tryd.prog w = .ok (.slice (some ⟨w.heap.size, 0, none⟩) 1 1) (w.alloc (.cells #[.int .i8 a0, .string a1, .int .i8 a2, .int .i64 a3, .string a4, .slice a5 a5n a5c] 31)) := by
  intros
  kernel_rfl
set_option maxHeartbeats 4000000 in
theorem l_ExprParts (x : Ex) (A : Option Addr) (c : Nat) (L : Nat) (w : World) (ho : x.okc c) (hr : Row RE 6 w A x.kids) (hL : 1 ≤ L ∧ L ≤ 1048576) :
    Rt Tryd.prog 18 #[.agg #[.int .i8 x.op, .string x.t.v, .int .i8 x.t.l.k, .int .i64 x.t.l.n, .string x.t.l.s, .slice A x.kids.length c], .int .i64 ((L : Nat) : Int)] w fun v w' => (∃ z : Int, v = .int .i64 z) ∧ Ext w w' := by
  refine enter Tryd.func18 rfl (l := [.agg #[.int .i8 x.op, .string x.t.v, .int .i8 x.t.l.k, .int .i64 x.t.l.n, .string x.t.l.s, .slice A x.kids.length c], .int .i64 ((L : Nat) : Int)]) rfl Tryd.ntmps18 (Nat.le_of_ble_eq_true rfl) ?_
  have hl_ := Ex.okc.l ho
  have hc_ := Ex.okc.c ho
  refine c_seq ?_
  refine c_reg ?_
  refine s_box (v := .agg #[.int .i8 x.op, .string x.t.v, .int .i8 x.t.l.k, .int .i64 x.t.l.n, .string x.t.l.s, .slice A x.kids.length c]) (cs := #[.int .i8 x.op, .string x.t.v, .int .i8 x.t.l.k, .int .i64 x.t.l.n, .string x.t.l.s, .slice A x.kids.length c]) (w0 rfl) (ev_t rfl rfl) rfl ?_
  intro w2 g1 n3
  refine s_assign (v := .int .i64 0) ev_c (w0 rfl) ?_
  refine c_done ?_
  refine n_then ?_
  refine c_seq ?_
  refine c_reg ?_
  refine s_assign (v := .int .i64 0) ev_c (w0 rfl) ?_
  refine c_done ?_
  refine n_then ?_
  refine c_seq ?_
  refine c_reg ?_
  refine s_loadL (cs := [.int .i8 x.op, .string x.t.v, .int .i8 x.t.l.k, .int .i64 x.t.l.n, .string x.t.l.s, .slice A x.kids.length c]) (ca := #[.int .i8 x.op, .string x.t.v, .int .i8 x.t.l.k, .int .i64 x.t.l.n, .string x.t.l.s, .slice A x.kids.length c]) F_m31 (ev_t rfl rfl) rfl rfl (blk_cells (NewB.blk n3) 0 (cs := [.int .i8 x.op, .string x.t.v, .int .i8 x.t.l.k, .int .i64 x.t.l.n, .string x.t.l.s, .slice A x.kids.length c]) rfl) (w0 rfl) ?_
  refine s_bslice (vs := [(0, .agg #[.int .i8 x.op, .string x.t.v, .int .i8 x.t.l.k, .int .i64 x.t.l.n, .string x.t.l.s, .slice A x.kids.length c])]) (cs := #[.int .i8 x.op, .string x.t.v, .int .i8 x.t.l.k, .int .i64 x.t.l.n, .string x.t.l.s, .slice A x.kids.length c]) (b1 (ev_t rfl rfl)) (bs29_1_0ii8_0s_0ii8_0ii64_0s_0s x.op x.t.v x.t.l.k x.t.l.n x.t.l.s A x.kids.length c) (w0 rfl) ?_
  intro w5 g4 n6
  refine s_assign (v := .slice (some ⟨g4, 0, none⟩) 1 1) (ev_t rfl rfl) (w0 rfl) ?_
  refine c_done ?_
  refine n_then ?_
  refine c_seq ?_
  refine c_seq ?_
  refine c_reg ?_
  refine s_assign (v := .int .i64 0) ev_c (w0 rfl) ?_
  refine c_done ?_
  refine n_then ?_
  refine c_block ?_
  refine c_loop (α := List Ex × Option Addr × Nat × Nat × Nat) (fun x_ env_ w_ => match x_ with | (lv, A1, c1, nn, dp) => Ext w w_ ∧ nn + lv.length ≤ L ∧ dp ≤ 65536 ∧ Lv w w_ A1 lv w_.heap.size ∧ env_ 1 = .int .i64 ((L : Nat) : Int) ∧ env_ 5 = .int .i64 ((nn : Nat) : Int) ∧ env_ 6 = .slice A1 lv.length c1 ∧ env_ 7 = .int .i64 ((dp : Nat) : Int)) (fun x_ => match x_ with | (lv, A1, c1, nn, dp) => 65536 - dp) ([x], (some ⟨g4, 0, none⟩), 1, 0, 0) ⟨(Ext.trans (NewB.ext n3) (NewB.ext n6)), (by simp; omega), Nat.zero_le _, (Lv.one n6 ho hr), rfl, rfl, rfl, rfl⟩ ?_
  rintro ⟨lv, A1, c1, nn, dp⟩ env9 w7 ⟨x8, i10, i11, i12, e13, e14, e15, e16⟩
  refine c_seq ?_
  refine c_seq ?_
  refine c_reg ?_
  refine s_move (v := .slice A1 lv.length c1) (ev_t rfl e15) (w0 rfl) ?_
  refine s_lenL F_l29 (ev_t rfl rfl) (w0 rfl) ?_
  refine s_cmp (r := decide (0 < (lv.length : Int))) (ev_t rfl rfl) ev_c rfl (w0 rfl) ?_
  refine c_done ?_
  refine n_then ?_
  by_cases h17 : 0 < (lv.length : Int)
  · refine c_cond1 (vb (ev_t rfl rfl) (decide_eq_true h17)) ?_
    refine c_skip ?_
    refine n_then ?_
    refine c_seq ?_
    refine c_block ?_
    refine c_seq ?_
    refine c_reg ?_
    refine s_move (v := .int .i64 ((nn : Nat) : Int)) (ev_t rfl e14) (w0 rfl) ?_
    refine s_move (v := .slice A1 lv.length c1) (ev_t rfl e15) (w0 rfl) ?_
    refine s_lenL F_l29 (ev_t rfl rfl) (w0 rfl) ?_
    refine s_add (r := ((nn + lv.length : Nat) : Int)) (ev_t rfl rfl) (ev_t rfl rfl) (by omega) (by omega) (w0 rfl) ?_
    refine s_assign (v := .int .i64 ((nn + lv.length : Nat) : Int)) (ev_t rfl rfl) (w0 rfl) ?_
    refine c_done ?_
    refine n_then ?_
    refine c_seq ?_
    refine c_seq ?_
    refine c_reg ?_
    refine s_move (v := .int .i64 ((nn + lv.length : Nat) : Int)) (ev_t rfl rfl) (w0 rfl) ?_
    refine s_move (v := .int .i64 ((L : Nat) : Int)) (ev_t rfl e13) (w0 rfl) ?_
    refine s_cmp (r := decide (((L : Nat) : Int) < ((nn + lv.length : Nat) : Int))) (ev_t rfl rfl) (ev_t rfl rfl) rfl (w0 rfl) ?_
    by_cases h18 : ((L : Nat) : Int) < ((nn + lv.length : Nat) : Int)
    · refine s_move (v := .bool true) (vb (ev_t rfl rfl) (decide_eq_true h18)) (w0 rfl) ?_
      refine s_skip (wn rfl rfl rfl rfl rfl) ?_
      refine s_skip (wn rfl rfl rfl rfl rfl) ?_
      refine s_pick1 (v := .bool true) (ev_t rfl rfl) ev_c (w0 rfl) ?_
      refine c_done ?_
      refine n_then ?_
      refine c_cond1 (ev_t rfl rfl) ?_
      refine c_seq ?_
      refine c_reg ?_
      refine s_move (v := .int .i64 ((L : Nat) : Int)) (ev_t rfl e13) (w0 rfl) ?_
      refine s_add (r := ((L + 1 : Nat) : Int)) (ev_t rfl rfl) ev_c (by omega) (by omega) (w0 rfl) ?_
      refine s_assign (v := .int .i64 ((L + 1 : Nat) : Int)) (ev_t rfl rfl) (w0 rfl) ?_
      refine c_done ?_
      refine n_then ?_
      refine c_ret ?_
      refine r_then ?_
      refine r_block ?_
      refine r_then ?_
      refine r_then ?_
      refine r_block ?_
      refine r_then ?_
      refine ret1 (v := .int .i64 ((L + 1 : Nat) : Int)) rfl rfl rfl ?_
      exact ⟨_, rfl, ⟨_, rfl⟩, x8⟩
    · refine s_move (v := .bool false) (vb (ev_t rfl rfl) (decide_eq_false h18)) (w0 rfl) ?_
      refine s_move (v := .int .i64 ((dp : Nat) : Int)) (ev_t rfl e16) (wy rfl rfl rfl rfl) ?_
      refine s_cmp (r := decide (65536 ≤ ((dp : Nat) : Int))) (ev_t rfl rfl) ev_c rfl (wy rfl rfl rfl rfl) ?_
      refine s_pick0 (v := .bool (decide (65536 ≤ ((dp : Nat) : Int)))) (ev_t rfl rfl) (ev_t rfl rfl) (w0 rfl) ?_
      refine c_done ?_
      refine n_then ?_
      by_cases h19 : 65536 ≤ ((dp : Nat) : Int)
      · refine c_cond1 (vb (ev_t rfl rfl) (decide_eq_true h19)) ?_
        refine c_seq ?_
        refine c_reg ?_
        refine s_move (v := .int .i64 ((L : Nat) : Int)) (ev_t rfl e13) (w0 rfl) ?_
        refine s_add (r := ((L + 1 : Nat) : Int)) (ev_t rfl rfl) ev_c (by omega) (by omega) (w0 rfl) ?_
        refine s_assign (v := .int .i64 ((L + 1 : Nat) : Int)) (ev_t rfl rfl) (w0 rfl) ?_
        refine c_done ?_
        refine n_then ?_
        refine c_ret ?_
        refine r_then ?_
        refine r_block ?_
        refine r_then ?_
        refine r_then ?_
        refine r_block ?_
        refine r_then ?_
        refine ret1 (v := .int .i64 ((L + 1 : Nat) : Int)) rfl rfl rfl ?_
        exact ⟨_, rfl, ⟨_, rfl⟩, x8⟩
      · refine c_cond0 (vb (ev_t rfl rfl) (decide_eq_false h19)) ?_
        refine c_skip ?_
        refine n_then ?_
        refine c_seq ?_
        refine c_reg ?_
        refine s_assign (v := .slice none 0 0) ev_c (w0 rfl) ?_
        refine c_done ?_
        refine n_then ?_
        refine c_seq ?_
        refine c_seq ?_
        refine c_reg ?_
        refine s_assign (v := .int .i64 0) ev_c (w0 rfl) ?_
        refine c_done ?_
        refine n_then ?_
        refine c_block ?_
        obtain ⟨B2, hB2e_⟩ : ∃ B, B = w7.heap.size := ⟨_, rfl⟩
        have geB2 : w.heap.size ≤ B2 := by have a_ := Keep.size x8; omega
        have lvB_ : Lv w w7 A1 lv B2 := Lv.up i12 (by have a_ := Keep.size (Ext.refl w7); omega)
        refine c_loop (α := Nat × List Ex × Option Addr × Nat) (fun x_ env_ w_ => match x_ with | (i, nx, A2, c2) => Ext w w_ ∧ i ≤ lv.length ∧ nn + lv.length + nx.length ≤ L ∧ OwnE w B2 31 w_ A2 c2 nx ∧ Lv w w_ A1 lv B2 ∧ B2 ≤ w_.heap.size ∧ env_ 1 = .int .i64 ((L : Nat) : Int) ∧ env_ 5 = .int .i64 ((nn + lv.length : Nat) : Int) ∧ env_ 6 = .slice A1 lv.length c1 ∧ env_ 7 = .int .i64 ((dp : Nat) : Int) ∧ env_ 8 = .slice A2 nx.length c2 ∧ env_ 9 = .int .i64 ((i : Nat) : Int)) (fun x_ => match x_ with | (i, nx, A2, c2) => lv.length - i) (0, [], none, 0) ⟨x8, Nat.zero_le _, (by simp; omega), OwnE.nil, lvB_, (by omega), e13, rfl, e15, e16, rfl, rfl⟩ ?_
        rintro ⟨i, nx, A2, c2⟩ env22 w20 ⟨x21, i23, i24, i25, i26, i27, e28, e29, e30, e31, e32, e33⟩
        have hB2 := i27
        refine c_seq ?_
        refine c_seq ?_
        refine c_reg ?_
        refine s_move (v := .int .i64 ((i : Nat) : Int)) (ev_t rfl e33) (w0 rfl) ?_
        refine s_move (v := .slice A1 lv.length c1) (ev_t rfl e30) (w0 rfl) ?_
        refine s_lenL F_l29 (ev_t rfl rfl) (w0 rfl) ?_
        refine s_cmp (r := decide (((i : Nat) : Int) < (lv.length : Int))) (ev_t rfl rfl) (ev_t rfl rfl) rfl (w0 rfl) ?_
        refine c_done ?_
        refine n_then ?_
        by_cases h34 : ((i : Nat) : Int) < (lv.length : Int)
        · refine c_cond1 (vb (ev_t rfl rfl) (decide_eq_true h34)) ?_
          refine c_skip ?_
          refine n_then ?_
          refine c_seq ?_
          refine c_block ?_
          refine c_seq ?_
          refine c_seq ?_
          refine c_reg ?_
          refine s_move (v := .int .i64 ((nn + lv.length : Nat) : Int)) (ev_t rfl e29) (w0 rfl) ?_
          refine s_move (v := .slice A2 nx.length c2) (ev_t rfl e32) (w0 rfl) ?_
          refine s_lenL F_l29 (ev_t rfl rfl) (w0 rfl) ?_
          refine s_add (r := ((nn + lv.length + nx.length : Nat) : Int)) (ev_t rfl rfl) (ev_t rfl rfl) (by omega) (by omega) (w0 rfl) ?_
          refine s_move (v := .slice A1 lv.length c1) (ev_t rfl e30) (w0 rfl) ?_
          refine s_move (v := .int .i64 ((i : Nat) : Int)) (ev_t rfl e33) (w0 rfl) ?_
          obtain ⟨b35, o36, x37, csx37, hA38, hx39, hR40, hc41⟩ := Row.at_ (Lv.row i26) i (by omega)
          obtain rfl := exAt_of hx39
          obtain ⟨A42, c43, rfl, ho44, hr45⟩ := RE.open_ hR40
          have hkc46 := Ex.okc.c ho44
          refine s_indexR (j := i) F_l29 (ev_t rfl rfl) hA38 (ev_t rfl rfl) rfl (by omega) (w0 rfl) ?_
          refine s_field (off := 5) (o' := o36 + i * 6 + 5) F_f31_2 (ev_t rfl rfl) rfl (w0 rfl) ?_
          refine s_load (v := .slice A42 ((exAt lv i).kids.length) c43) F_o29 (ev_t rfl rfl) (hc41 5 _ rfl) (w0 rfl) ?_
          refine s_lenL F_l29 (ev_t rfl rfl) (w0 rfl) ?_
          refine s_add (r := ((nn + lv.length + nx.length + (exAt lv i).kids.length : Nat) : Int)) (ev_t rfl rfl) (ev_t rfl rfl) (by omega) (by omega) (w0 rfl) ?_
          refine s_move (v := .int .i64 ((L : Nat) : Int)) (ev_t rfl e28) (w0 rfl) ?_
          refine s_cmp (r := decide (((L : Nat) : Int) < ((nn + lv.length + nx.length + (exAt lv i).kids.length : Nat) : Int))) (ev_t rfl rfl) (ev_t rfl rfl) rfl (w0 rfl) ?_
          refine c_done ?_
          refine n_then ?_
          by_cases h47 : ((L : Nat) : Int) < ((nn + lv.length + nx.length + (exAt lv i).kids.length : Nat) : Int)
          · refine c_cond1 (vb (ev_t rfl rfl) (decide_eq_true h47)) ?_
            refine c_seq ?_
            refine c_reg ?_
            refine s_move (v := .int .i64 ((L : Nat) : Int)) (ev_t rfl e28) (w0 rfl) ?_
            refine s_add (r := ((L + 1 : Nat) : Int)) (ev_t rfl rfl) ev_c (by omega) (by omega) (w0 rfl) ?_
            refine s_assign (v := .int .i64 ((L + 1 : Nat) : Int)) (ev_t rfl rfl) (w0 rfl) ?_
            refine c_done ?_
            refine n_then ?_
            refine c_ret ?_
            refine r_then ?_
            refine r_block ?_
            refine r_then ?_
            refine r_then ?_
            refine r_block ?_
            refine r_then ?_
            refine r_block ?_
            refine r_then ?_
            refine r_then ?_
            refine r_block ?_
            refine r_then ?_
            refine ret1 (v := .int .i64 ((L + 1 : Nat) : Int)) rfl rfl rfl ?_
            exact ⟨_, rfl, ⟨_, rfl⟩, x21⟩
          · refine c_cond0 (vb (ev_t rfl rfl) (decide_eq_false h47)) ?_
            refine c_skip ?_
            refine n_then ?_
            refine c_seq ?_
            refine c_reg ?_
            refine s_assign (v := .int .i64 0) ev_c (w0 rfl) ?_
            refine c_done ?_
            refine n_then ?_
            refine c_block ?_
            refine c_loop (α := Nat × List Ex × Option Addr × Nat) (fun x_ env_ w_ => match x_ with | (k, nx, A2, c2) => Ext w w_ ∧ k ≤ (exAt lv i).kids.length ∧ nn + lv.length + nx.length + ((exAt lv i).kids.length - k) ≤ L ∧ OwnE w B2 31 w_ A2 c2 nx ∧ Lv w w_ A1 lv B2 ∧ B2 ≤ w_.heap.size ∧ env_ 1 = .int .i64 ((L : Nat) : Int) ∧ env_ 5 = .int .i64 ((nn + lv.length : Nat) : Int) ∧ env_ 6 = .slice A1 lv.length c1 ∧ env_ 7 = .int .i64 ((dp : Nat) : Int) ∧ env_ 8 = .slice A2 nx.length c2 ∧ env_ 9 = .int .i64 ((i : Nat) : Int) ∧ env_ 10 = .int .i64 ((k : Nat) : Int)) (fun x_ => match x_ with | (k, nx, A2, c2) => (exAt lv i).kids.length - k) (0, nx, A2, c2) ⟨x21, Nat.zero_le _, (by omega), i25, i26, (Nat.le_trans hB2 (Keep.size (Ext.refl _))), e28, e29, e30, e31, e32, e33, rfl⟩ ?_
            rintro ⟨k, nx, A2, c2⟩ env50 w48 ⟨x49, i51, i52, i53, i54, i55, e56, e57, e58, e59, e60, e61, e62⟩
            have hB2 := i55
            refine c_seq ?_
            refine c_seq ?_
            refine c_reg ?_
            refine s_move (v := .int .i64 ((k : Nat) : Int)) (ev_t rfl e62) (w0 rfl) ?_
            refine s_move (v := .slice A1 lv.length c1) (ev_t rfl e58) (w0 rfl) ?_
            refine s_move (v := .int .i64 ((i : Nat) : Int)) (ev_t rfl e61) (w0 rfl) ?_
            obtain ⟨b63, o64, x65, csx65, hA66, hx67, hR68, hc69⟩ := Row.at_ (Lv.row i54) i (by omega)
            obtain rfl := exAt_of hx67
            obtain ⟨A70, c71, rfl, ho72, hr73⟩ := RE.open_ hR68
            have hkc74 := Ex.okc.c ho72
            refine s_indexR (j := i) F_l29 (ev_t rfl rfl) hA66 (ev_t rfl rfl) rfl (by omega) (w0 rfl) ?_
            refine s_field (off := 5) (o' := o64 + i * 6 + 5) F_f31_2 (ev_t rfl rfl) rfl (w0 rfl) ?_
            refine s_load (v := .slice A70 ((exAt lv i).kids.length) c71) F_o29 (ev_t rfl rfl) (hc69 5 _ rfl) (w0 rfl) ?_
            refine s_lenL F_l29 (ev_t rfl rfl) (w0 rfl) ?_
            refine s_cmp (r := decide (((k : Nat) : Int) < ((exAt lv i).kids.length : Int))) (ev_t rfl rfl) (ev_t rfl rfl) rfl (w0 rfl) ?_
            refine c_done ?_
            refine n_then ?_
            by_cases h75 : ((k : Nat) : Int) < ((exAt lv i).kids.length : Int)
            · refine c_cond1 (vb (ev_t rfl rfl) (decide_eq_true h75)) ?_
              refine c_skip ?_
              refine n_then ?_
              refine c_seq ?_
              refine c_block ?_
              refine c_reg ?_
              refine s_move (v := .slice A2 nx.length c2) (ev_t rfl e60) (w0 rfl) ?_
              refine s_move (v := .slice A1 lv.length c1) (ev_t rfl e58) (w0 rfl) ?_
              refine s_move (v := .int .i64 ((i : Nat) : Int)) (ev_t rfl e61) (w0 rfl) ?_
              obtain ⟨b76, o77, x78, csx78, hA79, hx80, hR81, hc82⟩ := Row.at_ (Lv.row i54) i (by omega)
              obtain rfl := exAt_of hx80
              obtain ⟨A83, c84, rfl, ho85, hr86⟩ := RE.open_ hR81
              have hkc87 := Ex.okc.c ho85
              refine s_indexR (j := i) F_l29 (ev_t rfl rfl) hA79 (ev_t rfl rfl) rfl (by omega) (w0 rfl) ?_
              refine s_field (off := 5) (o' := o77 + i * 6 + 5) F_f31_2 (ev_t rfl rfl) rfl (w0 rfl) ?_
              refine s_load (v := .slice A83 ((exAt lv i).kids.length) c84) F_o29 (ev_t rfl rfl) (hc82 5 _ rfl) (w0 rfl) ?_
              refine s_move (v := .int .i64 ((k : Nat) : Int)) (ev_t rfl e62) (w0 rfl) ?_
              obtain ⟨b88, o89, x90, csx90, hA91, hx92, hR93, hc94⟩ := Row.at_ hr86 k (by omega)
              obtain rfl := Ex.kid_of hx92
              obtain ⟨A95, c96, rfl, ho97, hr98⟩ := RE.open_ hR93
              refine s_indexR (j := k) F_l29 (ev_t rfl rfl) hA91 (ev_t rfl rfl) rfl (by omega) (w0 rfl) ?_
              refine s_loadL (cs := [.int .i8 (((exAt lv i).kid k).op), .string (((exAt lv i).kid k).t.v), .int .i8 (((exAt lv i).kid k).t.l.k), .int .i64 (((exAt lv i).kid k).t.l.n), .string (((exAt lv i).kid k).t.l.s), .slice A95 (((exAt lv i).kid k).kids.length) c96]) (ca := #[.int .i8 (((exAt lv i).kid k).op), .string (((exAt lv i).kid k).t.v), .int .i8 (((exAt lv i).kid k).t.l.k), .int .i64 (((exAt lv i).kid k).t.l.n), .string (((exAt lv i).kid k).t.l.s), .slice A95 (((exAt lv i).kid k).kids.length) c96]) F_m31 (ev_t rfl rfl) rfl rfl (sub_cells (cells_ext x49 hc94) 0 (cs2 := [.int .i8 (((exAt lv i).kid k).op), .string (((exAt lv i).kid k).t.v), .int .i8 (((exAt lv i).kid k).t.l.k), .int .i64 (((exAt lv i).kid k).t.l.n), .string (((exAt lv i).kid k).t.l.s), .slice A95 (((exAt lv i).kid k).kids.length) c96]) rfl) (w0 rfl) ?_
              refine s_bslice (vs := [(0, .agg #[.int .i8 (((exAt lv i).kid k).op), .string (((exAt lv i).kid k).t.v), .int .i8 (((exAt lv i).kid k).t.l.k), .int .i64 (((exAt lv i).kid k).t.l.n), .string (((exAt lv i).kid k).t.l.s), .slice A95 (((exAt lv i).kid k).kids.length) c96])]) (cs := #[.int .i8 (((exAt lv i).kid k).op), .string (((exAt lv i).kid k).t.v), .int .i8 (((exAt lv i).kid k).t.l.k), .int .i64 (((exAt lv i).kid k).t.l.n), .string (((exAt lv i).kid k).t.l.s), .slice A95 (((exAt lv i).kid k).kids.length) c96]) (b1 (ev_t rfl rfl)) (bs29_1_0ii8_0s_0ii8_0ii64_0s_0s (((exAt lv i).kid k).op) (((exAt lv i).kid k).t.v) (((exAt lv i).kid k).t.l.k) (((exAt lv i).kid k).t.l.n) (((exAt lv i).kid k).t.l.s) A95 (((exAt lv i).kid k).kids.length) c96) (w0 rfl) ?_
              intro w100 g99 n101
              refine s_appendE (q := ((exAt lv i).kid k)) F_ul29 F_if31 rfl (ev_t rfl rfl) (OwnE.ext i53 (NewB.ext n101)) (ev_t rfl rfl) ho97 hr98 (NewB.blk n101) (by omega) (by omega) (Nat.le_trans hB2 (Keep.size (NewB.ext n101))) (w0 rfl) ?_
              intro A102 c103 w104 ow105 k106
              refine s_assign (v := .slice A102 (nx.length + 1) c103) (ev_t rfl rfl) (w0 rfl) ?_
              refine c_done ?_
              refine n_block ?_
              refine n_then ?_
              refine c_reg ?_
              refine s_move (v := .int .i64 ((k : Nat) : Int)) (ev_t rfl e62) (w0 rfl) ?_
              refine s_add (r := ((k + 1 : Nat) : Int)) (ev_t rfl rfl) ev_c (by omega) (by omega) (w0 rfl) ?_
              refine s_assign (v := .int .i64 ((k + 1 : Nat) : Int)) (ev_t rfl rfl) (w0 rfl) ?_
              refine c_done ?_
              exact ⟨(k + 1, (nx ++ [((exAt lv i).kid k)]), A102, c103), _, rfl, ⟨(Keep.then_ (Ext.trans x49 (NewB.ext n101)) k106 (fun i_ hi_ h_ => by have a_ := geB2; omega)), by omega, (by simp only [List.length_append, List.length_singleton]; omega), ow105, (Lv.keep (Lv.ext i54 (NewB.ext n101)) k106), (by have a_ := Keep.size (NewB.ext n101); have b_ := Keep.size k106; omega), e56, e57, e58, e59, (by rw [List.length_append]; rfl), e61, rfl⟩, (show (exAt lv i).kids.length - (k + 1) < (exAt lv i).kids.length - k by omega)⟩
            · refine c_cond0 (vb (ev_t rfl rfl) (decide_eq_false h75)) ?_
              refine c_exit ?_
              refine e_then ?_
              refine e_then ?_
              refine e_hit ?_
              refine n_block ?_
              refine n_then ?_
              refine c_reg ?_
              refine s_move (v := .int .i64 ((i : Nat) : Int)) (ev_t rfl e61) (w0 rfl) ?_
              refine s_add (r := ((i + 1 : Nat) : Int)) (ev_t rfl rfl) ev_c (by omega) (by omega) (w0 rfl) ?_
              refine s_assign (v := .int .i64 ((i + 1 : Nat) : Int)) (ev_t rfl rfl) (w0 rfl) ?_
              refine c_done ?_
              exact ⟨(i + 1, nx, A2, c2), _, rfl, ⟨x49, by omega, by omega, i53, i54, (Nat.le_trans hB2 (Keep.size (Ext.refl _))), e56, e57, e58, e59, e60, rfl⟩, (show lv.length - (i + 1) < lv.length - i by omega)⟩
        · refine c_cond0 (vb (ev_t rfl rfl) (decide_eq_false h34)) ?_
          refine c_exit ?_
          refine e_then ?_
          refine e_then ?_
          refine e_hit ?_
          refine n_then ?_
          refine c_reg ?_
          refine s_move (v := .slice A2 nx.length c2) (ev_t rfl e32) (w0 rfl) ?_
          refine s_assign (v := .slice A2 nx.length c2) (ev_t rfl rfl) (w0 rfl) ?_
          refine c_done ?_
          refine n_block ?_
          refine n_then ?_
          refine c_reg ?_
          refine s_move (v := .int .i64 ((dp : Nat) : Int)) (ev_t rfl e31) (w0 rfl) ?_
          refine s_add (r := ((dp + 1 : Nat) : Int)) (ev_t rfl rfl) ev_c (by omega) (by omega) (w0 rfl) ?_
          refine s_assign (v := .int .i64 ((dp + 1 : Nat) : Int)) (ev_t rfl rfl) (w0 rfl) ?_
          refine c_done ?_
          exact ⟨(nx, A2, c2, nn + lv.length, dp + 1), _, rfl, ⟨x21, by omega, by omega, (OwnE.lv i25), e28, e29, rfl, rfl⟩, (show 65536 - (dp + 1) < 65536 - dp by omega)⟩
  · refine c_cond0 (vb (ev_t rfl rfl) (decide_eq_false h17)) ?_
    refine c_exit ?_
    refine e_then ?_
    refine e_then ?_
    refine e_hit ?_
    refine n_then ?_
    refine c_seq ?_
    refine c_reg ?_
    refine s_move (v := .int .i64 ((nn : Nat) : Int)) (ev_t rfl e14) (w0 rfl) ?_
    refine s_assign (v := .int .i64 ((nn : Nat) : Int)) (ev_t rfl rfl) (w0 rfl) ?_
    refine c_done ?_
    refine n_then ?_
    refine c_ret ?_
    refine ret1 (v := .int .i64 ((nn : Nat) : Int)) rfl rfl rfl ?_
    exact ⟨_, rfl, ⟨_, rfl⟩, x8⟩
set_option maxHeartbeats 4000000 in
theorem l_BeyondExpr (x : Ex) (A : Option Addr) (c : Nat) (w : World) (ho : x.okc c) (hr : Row RE 6 w A x.kids) :
    Rt Tryd.prog 6 #[.agg #[.int .i8 x.op, .string x.t.v, .int .i8 x.t.l.k, .int .i64 x.t.l.n, .string x.t.l.s, .slice A x.kids.length c]] w fun v w' => (∃ b : Bool, v = .bool b) ∧ Ext w w' := by
  refine enter Tryd.func6 rfl (l := [.agg #[.int .i8 x.op, .string x.t.v, .int .i8 x.t.l.k, .int .i64 x.t.l.n, .string x.t.l.s, .slice A x.kids.length c]]) rfl Tryd.ntmps6 (Nat.le_of_ble_eq_true rfl) ?_
  have hl_ := Ex.okc.l ho
  have hc_ := Ex.okc.c ho
  refine c_seq ?_
  refine c_reg ?_
  refine s_box (v := .agg #[.int .i8 x.op, .string x.t.v, .int .i8 x.t.l.k, .int .i64 x.t.l.n, .string x.t.l.s, .slice A x.kids.length c]) (cs := #[.int .i8 x.op, .string x.t.v, .int .i8 x.t.l.k, .int .i64 x.t.l.n, .string x.t.l.s, .slice A x.kids.length c]) (w0 rfl) (ev_t rfl rfl) rfl ?_
  intro w2 g1 n3
  refine s_assign (v := .bool false) ev_c (w0 rfl) ?_
  refine c_done ?_
  refine n_then ?_
  refine c_seq ?_
  refine c_reg ?_
  refine s_loadL (cs := [.int .i8 x.op, .string x.t.v, .int .i8 x.t.l.k, .int .i64 x.t.l.n, .string x.t.l.s, .slice A x.kids.length c]) (ca := #[.int .i8 x.op, .string x.t.v, .int .i8 x.t.l.k, .int .i64 x.t.l.n, .string x.t.l.s, .slice A x.kids.length c]) F_m31 (ev_t rfl rfl) rfl rfl (blk_cells (NewB.blk n3) 0 (cs := [.int .i8 x.op, .string x.t.v, .int .i8 x.t.l.k, .int .i64 x.t.l.n, .string x.t.l.s, .slice A x.kids.length c]) rfl) (w0 rfl) ?_
  refine s_call F_e18 (w0 rfl) ev_f (m2 (ev_t rfl rfl) ev_c) (args := #[.agg #[.int .i8 x.op, .string x.t.v, .int .i8 x.t.l.k, .int .i64 x.t.l.n, .string x.t.l.s, .slice A x.kids.length c], .int .i64 1048576]) rfl (l_ExprParts x A c 1048576 _ ho (Row.extE hr (NewB.ext n3)) (by omega)) ?_
  rintro _ w5 ⟨⟨z4, rfl⟩, x6⟩
  refine s_cmp (r := decide (1048576 < z4)) (ev_t rfl rfl) ev_c rfl (w0 rfl) ?_
  refine s_assign (v := .bool (decide (1048576 < z4))) (ev_t rfl rfl) (w0 rfl) ?_
  refine c_done ?_
  refine n_then ?_
  refine c_ret ?_
  refine ret1 (v := .bool (decide (1048576 < z4))) rfl rfl rfl ?_
  exact ⟨_, rfl, ⟨_, rfl⟩, (Ext.trans (NewB.ext n3) x6)⟩
end Go.Proofs.Dw
