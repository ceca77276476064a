/- YtjjkfbjidpolmaaDoorDI: part of the proof of this seat, by an AI agent: walks of the functions that the law reaches. No condition of its own but those that its theorems state. -/
import Derived.Test.YtjjkfbjidpolmaaDoorDH
import Derived.Test.YtjjkfbjidpolmaaDoorShelf
set_option linter.unusedVariables false
set_option linter.unusedSimpArgs false
set_option maxRecDepth 10000
namespace Go.Proofs.Dw
open Go Go.Wk Go.Proofs Go.Lib
attribute [local irreducible] Go.wpList Go.wpStill Go.wpQuiet Go.Code.wp Go.Calls
theorem F_e100 : enterable Tryd.prog 100 = true := by kernel_rfl
theorem F_e115 : enterable Tryd.prog 115 = true := by kernel_rfl
theorem F_e36 : enterable Tryd.prog 36 = true := by kernel_rfl
theorem F_e98 : enterable Tryd.prog 98 = true := by kernel_rfl
theorem F_e99 : enterable Tryd.prog 99 = true := by kernel_rfl
theorem F_lies83 : liesAt Tryd.prog Tryd.prog.depth 83 (2 / Tryd.prog.cellsOf 83) 0 83 1 = true := by kernel_rfl
theorem F_z83 : (Tryd.prog.info? 83).bind (·.zero) = some (.agg #[.pointer none, .slice none 0 0]) := by kernel_rfl
set_option maxHeartbeats 4000000 in
theorem v_quoted (s : ByteArray) (w : World) (hs : s.size ≤ 1000000) :
    Rt Tryd.prog 100 #[.string s] w fun v w' => v = .string (quotB s) ∧ Ext w w' := by
  refine enter Tryd.func100 rfl (l := [.string s]) rfl Tryd.ntmps100 (Nat.le_of_ble_eq_true rfl) ?_
  refine c_seq ?_
  refine c_reg ?_
  refine s_assign (v := .string (⟨#[]⟩ : ByteArray)) ev_c (w0 rfl) ?_
  refine c_done ?_
  refine n_then ?_
  refine c_seq ?_
  refine c_reg ?_
  refine s_alloc (cs := #[.pointer none, .slice none 0 0]) (w0 rfl) F_z83 rfl ?_
  intro w2 g1 n3
  have bw_ : BW 5 83 w.heap.size w2 g1 ⟨#[]⟩ := BW.new n3 rfl (by decide) (Keep.size (Ext.refl w))
  have hB_ := Keep.size (NewB.ext n3)
  refine c_done ?_
  refine n_then ?_
  refine c_seq ?_
  refine c_reg ?_
  refine s_call F_e115 (w0 rfl) ev_f (m2 (ev_t rfl rfl) ev_c) (args := #[.pointer (some ⟨g1, 0, none⟩), .int .u8 34]) rfl (b_WriteByte 83 _ g1 ((⟨#[]⟩ : ByteArray)) 34 _ bw_ hB_ F_lies83 (by simp only [ByteArray.size_append, strL_size, z0, z1, z2, z3, z4, z5, z6]; omega)) ?_
  rintro _ w4 ⟨rfl, wr5⟩
  refine c_done ?_
  refine n_then ?_
  refine c_seq ?_
  refine c_seq ?_
  refine c_reg ?_
  refine s_move (v := .string s) (ev_t rfl rfl) (w0 rfl) ?_
  refine s_sbytesF F_us9 F_ul81 F_ui5 (ev_t rfl rfl) (w0 rfl) ?_
  intro w8 g6 c7 sb9 x10
  have ne_g6 := SBf.ne sb9 (BW.ext (Wr.bw wr5) x10)
  refine s_lenL F_l81 (ev_t rfl rfl) (w0 rfl) ?_
  refine s_move (v := .int .i64 0) ev_c (w0 rfl) ?_
  refine c_done ?_
  refine n_then ?_
  refine c_block ?_
  refine c_loop (α := Nat) (fun (i : Nat) env_ w_ => Wr 5 83 w.heap.size g1 (strL (quotL s i)) w2 w_ ∧ i ≤ s.size ∧ SBf 5 w_ g6 s ∧ env_ 2 = .string (⟨#[]⟩ : ByteArray) ∧ env_ 3 = .pointer (some ⟨g1, 0, none⟩) ∧ env_ 8 = .slice (some ⟨g6, 0, none⟩) s.size c7 ∧ env_ 9 = .int .i64 (s.size : Int) ∧ env_ 10 = .int .i64 ((i : Nat) : Int)) (fun i => s.size - i) (0) ⟨(Wr.cast (Wr.ext wr5 x10 hB_) (by rw [nil_app]; rfl)), Nat.zero_le _, sb9, rfl, rfl, rfl, rfl, rfl⟩ ?_
  rintro i env13 w11 ⟨x12, i14, i15, e16, e17, e18, e19, e20⟩
  have hq_ := quotL_le s i
  have hb_ := byteAt_lt s i
  refine c_seq ?_
  refine c_reg ?_
  refine s_cmp (r := decide (((i : Nat) : Int) < (s.size : Int))) (ev_t rfl e20) (ev_t rfl e19) rfl (w0 rfl) ?_
  refine c_done ?_
  refine n_then ?_
  refine c_seq ?_
  by_cases h21 : ((i : Nat) : Int) < (s.size : Int)
  · refine c_cond1 (vb (ev_t rfl rfl) (decide_eq_true h21)) ?_
    refine c_skip ?_
    refine n_then ?_
    refine c_seq ?_
    refine c_block ?_
    refine c_seq ?_
    refine c_reg ?_
    refine s_indexR (j := i) F_l81 (ev_t rfl e18) rfl (ev_t rfl e20) rfl (by omega) (w0 rfl) ?_
    refine s_load (v := .int .u8 (byteAt s i : Int)) F_o5 (ev_t rfl rfl) (SBf.sb i15 i (by omega)) (w0 rfl) ?_
    refine s_assign (v := .int .u8 (byteAt s i : Int)) (ev_t rfl rfl) (w0 rfl) ?_
    refine c_done ?_
    refine n_then ?_
    refine c_block ?_
    refine c_seq ?_
    refine c_reg ?_
    refine s_move (v := .int .u8 (byteAt s i : Int)) (ev_t rfl rfl) (w0 rfl) ?_
    refine s_cmp (r := decide ((byteAt s i : Int) = 10)) (ev_t rfl rfl) ev_c rfl (w0 rfl) ?_
    refine s_assign (v := .bool (decide ((byteAt s i : Int) = 10))) (ev_t rfl rfl) (w0 rfl) ?_
    refine c_done ?_
    refine n_then ?_
    by_cases h22 : (byteAt s i : Int) = 10
    · refine c_cond1 (vb (ev_t rfl rfl) (decide_eq_true h22)) ?_
      refine c_reg ?_
      refine s_call F_e69 (w0 rfl) ev_f (m2 (ev_t rfl e17) ev_c) (args := #[.pointer (some ⟨g1, 0, none⟩), .string (⟨#[92, 110]⟩ : ByteArray)]) rfl (b_WriteString 83 _ g1 (strL (quotL s i)) (⟨#[92, 110]⟩ : ByteArray) _ (Wr.bw x12) (Nat.le_trans hB_ (Wr.size x12)) F_lies83 (by simp only [ByteArray.size_append, strL_size, z0, z1, z2, z3, z4, z5, z6]; omega)) ?_
      rintro _ w23 ⟨rfl, wr24⟩
      refine c_done ?_
      refine n_block ?_
      refine n_block ?_
      refine n_then ?_
      refine c_reg ?_
      refine s_add (r := ((i + 1 : Nat) : Int)) (ev_t rfl e20) ev_c (by omega) (by omega) (w0 rfl) ?_
      refine s_move (v := .int .i64 ((i + 1 : Nat) : Int)) (ev_t rfl rfl) (w0 rfl) ?_
      refine c_done ?_
      exact ⟨(i + 1), _, rfl, ⟨(Wr.cast (Wr.then_ x12 wr24) (by simp only [app1, app2]; rw [quotL_step s i (by omega) (l := [92, 110]) (by unfold encB; have e_ : (s.data.getD i 0).toNat = byteAt s i := rfl; rw [e_]; (repeat' split) <;> first | rfl | omega | (exfalso; omega))]; try simp)), by omega, (SBf.wr i15 wr24 ne_g6), e16, e17, e18, e19, rfl⟩, (show s.size - (i + 1) < s.size - i by omega)⟩
    · refine c_cond0 (vb (ev_t rfl rfl) (decide_eq_false h22)) ?_
      refine c_seq ?_
      refine c_seq ?_
      refine c_reg ?_
      refine s_move (v := .int .u8 (byteAt s i : Int)) (ev_t rfl rfl) (w0 rfl) ?_
      refine s_cmp (r := decide ((byteAt s i : Int) = 34)) (ev_t rfl rfl) ev_c rfl (w0 rfl) ?_
      refine s_assign (v := .bool (decide ((byteAt s i : Int) = 34))) (ev_t rfl rfl) (w0 rfl) ?_
      refine c_done ?_
      refine n_then ?_
      by_cases h25 : (byteAt s i : Int) = 34
      · refine c_cond1 (vb (ev_t rfl rfl) (decide_eq_true h25)) ?_
        refine c_skip ?_
        refine n_then ?_
        refine c_cond1 (vb (ev_t rfl rfl) (decide_eq_true h25)) ?_
        refine c_seq ?_
        refine c_reg ?_
        refine s_call F_e115 (w0 rfl) ev_f (m2 (ev_t rfl e17) ev_c) (args := #[.pointer (some ⟨g1, 0, none⟩), .int .u8 92]) rfl (b_WriteByte 83 _ g1 (strL (quotL s i)) 92 _ (Wr.bw x12) (Nat.le_trans hB_ (Wr.size x12)) F_lies83 (by simp only [ByteArray.size_append, strL_size, z0, z1, z2, z3, z4, z5, z6]; omega)) ?_
        rintro _ w26 ⟨rfl, wr27⟩
        refine c_done ?_
        refine n_then ?_
        refine c_reg ?_
        refine s_move (v := .int .u8 (byteAt s i : Int)) (ev_t rfl rfl) (w0 rfl) ?_
        refine s_call F_e115 (w0 rfl) ev_f (m2 (ev_t rfl e17) (ev_t rfl rfl)) (args := #[.pointer (some ⟨g1, 0, none⟩), .int .u8 (byteAt s i : Int)]) rfl (b_WriteByte 83 _ g1 (strL (quotL s i) ++ (⟨#[92]⟩ : ByteArray)) (s.data.getD i 0) _ (Wr.bw wr27) (Nat.le_trans (Nat.le_trans hB_ (Wr.size x12)) (Wr.size wr27)) F_lies83 (by simp only [ByteArray.size_append, strL_size, z0, z1, z2, z3, z4, z5, z6]; omega)) ?_
        rintro _ w28 ⟨rfl, wr29⟩
        refine c_done ?_
        refine n_block ?_
        refine n_block ?_
        refine n_then ?_
        refine c_reg ?_
        refine s_add (r := ((i + 1 : Nat) : Int)) (ev_t rfl e20) ev_c (by omega) (by omega) (w0 rfl) ?_
        refine s_move (v := .int .i64 ((i + 1 : Nat) : Int)) (ev_t rfl rfl) (w0 rfl) ?_
        refine c_done ?_
        exact ⟨(i + 1), _, rfl, ⟨(Wr.cast (Wr.then_ (Wr.then_ x12 wr27) wr29) (by simp only [app1, app2]; rw [quotL_step s i (by omega) (l := [92, (s.data.getD i 0)]) (by unfold encB; have e_ : (s.data.getD i 0).toNat = byteAt s i := rfl; rw [e_]; (repeat' split) <;> first | rfl | omega | (exfalso; omega))]; try simp)), by omega, (SBf.wr (SBf.wr i15 wr27 ne_g6) wr29 ne_g6), e16, e17, e18, e19, rfl⟩, (show s.size - (i + 1) < s.size - i by omega)⟩
      · refine c_cond0 (vb (ev_t rfl rfl) (decide_eq_false h25)) ?_
        refine c_reg ?_
        refine s_move (v := .int .u8 (byteAt s i : Int)) (ev_t rfl rfl) (w0 rfl) ?_
        refine s_cmp (r := decide ((byteAt s i : Int) = 92)) (ev_t rfl rfl) ev_c rfl (w0 rfl) ?_
        refine s_assign (v := .bool (decide ((byteAt s i : Int) = 92))) (ev_t rfl rfl) (w0 rfl) ?_
        refine c_done ?_
        refine n_then ?_
        by_cases h30 : (byteAt s i : Int) = 92
        · refine c_cond1 (vb (ev_t rfl rfl) (decide_eq_true h30)) ?_
          refine c_seq ?_
          refine c_reg ?_
          refine s_call F_e115 (w0 rfl) ev_f (m2 (ev_t rfl e17) ev_c) (args := #[.pointer (some ⟨g1, 0, none⟩), .int .u8 92]) rfl (b_WriteByte 83 _ g1 (strL (quotL s i)) 92 _ (Wr.bw x12) (Nat.le_trans hB_ (Wr.size x12)) F_lies83 (by simp only [ByteArray.size_append, strL_size, z0, z1, z2, z3, z4, z5, z6]; omega)) ?_
          rintro _ w31 ⟨rfl, wr32⟩
          refine c_done ?_
          refine n_then ?_
          refine c_reg ?_
          refine s_move (v := .int .u8 (byteAt s i : Int)) (ev_t rfl rfl) (w0 rfl) ?_
          refine s_call F_e115 (w0 rfl) ev_f (m2 (ev_t rfl e17) (ev_t rfl rfl)) (args := #[.pointer (some ⟨g1, 0, none⟩), .int .u8 (byteAt s i : Int)]) rfl (b_WriteByte 83 _ g1 (strL (quotL s i) ++ (⟨#[92]⟩ : ByteArray)) (s.data.getD i 0) _ (Wr.bw wr32) (Nat.le_trans (Nat.le_trans hB_ (Wr.size x12)) (Wr.size wr32)) F_lies83 (by simp only [ByteArray.size_append, strL_size, z0, z1, z2, z3, z4, z5, z6]; omega)) ?_
          rintro _ w33 ⟨rfl, wr34⟩
          refine c_done ?_
          refine n_block ?_
          refine n_block ?_
          refine n_then ?_
          refine c_reg ?_
          refine s_add (r := ((i + 1 : Nat) : Int)) (ev_t rfl e20) ev_c (by omega) (by omega) (w0 rfl) ?_
          refine s_move (v := .int .i64 ((i + 1 : Nat) : Int)) (ev_t rfl rfl) (w0 rfl) ?_
          refine c_done ?_
          exact ⟨(i + 1), _, rfl, ⟨(Wr.cast (Wr.then_ (Wr.then_ x12 wr32) wr34) (by simp only [app1, app2]; rw [quotL_step s i (by omega) (l := [92, (s.data.getD i 0)]) (by unfold encB; have e_ : (s.data.getD i 0).toNat = byteAt s i := rfl; rw [e_]; (repeat' split) <;> first | rfl | omega | (exfalso; omega))]; try simp)), by omega, (SBf.wr (SBf.wr i15 wr32 ne_g6) wr34 ne_g6), e16, e17, e18, e19, rfl⟩, (show s.size - (i + 1) < s.size - i by omega)⟩
        · refine c_cond0 (vb (ev_t rfl rfl) (decide_eq_false h30)) ?_
          refine c_seq ?_
          refine c_reg ?_
          refine s_move (v := .int .u8 (byteAt s i : Int)) (ev_t rfl rfl) (w0 rfl) ?_
          refine s_cmp (r := decide ((byteAt s i : Int) < 32)) (ev_t rfl rfl) ev_c rfl (w0 rfl) ?_
          by_cases h35 : (byteAt s i : Int) < 32
          · refine s_move (v := .bool true) (vb (ev_t rfl rfl) (decide_eq_true h35)) (w0 rfl) ?_
            refine s_skip (wn rfl rfl rfl rfl rfl) ?_
            refine s_skip (wn rfl rfl rfl rfl rfl) ?_
            refine s_pick1 (v := .bool true) (ev_t rfl rfl) ev_c (w0 rfl) ?_
            refine s_assign (v := .bool true) (ev_t rfl rfl) (w0 rfl) ?_
            refine c_done ?_
            refine n_then ?_
            refine c_cond1 (ev_t rfl rfl) ?_
            refine c_seq ?_
            refine c_reg ?_
            refine s_call F_e69 (w0 rfl) ev_f (m2 (ev_t rfl e17) ev_c) (args := #[.pointer (some ⟨g1, 0, none⟩), .string (⟨#[92, 120]⟩ : ByteArray)]) rfl (b_WriteString 83 _ g1 (strL (quotL s i)) (⟨#[92, 120]⟩ : ByteArray) _ (Wr.bw x12) (Nat.le_trans hB_ (Wr.size x12)) F_lies83 (by simp only [ByteArray.size_append, strL_size, z0, z1, z2, z3, z4, z5, z6]; omega)) ?_
            rintro _ w36 ⟨rfl, wr37⟩
            refine c_done ?_
            refine n_then ?_
            refine c_seq ?_
            refine c_reg ?_
            refine s_move (v := .int .u8 (byteAt s i : Int)) (ev_t rfl rfl) (w0 rfl) ?_
            refine s_shr4 (m := byteAt s i) (ev_t rfl rfl) ev_c (by omega) (w0 rfl) ?_
            refine s_byte (j := (byteAt s i) / 16) F_us9 ev_c (ev_t rfl rfl) rfl (Nat.lt_of_lt_of_le (show (byteAt s i) / 16 < 16 by omega) (by decide)) (w0 rfl) ?_
            refine s_call F_e115 (w0 rfl) ev_f (m2 (ev_t rfl e17) (ev_t rfl rfl)) (args := #[.pointer (some ⟨g1, 0, none⟩), .int .u8 (byteAt (⟨#[48, 49, 50, 51, 52, 53, 54, 55, 56, 57, 97, 98, 99, 100, 101, 102]⟩ : ByteArray) ((byteAt s i) / 16) : Int)]) rfl (b_WriteByte 83 _ g1 (strL (quotL s i) ++ (⟨#[92, 120]⟩ : ByteArray)) ((⟨#[48, 49, 50, 51, 52, 53, 54, 55, 56, 57, 97, 98, 99, 100, 101, 102]⟩ : ByteArray).data.getD ((byteAt s i) / 16) 0) _ (Wr.bw wr37) (Nat.le_trans (Nat.le_trans hB_ (Wr.size x12)) (Wr.size wr37)) F_lies83 (by simp only [ByteArray.size_append, strL_size, z0, z1, z2, z3, z4, z5, z6]; omega)) ?_
            rintro _ w38 ⟨rfl, wr39⟩
            refine c_done ?_
            refine n_then ?_
            refine c_reg ?_
            refine s_move (v := .int .u8 (byteAt s i : Int)) (ev_t rfl rfl) (w0 rfl) ?_
            refine s_and15 (m := byteAt s i) (ev_t rfl rfl) ev_c (by omega) (w0 rfl) ?_
            refine s_byte (j := (byteAt s i) % 16) F_us9 ev_c (ev_t rfl rfl) rfl (Nat.lt_of_lt_of_le (show (byteAt s i) % 16 < 16 by omega) (by decide)) (w0 rfl) ?_
            refine s_call F_e115 (w0 rfl) ev_f (m2 (ev_t rfl e17) (ev_t rfl rfl)) (args := #[.pointer (some ⟨g1, 0, none⟩), .int .u8 (byteAt (⟨#[48, 49, 50, 51, 52, 53, 54, 55, 56, 57, 97, 98, 99, 100, 101, 102]⟩ : ByteArray) ((byteAt s i) % 16) : Int)]) rfl (b_WriteByte 83 _ g1 (strL (quotL s i) ++ (⟨#[92, 120]⟩ : ByteArray) ++ (⟨#[((⟨#[48, 49, 50, 51, 52, 53, 54, 55, 56, 57, 97, 98, 99, 100, 101, 102]⟩ : ByteArray).data.getD ((byteAt s i) / 16) 0)]⟩ : ByteArray)) ((⟨#[48, 49, 50, 51, 52, 53, 54, 55, 56, 57, 97, 98, 99, 100, 101, 102]⟩ : ByteArray).data.getD ((byteAt s i) % 16) 0) _ (Wr.bw wr39) (Nat.le_trans (Nat.le_trans (Nat.le_trans hB_ (Wr.size x12)) (Wr.size wr37)) (Wr.size wr39)) F_lies83 (by simp only [ByteArray.size_append, strL_size, z0, z1, z2, z3, z4, z5, z6]; omega)) ?_
            rintro _ w40 ⟨rfl, wr41⟩
            refine c_done ?_
            refine n_block ?_
            refine n_block ?_
            refine n_then ?_
            refine c_reg ?_
            refine s_add (r := ((i + 1 : Nat) : Int)) (ev_t rfl e20) ev_c (by omega) (by omega) (w0 rfl) ?_
            refine s_move (v := .int .i64 ((i + 1 : Nat) : Int)) (ev_t rfl rfl) (w0 rfl) ?_
            refine c_done ?_
            exact ⟨(i + 1), _, rfl, ⟨(Wr.cast (Wr.then_ (Wr.then_ (Wr.then_ x12 wr37) wr39) wr41) (by simp only [app1, app2]; rw [quotL_step s i (by omega) (l := [92, 120, ((⟨#[48, 49, 50, 51, 52, 53, 54, 55, 56, 57, 97, 98, 99, 100, 101, 102]⟩ : ByteArray).data.getD ((byteAt s i) / 16) 0), ((⟨#[48, 49, 50, 51, 52, 53, 54, 55, 56, 57, 97, 98, 99, 100, 101, 102]⟩ : ByteArray).data.getD ((byteAt s i) % 16) 0)]) (by unfold encB; have e_ : (s.data.getD i 0).toNat = byteAt s i := rfl; rw [e_]; (repeat' split) <;> first | rfl | omega | (exfalso; omega))]; try simp)), by omega, (SBf.wr (SBf.wr (SBf.wr i15 wr37 ne_g6) wr39 ne_g6) wr41 ne_g6), e16, e17, e18, e19, rfl⟩, (show s.size - (i + 1) < s.size - i by omega)⟩
          · refine s_move (v := .bool false) (vb (ev_t rfl rfl) (decide_eq_false h35)) (w0 rfl) ?_
            refine s_move (v := .int .u8 (byteAt s i : Int)) (ev_t rfl rfl) (wy rfl rfl rfl rfl) ?_
            refine s_cmp (r := decide (126 < (byteAt s i : Int))) (ev_t rfl rfl) ev_c rfl (wy rfl rfl rfl rfl) ?_
            refine s_pick0 (v := .bool (decide (126 < (byteAt s i : Int)))) (ev_t rfl rfl) (ev_t rfl rfl) (w0 rfl) ?_
            refine s_assign (v := .bool (decide (126 < (byteAt s i : Int)))) (ev_t rfl rfl) (w0 rfl) ?_
            refine c_done ?_
            refine n_then ?_
            by_cases h42 : 126 < (byteAt s i : Int)
            · refine c_cond1 (vb (ev_t rfl rfl) (decide_eq_true h42)) ?_
              refine c_seq ?_
              refine c_reg ?_
              refine s_call F_e69 (w0 rfl) ev_f (m2 (ev_t rfl e17) ev_c) (args := #[.pointer (some ⟨g1, 0, none⟩), .string (⟨#[92, 120]⟩ : ByteArray)]) rfl (b_WriteString 83 _ g1 (strL (quotL s i)) (⟨#[92, 120]⟩ : ByteArray) _ (Wr.bw x12) (Nat.le_trans hB_ (Wr.size x12)) F_lies83 (by simp only [ByteArray.size_append, strL_size, z0, z1, z2, z3, z4, z5, z6]; omega)) ?_
              rintro _ w43 ⟨rfl, wr44⟩
              refine c_done ?_
              refine n_then ?_
              refine c_seq ?_
              refine c_reg ?_
              refine s_move (v := .int .u8 (byteAt s i : Int)) (ev_t rfl rfl) (w0 rfl) ?_
              refine s_shr4 (m := byteAt s i) (ev_t rfl rfl) ev_c (by omega) (w0 rfl) ?_
              refine s_byte (j := (byteAt s i) / 16) F_us9 ev_c (ev_t rfl rfl) rfl (Nat.lt_of_lt_of_le (show (byteAt s i) / 16 < 16 by omega) (by decide)) (w0 rfl) ?_
              refine s_call F_e115 (w0 rfl) ev_f (m2 (ev_t rfl e17) (ev_t rfl rfl)) (args := #[.pointer (some ⟨g1, 0, none⟩), .int .u8 (byteAt (⟨#[48, 49, 50, 51, 52, 53, 54, 55, 56, 57, 97, 98, 99, 100, 101, 102]⟩ : ByteArray) ((byteAt s i) / 16) : Int)]) rfl (b_WriteByte 83 _ g1 (strL (quotL s i) ++ (⟨#[92, 120]⟩ : ByteArray)) ((⟨#[48, 49, 50, 51, 52, 53, 54, 55, 56, 57, 97, 98, 99, 100, 101, 102]⟩ : ByteArray).data.getD ((byteAt s i) / 16) 0) _ (Wr.bw wr44) (Nat.le_trans (Nat.le_trans hB_ (Wr.size x12)) (Wr.size wr44)) F_lies83 (by simp only [ByteArray.size_append, strL_size, z0, z1, z2, z3, z4, z5, z6]; omega)) ?_
              rintro _ w45 ⟨rfl, wr46⟩
              refine c_done ?_
              refine n_then ?_
              refine c_reg ?_
              refine s_move (v := .int .u8 (byteAt s i : Int)) (ev_t rfl rfl) (w0 rfl) ?_
              refine s_and15 (m := byteAt s i) (ev_t rfl rfl) ev_c (by omega) (w0 rfl) ?_
              refine s_byte (j := (byteAt s i) % 16) F_us9 ev_c (ev_t rfl rfl) rfl (Nat.lt_of_lt_of_le (show (byteAt s i) % 16 < 16 by omega) (by decide)) (w0 rfl) ?_
              refine s_call F_e115 (w0 rfl) ev_f (m2 (ev_t rfl e17) (ev_t rfl rfl)) (args := #[.pointer (some ⟨g1, 0, none⟩), .int .u8 (byteAt (⟨#[48, 49, 50, 51, 52, 53, 54, 55, 56, 57, 97, 98, 99, 100, 101, 102]⟩ : ByteArray) ((byteAt s i) % 16) : Int)]) rfl (b_WriteByte 83 _ g1 (strL (quotL s i) ++ (⟨#[92, 120]⟩ : ByteArray) ++ (⟨#[((⟨#[48, 49, 50, 51, 52, 53, 54, 55, 56, 57, 97, 98, 99, 100, 101, 102]⟩ : ByteArray).data.getD ((byteAt s i) / 16) 0)]⟩ : ByteArray)) ((⟨#[48, 49, 50, 51, 52, 53, 54, 55, 56, 57, 97, 98, 99, 100, 101, 102]⟩ : ByteArray).data.getD ((byteAt s i) % 16) 0) _ (Wr.bw wr46) (Nat.le_trans (Nat.le_trans (Nat.le_trans hB_ (Wr.size x12)) (Wr.size wr44)) (Wr.size wr46)) F_lies83 (by simp only [ByteArray.size_append, strL_size, z0, z1, z2, z3, z4, z5, z6]; omega)) ?_
              rintro _ w47 ⟨rfl, wr48⟩
              refine c_done ?_
              refine n_block ?_
              refine n_block ?_
              refine n_then ?_
              refine c_reg ?_
              refine s_add (r := ((i + 1 : Nat) : Int)) (ev_t rfl e20) ev_c (by omega) (by omega) (w0 rfl) ?_
              refine s_move (v := .int .i64 ((i + 1 : Nat) : Int)) (ev_t rfl rfl) (w0 rfl) ?_
              refine c_done ?_
              exact ⟨(i + 1), _, rfl, ⟨(Wr.cast (Wr.then_ (Wr.then_ (Wr.then_ x12 wr44) wr46) wr48) (by simp only [app1, app2]; rw [quotL_step s i (by omega) (l := [92, 120, ((⟨#[48, 49, 50, 51, 52, 53, 54, 55, 56, 57, 97, 98, 99, 100, 101, 102]⟩ : ByteArray).data.getD ((byteAt s i) / 16) 0), ((⟨#[48, 49, 50, 51, 52, 53, 54, 55, 56, 57, 97, 98, 99, 100, 101, 102]⟩ : ByteArray).data.getD ((byteAt s i) % 16) 0)]) (by unfold encB; have e_ : (s.data.getD i 0).toNat = byteAt s i := rfl; rw [e_]; (repeat' split) <;> first | rfl | omega | (exfalso; omega))]; try simp)), by omega, (SBf.wr (SBf.wr (SBf.wr i15 wr44 ne_g6) wr46 ne_g6) wr48 ne_g6), e16, e17, e18, e19, rfl⟩, (show s.size - (i + 1) < s.size - i by omega)⟩
            · refine c_cond0 (vb (ev_t rfl rfl) (decide_eq_false h42)) ?_
              refine c_reg ?_
              refine s_move (v := .int .u8 (byteAt s i : Int)) (ev_t rfl rfl) (w0 rfl) ?_
              refine s_call F_e115 (w0 rfl) ev_f (m2 (ev_t rfl e17) (ev_t rfl rfl)) (args := #[.pointer (some ⟨g1, 0, none⟩), .int .u8 (byteAt s i : Int)]) rfl (b_WriteByte 83 _ g1 (strL (quotL s i)) (s.data.getD i 0) _ (Wr.bw x12) (Nat.le_trans hB_ (Wr.size x12)) F_lies83 (by simp only [ByteArray.size_append, strL_size, z0, z1, z2, z3, z4, z5, z6]; omega)) ?_
              rintro _ w49 ⟨rfl, wr50⟩
              refine c_done ?_
              refine n_block ?_
              refine n_block ?_
              refine n_then ?_
              refine c_reg ?_
              refine s_add (r := ((i + 1 : Nat) : Int)) (ev_t rfl e20) ev_c (by omega) (by omega) (w0 rfl) ?_
              refine s_move (v := .int .i64 ((i + 1 : Nat) : Int)) (ev_t rfl rfl) (w0 rfl) ?_
              refine c_done ?_
              exact ⟨(i + 1), _, rfl, ⟨(Wr.cast (Wr.then_ x12 wr50) (by simp only [app1, app2]; rw [quotL_step s i (by omega) (l := [(s.data.getD i 0)]) (by unfold encB; have e_ : (s.data.getD i 0).toNat = byteAt s i := rfl; rw [e_]; (repeat' split) <;> first | rfl | omega | (exfalso; omega))]; try simp)), by omega, (SBf.wr i15 wr50 ne_g6), e16, e17, e18, e19, rfl⟩, (show s.size - (i + 1) < s.size - i by omega)⟩
  · refine c_cond0 (vb (ev_t rfl rfl) (decide_eq_false h21)) ?_
    refine c_exit ?_
    refine e_then ?_
    refine e_then ?_
    refine e_hit ?_
    refine n_then ?_
    refine c_seq ?_
    refine c_reg ?_
    refine s_call F_e115 (w0 rfl) ev_f (m2 (ev_t rfl e17) ev_c) (args := #[.pointer (some ⟨g1, 0, none⟩), .int .u8 34]) rfl (b_WriteByte 83 _ g1 (strL (quotL s i)) 34 _ (Wr.bw x12) (Nat.le_trans hB_ (Wr.size x12)) F_lies83 (by simp only [ByteArray.size_append, strL_size, z0, z1, z2, z3, z4, z5, z6]; omega)) ?_
    rintro _ w51 ⟨rfl, wr52⟩
    refine c_done ?_
    refine n_then ?_
    refine c_seq ?_
    refine c_reg ?_
    refine s_call F_e36 (w0 rfl) ev_f (m1 (ev_t rfl e17)) (args := #[.pointer (some ⟨g1, 0, none⟩)]) rfl (b_String 83 _ g1 (strL (quotL s i) ++ (⟨#[34]⟩ : ByteArray)) _ (Wr.bw wr52) (Nat.le_trans (Nat.le_trans hB_ (Wr.size x12)) (Wr.size wr52)) (by simp only [ByteArray.size_append, z1]; omega)) ?_
    rintro _ w53 ⟨rfl, bl54⟩
    refine s_assign (v := .string (strL (quotL s i) ++ (⟨#[34]⟩ : ByteArray))) (ev_t rfl rfl) (w0 rfl) ?_
    refine c_done ?_
    refine n_then ?_
    refine c_ret ?_
    refine ret1 (v := .string (strL (quotL s i) ++ (⟨#[34]⟩ : ByteArray))) rfl rfl rfl ?_
    refine ⟨_, rfl, ?_, (ext_bel (Wr.after wr52 (Wr.after x12 (NewB.ext n3) rfl) rfl) bl54)⟩
    (have e_ : i = s.size := by omega); subst e_; exact congrArg Value.string (quotB_eq s)
theorem v_FormatInt (n : Int) (w : World) (tb : Tabs Tryd.prog w) (h : -9223372036854775808 ≤ n ∧ n ≤ 9223372036854775807) : Rt Tryd.prog 98 #[.int .i64 n, .int .i64 10] w fun v w' => v = .string (itoaB n) ∧ Ext w w' := by
  refine Calls.mono (Tryd.strconv_FormatInt_10 n h.1 h.2 w tb.pow) ?_
  rintro e w' ⟨rfl, k, os, h⟩
  exact ⟨_, rfl, rfl, ext_grow h⟩
set_option maxHeartbeats 4000000 in
theorem v_Show (x : Vl) (w : World) (hx : x.wf) (tb : Tabs Tryd.prog w) :
    Rt Tryd.prog 72 #[.agg #[.int .i8 x.k, .int .i64 x.n, .string x.s]] w fun v w' => v = .tuple #[.string (if okV x then showB x else ⟨#[]⟩), .int .i64 (if okV x then 0 else 10 : Int)] ∧ Ext w w' := by
  refine enter Tryd.func72 rfl (l := [.agg #[.int .i8 x.k, .int .i64 x.n, .string x.s]]) rfl Tryd.ntmps72 (Nat.le_of_ble_eq_true rfl) ?_
  refine c_seq ?_
  refine c_reg ?_
  refine s_box (v := .agg #[.int .i8 x.k, .int .i64 x.n, .string x.s]) (cs := #[.int .i8 x.k, .int .i64 x.n, .string x.s]) (w0 rfl) (ev_t rfl rfl) rfl ?_
  intro w2 g1 n3
  refine s_assign (v := .string (⟨#[]⟩ : ByteArray)) ev_c (w0 rfl) ?_
  refine s_assign (v := .int .i64 0) ev_c (w0 rfl) ?_
  refine c_done ?_
  refine n_then ?_
  refine c_seq ?_
  refine c_seq ?_
  refine c_reg ?_
  refine s_loadL (cs := [.int .i8 x.k, .int .i64 x.n, .string x.s]) (ca := #[.int .i8 x.k, .int .i64 x.n, .string x.s]) F_m26 (ev_t rfl rfl) rfl rfl (blk_cells (NewB.blk n3) 0 (cs := [.int .i8 x.k, .int .i64 x.n, .string x.s]) rfl) (w0 rfl) ?_
  refine s_call F_e70 (w0 rfl) ev_f (m1 (ev_t rfl rfl)) (args := #[.agg #[.int .i8 x.k, .int .i64 x.n, .string x.s]]) rfl (v_Check x _) ?_
  rintro _ w5 ⟨rfl, x4⟩
  refine s_assign (v := .int .i64 (if okV x then 0 else 10 : Int)) (ev_t rfl rfl) (w0 rfl) ?_
  refine c_done ?_
  refine n_then ?_
  refine c_seq ?_
  refine c_reg ?_
  refine s_move (v := .int .i64 (if okV x then 0 else 10 : Int)) (ev_t rfl rfl) (w0 rfl) ?_
  refine s_cmp (r := !(okV x)) (ev_t rfl rfl) ev_c (ci_tn (b := (okV x)) (by decide)) (w0 rfl) ?_
  refine c_done ?_
  refine n_then ?_
  rcases Bool.eq_false_or_eq_true (okV x) with h6 | h6
  · refine c_cond0 (vb (ev_t rfl rfl) (nbt h6)) ?_
    refine c_skip ?_
    refine n_then ?_
    refine c_seq ?_
    refine c_seq ?_
    refine c_reg ?_
    refine s_field (off := 0) (o' := 0) F_f26_0 (ev_t rfl rfl) rfl (w0 rfl) ?_
    refine s_load (v := .int .i8 x.k) F_o24 (ev_t rfl rfl) (cell_of_blk (i := 0) (Ext.blk x4 (NewB.blk n3)) rfl) (w0 rfl) ?_
    refine s_cmp (r := decide (x.k = 1)) (ev_t rfl rfl) ev_c rfl (w0 rfl) ?_
    refine c_done ?_
    refine n_then ?_
    by_cases h7 : x.k = 1
    · refine c_cond1 (vb (ev_t rfl rfl) (decide_eq_true h7)) ?_
      refine c_seq ?_
      refine c_reg ?_
      refine s_field (off := 1) (o' := 1) F_f26_1 (ev_t rfl rfl) rfl (w0 rfl) ?_
      refine s_load (v := .int .i64 x.n) F_o2 (ev_t rfl rfl) (cell_of_blk (i := 1) (Ext.blk x4 (NewB.blk n3)) rfl) (w0 rfl) ?_
      refine s_call F_e98 (w0 rfl) ev_f (m2 (ev_t rfl rfl) ev_c) (args := #[.int .i64 x.n, .int .i64 10]) rfl (v_FormatInt x.n _ (Tabs.ext tb (Ext.trans (NewB.ext n3) x4)) (Vl.wf.n hx)) ?_
      rintro _ w9 ⟨rfl, x8⟩
      refine s_assign (v := .string (itoaB x.n)) (ev_t rfl rfl) (w0 rfl) ?_
      refine s_assign (v := .int .i64 0) ev_c (w0 rfl) ?_
      refine c_done ?_
      refine n_then ?_
      refine c_ret ?_
      refine r_then ?_
      refine ret2 (v := .string (itoaB x.n)) (v2 := .int .i64 0) rfl rfl rfl rfl rfl ?_
      refine ⟨_, rfl, ?_, (Ext.trans (Ext.trans (NewB.ext n3) x4) x8)⟩
      (simp [showB, *])
    · refine c_cond0 (vb (ev_t rfl rfl) (decide_eq_false h7)) ?_
      refine c_skip ?_
      refine n_then ?_
      refine c_seq ?_
      refine c_seq ?_
      refine c_reg ?_
      refine s_field (off := 2) (o' := 2) F_f26_2 (ev_t rfl rfl) rfl (w0 rfl) ?_
      refine s_load (v := .string x.s) F_o9 (ev_t rfl rfl) (cell_of_blk (i := 2) (Ext.blk x4 (NewB.blk n3)) rfl) (w0 rfl) ?_
      refine s_call F_e99 (w0 rfl) ev_f (m1 (ev_t rfl rfl)) (args := #[.string x.s]) rfl (v_name x.s _ (Vl.wf.s hx)) ?_
      rintro _ w11 ⟨rfl, x10⟩
      refine c_done ?_
      refine n_then ?_
      rcases Bool.eq_false_or_eq_true (nameB x.s) with h12 | h12
      · refine c_cond1 (vb (ev_t rfl rfl) h12) ?_
        refine c_seq ?_
        refine c_reg ?_
        refine s_field (off := 2) (o' := 2) F_f26_2 (ev_t rfl rfl) rfl (w0 rfl) ?_
        refine s_load (v := .string x.s) F_o9 (ev_t rfl rfl) (cell_of_blk (i := 2) (Ext.blk x10 (Ext.blk x4 (NewB.blk n3))) rfl) (w0 rfl) ?_
        refine s_assign (v := .string x.s) (ev_t rfl rfl) (w0 rfl) ?_
        refine s_assign (v := .int .i64 0) ev_c (w0 rfl) ?_
        refine c_done ?_
        refine n_then ?_
        refine c_ret ?_
        refine r_then ?_
        refine ret2 (v := .string x.s) (v2 := .int .i64 0) rfl rfl rfl rfl rfl ?_
        refine ⟨_, rfl, ?_, (Ext.trans (Ext.trans (NewB.ext n3) x4) x10)⟩
        (simp [showB, *])
      · refine c_cond0 (vb (ev_t rfl rfl) h12) ?_
        refine c_skip ?_
        refine n_then ?_
        refine c_seq ?_
        refine c_reg ?_
        refine s_field (off := 2) (o' := 2) F_f26_2 (ev_t rfl rfl) rfl (w0 rfl) ?_
        refine s_load (v := .string x.s) F_o9 (ev_t rfl rfl) (cell_of_blk (i := 2) (Ext.blk x10 (Ext.blk x4 (NewB.blk n3))) rfl) (w0 rfl) ?_
        refine s_call F_e100 (w0 rfl) ev_f (m1 (ev_t rfl rfl)) (args := #[.string x.s]) rfl (v_quoted x.s _ (by have z_ := okV_s (x := x) (by assumption); omega)) ?_
        rintro _ w14 ⟨rfl, x13⟩
        refine s_assign (v := .string (quotB x.s)) (ev_t rfl rfl) (w0 rfl) ?_
        refine s_assign (v := .int .i64 0) ev_c (w0 rfl) ?_
        refine c_done ?_
        refine n_then ?_
        refine c_ret ?_
        refine ret2 (v := .string (quotB x.s)) (v2 := .int .i64 0) rfl rfl rfl rfl rfl ?_
        refine ⟨_, rfl, ?_, (Ext.trans (Ext.trans (Ext.trans (NewB.ext n3) x4) x10) x13)⟩
        (simp [showB, *])
  · refine c_cond1 (vb (ev_t rfl rfl) (nbf h6)) ?_
    refine c_seq ?_
    refine c_reg ?_
    refine s_move (v := .int .i64 (if okV x then 0 else 10 : Int)) (ev_t rfl rfl) (w0 rfl) ?_
    refine s_assign (v := .string (⟨#[]⟩ : ByteArray)) ev_c (w0 rfl) ?_
    refine s_assign (v := .int .i64 (if okV x then 0 else 10 : Int)) (ev_t rfl rfl) (w0 rfl) ?_
    refine c_done ?_
    refine n_then ?_
    refine c_ret ?_
    refine r_then ?_
    refine ret2 (v := .string (⟨#[]⟩ : ByteArray)) (v2 := .int .i64 (if okV x then 0 else 10 : Int)) rfl rfl rfl rfl rfl ?_
    refine ⟨_, rfl, ?_, (Ext.trans (NewB.ext n3) x4)⟩
    (simp [showB, *])
end Go.Proofs.Dw
