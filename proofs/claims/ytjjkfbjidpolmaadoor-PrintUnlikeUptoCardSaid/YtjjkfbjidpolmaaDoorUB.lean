/- YtjjkfbjidpolmaaDoorUB: part of the proof of this seat, by an AI agent: walks of the functions that the law reaches; walks of the functions that the law reaches; walks of the functions that the law reaches. No condition of its own but those that its theorems state. -/
import Derived.Test.YtjjkfbjidpolmaaDoorUA
import Derived.Test.YtjjkfbjidpolmaaDoorShelf
import Derived.Laws.MakeOwn
import Derived.Laws.Slices
set_option maxHeartbeats 4000000
set_option linter.unusedVariables false
set_option linter.unusedSimpArgs false
set_option maxRecDepth 10000
namespace Go.Proofs.Dw
open Go Go.Wk Go.Proofs Go.Lib
attribute [local irreducible] Go.wpList Go.wpStill Go.wpQuiet Go.Code.wp Go.Calls
theorem F_e100 : enterable Tryd.prog 100 = true := by kernel_rfl
theorem F_e115 : enterable Tryd.prog 115 = true := by kernel_rfl
theorem F_e36 : enterable Tryd.prog 36 = true := by kernel_rfl
theorem F_e98 : enterable Tryd.prog 98 = true := by kernel_rfl
theorem F_e99 : enterable Tryd.prog 99 = true := by kernel_rfl
theorem F_lies83 : liesAt Tryd.prog Tryd.prog.depth 83 (2 / Tryd.prog.cellsOf 83) 0 83 1 = true := by kernel_rfl
theorem F_z83 : (Tryd.prog.info? 83).bind (·.zero) = some (.agg #[.pointer none,.slice none 0 0]) := by kernel_rfl
theorem v_quoted (s : ByteArray) (w : World) (hs : s.size ≤ 1000000) :
    Rt Tryd.prog 100 #[.string s] w fun v w' => v = .string (quotB s) ∧ Ext w w' := by
  refine enter Tryd.func100 rfl (l := [.string s]) rfl Tryd.ntmps100 (Nat.le_of_ble_eq_true rfl) ?_
  refine c_seq (c_reg (s_assign (v := .string (⟨#[]⟩ : ByteArray)) ev_c (w0 rfl) (c_done (n_then (c_seq (c_reg (s_alloc (cs := #[.pointer none,.slice none 0 0]) (w0 rfl) F_z83 rfl ?_)))))))
  intro w2 g1 n3
  have bw_ : BW 5 83 w.heap.size w2 g1 ⟨#[]⟩ := BW.new n3 rfl (by decide) (Keep.size (Ext.refl w))
  have hB_ := Keep.size (NewB.ext n3)
  refine c_done (n_then (c_seq (c_reg (s_call F_e115 (w0 rfl) ev_f (m2 (ej rfl rfl) ev_c) (args := #[.pointer (some ⟨g1,0,none⟩),.int .u8 34]) rfl (b_WriteByte 83 _ g1 ((⟨#[]⟩ : ByteArray)) 34 _ bw_ hB_ F_lies83 (by simp only [ByteArray.size_append,strL_size,z0,z1,z2,z3,z4,z5,z6]; omega)) ?_))))
  rintro _ w4 ⟨rfl,wr5⟩
  refine c_done (n_then (c_seq (c_seq (c_reg (s_move (v := .string s) (ej rfl rfl) (w0 rfl) (s_sbytesF F_us9 F_ul81 F_ui5 (ej rfl rfl) (w0 rfl) ?_))))))
  intro w8 g6 c7 sb9 x10
  have ne_g6 := SBf.ne sb9 (BW.ext (Wr.bw wr5) x10)
  refine s_lenL F_l81 (ej rfl rfl) (w0 rfl) (s_move (v := .int .i64 0) ev_c (w0 rfl) (c_done (n_then (c_block (c_loop (α := Nat) (fun (i : Nat) env_ w_ => Wr 5 83 w.heap.size g1 (strL (quotL s i)) w2 w_ ∧ i ≤ s.size ∧ SBf 5 w_ g6 s ∧ env_ 2 = .string (⟨#[]⟩ : ByteArray) ∧ env_ 3 = .pointer (some ⟨g1,0,none⟩) ∧ env_ 8 = .slice (some ⟨g6,0,none⟩) s.size c7 ∧ env_ 9 = .int .i64 (s.size : Int) ∧ env_ 10 = .int .i64 ((i : Nat) : Int)) (fun i => s.size - i) (0) ⟨(Wr.cast (Wr.ext wr5 x10 hB_) (by rw [nil_app]; rfl)),Nat.zero_le _,sb9,rfl,rfl,rfl,rfl,rfl⟩ ?_)))))
  rintro i env13 w11 ⟨x12,i14,i15,e16,e17,e18,e19,e20⟩
  have hq_ := quotL_le s i
  have hb_ := byteAt_lt s i
  refine c_seq (c_reg (s_cmp (r := decide (((i : Nat) : Int) < (s.size : Int))) (ej rfl e20) (ej rfl e19) rfl (w0 rfl) (c_done (n_then (c_seq ?_)))))
  by_cases h21 : ((i : Nat) : Int) < (s.size : Int)
  · refine c_cond1 (vb (ej rfl rfl) (decide_eq_true h21)) (c_skip (n_then (c_seq (c_block (c_seq (c_reg (s_indexR (j := i) F_l81 (ej rfl e18) rfl (ej rfl e20) rfl (by omega) (w0 rfl) (s_load (v := .int .u8 (byteAt s i : Int)) F_o5 (ej rfl rfl) (SBf.sb i15 i (by omega)) (w0 rfl) (s_assign (v := .int .u8 (byteAt s i : Int)) (ej rfl rfl) (w0 rfl) (c_done (n_then ?_)))))))))))
    refine c_block (c_seq (c_reg (s_move (v := .int .u8 (byteAt s i : Int)) (ej rfl rfl) (w0 rfl) (s_cmp (r := decide ((byteAt s i : Int) = 10)) (ej rfl rfl) ev_c rfl (w0 rfl) (s_assign (v := .bool (decide ((byteAt s i : Int) = 10))) (ej rfl rfl) (w0 rfl) (c_done (n_then ?_)))))))
    by_cases h22 : (byteAt s i : Int) = 10
    · refine c_cond1 (vb (ej rfl rfl) (decide_eq_true h22)) (c_reg (s_call F_e69 (w0 rfl) ev_f (m2 (ej rfl e17) ev_c) (args := #[.pointer (some ⟨g1,0,none⟩),.string (⟨#[92,110]⟩ : ByteArray)]) rfl (b_WriteString 83 _ g1 (strL (quotL s i)) (⟨#[92,110]⟩ : ByteArray) _ (Wr.bw x12) (Nat.le_trans hB_ (Wr.size x12)) F_lies83 (by simp only [ByteArray.size_append,strL_size,z0,z1,z2,z3,z4,z5,z6]; omega)) ?_))
      rintro _ w23 ⟨rfl,wr24⟩
      refine c_done (n_block (n_block (n_then (c_reg (s_add (r := ((i + 1 : Nat) : Int)) (ej rfl e20) ev_c (by omega) (by omega) (w0 rfl) (s_move (v := .int .i64 ((i + 1 : Nat) : Int)) (ej rfl rfl) (w0 rfl) (c_done ?_)))))))
      exact ⟨(i + 1),_,rfl,⟨(Wr.cast (Wr.then_ x12 wr24) (by simp only [app1,app2]; rw [quotL_step s i (by omega) (l := [92,110]) (by unfold encB; have e_ : (s.data.getD i 0).toNat = byteAt s i := rfl; rw [e_]; (repeat' split) <;> first | rfl | omega | (exfalso; omega))]; try simp)),by omega,(SBf.wr i15 wr24 ne_g6),e16,e17,e18,e19,rfl⟩,(show s.size - (i + 1) < s.size - i by omega)⟩
    refine c_cond0 (vb (ej rfl rfl) (decide_eq_false h22)) (c_seq (c_seq (c_reg (s_move (v := .int .u8 (byteAt s i : Int)) (ej rfl rfl) (w0 rfl) (s_cmp (r := decide ((byteAt s i : Int) = 34)) (ej rfl rfl) ev_c rfl (w0 rfl) (s_assign (v := .bool (decide ((byteAt s i : Int) = 34))) (ej rfl rfl) (w0 rfl) (c_done (n_then ?_))))))))
    by_cases h25 : (byteAt s i : Int) = 34
    · refine c_cond1 (vb (ej rfl rfl) (decide_eq_true h25)) (c_skip (n_then (c_cond1 (vb (ej rfl rfl) (decide_eq_true h25)) (c_seq (c_reg (s_call F_e115 (w0 rfl) ev_f (m2 (ej rfl e17) ev_c) (args := #[.pointer (some ⟨g1,0,none⟩),.int .u8 92]) rfl (b_WriteByte 83 _ g1 (strL (quotL s i)) 92 _ (Wr.bw x12) (Nat.le_trans hB_ (Wr.size x12)) F_lies83 (by simp only [ByteArray.size_append,strL_size,z0,z1,z2,z3,z4,z5,z6]; omega)) ?_))))))
      rintro _ w26 ⟨rfl,wr27⟩
      refine c_done (n_then (c_reg (s_move (v := .int .u8 (byteAt s i : Int)) (ej rfl rfl) (w0 rfl) (s_call F_e115 (w0 rfl) ev_f (m2 (ej rfl e17) (ej rfl rfl)) (args := #[.pointer (some ⟨g1,0,none⟩),.int .u8 (byteAt s i : Int)]) rfl (b_WriteByte 83 _ g1 (strL (quotL s i) ++ (⟨#[92]⟩ : ByteArray)) (s.data.getD i 0) _ (Wr.bw wr27) (Nat.le_trans (Nat.le_trans hB_ (Wr.size x12)) (Wr.size wr27)) F_lies83 (by simp only [ByteArray.size_append,strL_size,z0,z1,z2,z3,z4,z5,z6]; omega)) ?_))))
      rintro _ w28 ⟨rfl,wr29⟩
      refine c_done (n_block (n_block (n_then (c_reg (s_add (r := ((i + 1 : Nat) : Int)) (ej rfl e20) ev_c (by omega) (by omega) (w0 rfl) (s_move (v := .int .i64 ((i + 1 : Nat) : Int)) (ej rfl rfl) (w0 rfl) (c_done ?_)))))))
      exact ⟨(i + 1),_,rfl,⟨(Wr.cast (Wr.then_ (Wr.then_ x12 wr27) wr29) (by simp only [app1,app2]; rw [quotL_step s i (by omega) (l := [92,(s.data.getD i 0)]) (by unfold encB; have e_ : (s.data.getD i 0).toNat = byteAt s i := rfl; rw [e_]; (repeat' split) <;> first | rfl | omega | (exfalso; omega))]; try simp)),by omega,(SBf.wr (SBf.wr i15 wr27 ne_g6) wr29 ne_g6),e16,e17,e18,e19,rfl⟩,(show s.size - (i + 1) < s.size - i by omega)⟩
    refine c_cond0 (vb (ej rfl rfl) (decide_eq_false h25)) (c_reg (s_move (v := .int .u8 (byteAt s i : Int)) (ej rfl rfl) (w0 rfl) (s_cmp (r := decide ((byteAt s i : Int) = 92)) (ej rfl rfl) ev_c rfl (w0 rfl) (s_assign (v := .bool (decide ((byteAt s i : Int) = 92))) (ej rfl rfl) (w0 rfl) (c_done (n_then ?_))))))
    by_cases h30 : (byteAt s i : Int) = 92
    · refine c_cond1 (vb (ej rfl rfl) (decide_eq_true h30)) (c_seq (c_reg (s_call F_e115 (w0 rfl) ev_f (m2 (ej rfl e17) ev_c) (args := #[.pointer (some ⟨g1,0,none⟩),.int .u8 92]) rfl (b_WriteByte 83 _ g1 (strL (quotL s i)) 92 _ (Wr.bw x12) (Nat.le_trans hB_ (Wr.size x12)) F_lies83 (by simp only [ByteArray.size_append,strL_size,z0,z1,z2,z3,z4,z5,z6]; omega)) ?_)))
      rintro _ w31 ⟨rfl,wr32⟩
      refine c_done (n_then (c_reg (s_move (v := .int .u8 (byteAt s i : Int)) (ej rfl rfl) (w0 rfl) (s_call F_e115 (w0 rfl) ev_f (m2 (ej rfl e17) (ej rfl rfl)) (args := #[.pointer (some ⟨g1,0,none⟩),.int .u8 (byteAt s i : Int)]) rfl (b_WriteByte 83 _ g1 (strL (quotL s i) ++ (⟨#[92]⟩ : ByteArray)) (s.data.getD i 0) _ (Wr.bw wr32) (Nat.le_trans (Nat.le_trans hB_ (Wr.size x12)) (Wr.size wr32)) F_lies83 (by simp only [ByteArray.size_append,strL_size,z0,z1,z2,z3,z4,z5,z6]; omega)) ?_))))
      rintro _ w33 ⟨rfl,wr34⟩
      refine c_done (n_block (n_block (n_then (c_reg (s_add (r := ((i + 1 : Nat) : Int)) (ej rfl e20) ev_c (by omega) (by omega) (w0 rfl) (s_move (v := .int .i64 ((i + 1 : Nat) : Int)) (ej rfl rfl) (w0 rfl) (c_done ?_)))))))
      exact ⟨(i + 1),_,rfl,⟨(Wr.cast (Wr.then_ (Wr.then_ x12 wr32) wr34) (by simp only [app1,app2]; rw [quotL_step s i (by omega) (l := [92,(s.data.getD i 0)]) (by unfold encB; have e_ : (s.data.getD i 0).toNat = byteAt s i := rfl; rw [e_]; (repeat' split) <;> first | rfl | omega | (exfalso; omega))]; try simp)),by omega,(SBf.wr (SBf.wr i15 wr32 ne_g6) wr34 ne_g6),e16,e17,e18,e19,rfl⟩,(show s.size - (i + 1) < s.size - i by omega)⟩
    refine c_cond0 (vb (ej rfl rfl) (decide_eq_false h30)) (c_seq (c_reg (s_move (v := .int .u8 (byteAt s i : Int)) (ej rfl rfl) (w0 rfl) (s_cmp (r := decide ((byteAt s i : Int) < 32)) (ej rfl rfl) ev_c rfl (w0 rfl) ?_))))
    by_cases h35 : (byteAt s i : Int) < 32
    · refine s_move (v := .bool true) (vb (ej rfl rfl) (decide_eq_true h35)) (w0 rfl) (s_skip (wn rfl rfl rfl rfl rfl) (s_skip (wn rfl rfl rfl rfl rfl) (s_pick1 (v := .bool true) (ej rfl rfl) ev_c (w0 rfl) (s_assign (v := .bool true) (ej rfl rfl) (w0 rfl) (c_done (n_then (c_cond1 (ej rfl rfl) (c_seq (c_reg (s_call F_e69 (w0 rfl) ev_f (m2 (ej rfl e17) ev_c) (args := #[.pointer (some ⟨g1,0,none⟩),.string (⟨#[92,120]⟩ : ByteArray)]) rfl (b_WriteString 83 _ g1 (strL (quotL s i)) (⟨#[92,120]⟩ : ByteArray) _ (Wr.bw x12) (Nat.le_trans hB_ (Wr.size x12)) F_lies83 (by simp only [ByteArray.size_append,strL_size,z0,z1,z2,z3,z4,z5,z6]; omega)) ?_))))))))))
      rintro _ w36 ⟨rfl,wr37⟩
      refine c_done (n_then (c_seq (c_reg (s_move (v := .int .u8 (byteAt s i : Int)) (ej rfl rfl) (w0 rfl) (s_shr4 (m := byteAt s i) (ej rfl rfl) ev_c (by omega) (w0 rfl) (s_byte (j := (byteAt s i) / 16) F_us9 ev_c (ej rfl rfl) rfl (Nat.lt_of_lt_of_le (show (byteAt s i) / 16 < 16 by omega) (by decide)) (w0 rfl) (s_call F_e115 (w0 rfl) ev_f (m2 (ej rfl e17) (ej rfl rfl)) (args := #[.pointer (some ⟨g1,0,none⟩),.int .u8 (byteAt (⟨#[48,49,50,51,52,53,54,55,56,57,97,98,99,100,101,102]⟩ : ByteArray) ((byteAt s i) / 16) : Int)]) rfl (b_WriteByte 83 _ g1 (strL (quotL s i) ++ (⟨#[92,120]⟩ : ByteArray)) ((⟨#[48,49,50,51,52,53,54,55,56,57,97,98,99,100,101,102]⟩ : ByteArray).data.getD ((byteAt s i) / 16) 0) _ (Wr.bw wr37) (Nat.le_trans (Nat.le_trans hB_ (Wr.size x12)) (Wr.size wr37)) F_lies83 (by simp only [ByteArray.size_append,strL_size,z0,z1,z2,z3,z4,z5,z6]; omega)) ?_)))))))
      rintro _ w38 ⟨rfl,wr39⟩
      refine c_done (n_then (c_reg (s_move (v := .int .u8 (byteAt s i : Int)) (ej rfl rfl) (w0 rfl) (s_and15 (m := byteAt s i) (ej rfl rfl) ev_c (by omega) (w0 rfl) (s_byte (j := (byteAt s i) % 16) F_us9 ev_c (ej rfl rfl) rfl (Nat.lt_of_lt_of_le (show (byteAt s i) % 16 < 16 by omega) (by decide)) (w0 rfl) (s_call F_e115 (w0 rfl) ev_f (m2 (ej rfl e17) (ej rfl rfl)) (args := #[.pointer (some ⟨g1,0,none⟩),.int .u8 (byteAt (⟨#[48,49,50,51,52,53,54,55,56,57,97,98,99,100,101,102]⟩ : ByteArray) ((byteAt s i) % 16) : Int)]) rfl (b_WriteByte 83 _ g1 (strL (quotL s i) ++ (⟨#[92,120]⟩ : ByteArray) ++ (⟨#[((⟨#[48,49,50,51,52,53,54,55,56,57,97,98,99,100,101,102]⟩ : ByteArray).data.getD ((byteAt s i) / 16) 0)]⟩ : ByteArray)) ((⟨#[48,49,50,51,52,53,54,55,56,57,97,98,99,100,101,102]⟩ : ByteArray).data.getD ((byteAt s i) % 16) 0) _ (Wr.bw wr39) (Nat.le_trans (Nat.le_trans (Nat.le_trans hB_ (Wr.size x12)) (Wr.size wr37)) (Wr.size wr39)) F_lies83 (by simp only [ByteArray.size_append,strL_size,z0,z1,z2,z3,z4,z5,z6]; omega)) ?_))))))
      rintro _ w40 ⟨rfl,wr41⟩
      refine c_done (n_block (n_block (n_then (c_reg (s_add (r := ((i + 1 : Nat) : Int)) (ej rfl e20) ev_c (by omega) (by omega) (w0 rfl) (s_move (v := .int .i64 ((i + 1 : Nat) : Int)) (ej rfl rfl) (w0 rfl) (c_done ?_)))))))
      exact ⟨(i + 1),_,rfl,⟨(Wr.cast (Wr.then_ (Wr.then_ (Wr.then_ x12 wr37) wr39) wr41) (by simp only [app1,app2]; rw [quotL_step s i (by omega) (l := [92,120,((⟨#[48,49,50,51,52,53,54,55,56,57,97,98,99,100,101,102]⟩ : ByteArray).data.getD ((byteAt s i) / 16) 0),((⟨#[48,49,50,51,52,53,54,55,56,57,97,98,99,100,101,102]⟩ : ByteArray).data.getD ((byteAt s i) % 16) 0)]) (by unfold encB; have e_ : (s.data.getD i 0).toNat = byteAt s i := rfl; rw [e_]; (repeat' split) <;> first | rfl | omega | (exfalso; omega))]; try simp)),by omega,(SBf.wr (SBf.wr (SBf.wr i15 wr37 ne_g6) wr39 ne_g6) wr41 ne_g6),e16,e17,e18,e19,rfl⟩,(show s.size - (i + 1) < s.size - i by omega)⟩
    refine s_move (v := .bool false) (vb (ej rfl rfl) (decide_eq_false h35)) (w0 rfl) (s_move (v := .int .u8 (byteAt s i : Int)) (ej rfl rfl) (wy rfl rfl rfl rfl) (s_cmp (r := decide (126 < (byteAt s i : Int))) (ej rfl rfl) ev_c rfl (wy rfl rfl rfl rfl) (s_pick0 (v := .bool (decide (126 < (byteAt s i : Int)))) (ej rfl rfl) (ej rfl rfl) (w0 rfl) (s_assign (v := .bool (decide (126 < (byteAt s i : Int)))) (ej rfl rfl) (w0 rfl) (c_done (n_then ?_))))))
    by_cases h42 : 126 < (byteAt s i : Int)
    · refine c_cond1 (vb (ej rfl rfl) (decide_eq_true h42)) (c_seq (c_reg (s_call F_e69 (w0 rfl) ev_f (m2 (ej rfl e17) ev_c) (args := #[.pointer (some ⟨g1,0,none⟩),.string (⟨#[92,120]⟩ : ByteArray)]) rfl (b_WriteString 83 _ g1 (strL (quotL s i)) (⟨#[92,120]⟩ : ByteArray) _ (Wr.bw x12) (Nat.le_trans hB_ (Wr.size x12)) F_lies83 (by simp only [ByteArray.size_append,strL_size,z0,z1,z2,z3,z4,z5,z6]; omega)) ?_)))
      rintro _ w43 ⟨rfl,wr44⟩
      refine c_done (n_then (c_seq (c_reg (s_move (v := .int .u8 (byteAt s i : Int)) (ej rfl rfl) (w0 rfl) (s_shr4 (m := byteAt s i) (ej rfl rfl) ev_c (by omega) (w0 rfl) (s_byte (j := (byteAt s i) / 16) F_us9 ev_c (ej rfl rfl) rfl (Nat.lt_of_lt_of_le (show (byteAt s i) / 16 < 16 by omega) (by decide)) (w0 rfl) (s_call F_e115 (w0 rfl) ev_f (m2 (ej rfl e17) (ej rfl rfl)) (args := #[.pointer (some ⟨g1,0,none⟩),.int .u8 (byteAt (⟨#[48,49,50,51,52,53,54,55,56,57,97,98,99,100,101,102]⟩ : ByteArray) ((byteAt s i) / 16) : Int)]) rfl (b_WriteByte 83 _ g1 (strL (quotL s i) ++ (⟨#[92,120]⟩ : ByteArray)) ((⟨#[48,49,50,51,52,53,54,55,56,57,97,98,99,100,101,102]⟩ : ByteArray).data.getD ((byteAt s i) / 16) 0) _ (Wr.bw wr44) (Nat.le_trans (Nat.le_trans hB_ (Wr.size x12)) (Wr.size wr44)) F_lies83 (by simp only [ByteArray.size_append,strL_size,z0,z1,z2,z3,z4,z5,z6]; omega)) ?_)))))))
      rintro _ w45 ⟨rfl,wr46⟩
      refine c_done (n_then (c_reg (s_move (v := .int .u8 (byteAt s i : Int)) (ej rfl rfl) (w0 rfl) (s_and15 (m := byteAt s i) (ej rfl rfl) ev_c (by omega) (w0 rfl) (s_byte (j := (byteAt s i) % 16) F_us9 ev_c (ej rfl rfl) rfl (Nat.lt_of_lt_of_le (show (byteAt s i) % 16 < 16 by omega) (by decide)) (w0 rfl) (s_call F_e115 (w0 rfl) ev_f (m2 (ej rfl e17) (ej rfl rfl)) (args := #[.pointer (some ⟨g1,0,none⟩),.int .u8 (byteAt (⟨#[48,49,50,51,52,53,54,55,56,57,97,98,99,100,101,102]⟩ : ByteArray) ((byteAt s i) % 16) : Int)]) rfl (b_WriteByte 83 _ g1 (strL (quotL s i) ++ (⟨#[92,120]⟩ : ByteArray) ++ (⟨#[((⟨#[48,49,50,51,52,53,54,55,56,57,97,98,99,100,101,102]⟩ : ByteArray).data.getD ((byteAt s i) / 16) 0)]⟩ : ByteArray)) ((⟨#[48,49,50,51,52,53,54,55,56,57,97,98,99,100,101,102]⟩ : ByteArray).data.getD ((byteAt s i) % 16) 0) _ (Wr.bw wr46) (Nat.le_trans (Nat.le_trans (Nat.le_trans hB_ (Wr.size x12)) (Wr.size wr44)) (Wr.size wr46)) F_lies83 (by simp only [ByteArray.size_append,strL_size,z0,z1,z2,z3,z4,z5,z6]; omega)) ?_))))))
      rintro _ w47 ⟨rfl,wr48⟩
      refine c_done (n_block (n_block (n_then (c_reg (s_add (r := ((i + 1 : Nat) : Int)) (ej rfl e20) ev_c (by omega) (by omega) (w0 rfl) (s_move (v := .int .i64 ((i + 1 : Nat) : Int)) (ej rfl rfl) (w0 rfl) (c_done ?_)))))))
      exact ⟨(i + 1),_,rfl,⟨(Wr.cast (Wr.then_ (Wr.then_ (Wr.then_ x12 wr44) wr46) wr48) (by simp only [app1,app2]; rw [quotL_step s i (by omega) (l := [92,120,((⟨#[48,49,50,51,52,53,54,55,56,57,97,98,99,100,101,102]⟩ : ByteArray).data.getD ((byteAt s i) / 16) 0),((⟨#[48,49,50,51,52,53,54,55,56,57,97,98,99,100,101,102]⟩ : ByteArray).data.getD ((byteAt s i) % 16) 0)]) (by unfold encB; have e_ : (s.data.getD i 0).toNat = byteAt s i := rfl; rw [e_]; (repeat' split) <;> first | rfl | omega | (exfalso; omega))]; try simp)),by omega,(SBf.wr (SBf.wr (SBf.wr i15 wr44 ne_g6) wr46 ne_g6) wr48 ne_g6),e16,e17,e18,e19,rfl⟩,(show s.size - (i + 1) < s.size - i by omega)⟩
    refine c_cond0 (vb (ej rfl rfl) (decide_eq_false h42)) (c_reg (s_move (v := .int .u8 (byteAt s i : Int)) (ej rfl rfl) (w0 rfl) (s_call F_e115 (w0 rfl) ev_f (m2 (ej rfl e17) (ej rfl rfl)) (args := #[.pointer (some ⟨g1,0,none⟩),.int .u8 (byteAt s i : Int)]) rfl (b_WriteByte 83 _ g1 (strL (quotL s i)) (s.data.getD i 0) _ (Wr.bw x12) (Nat.le_trans hB_ (Wr.size x12)) F_lies83 (by simp only [ByteArray.size_append,strL_size,z0,z1,z2,z3,z4,z5,z6]; omega)) ?_)))
    rintro _ w49 ⟨rfl,wr50⟩
    refine c_done (n_block (n_block (n_then (c_reg (s_add (r := ((i + 1 : Nat) : Int)) (ej rfl e20) ev_c (by omega) (by omega) (w0 rfl) (s_move (v := .int .i64 ((i + 1 : Nat) : Int)) (ej rfl rfl) (w0 rfl) (c_done ?_)))))))
    exact ⟨(i + 1),_,rfl,⟨(Wr.cast (Wr.then_ x12 wr50) (by simp only [app1,app2]; rw [quotL_step s i (by omega) (l := [(s.data.getD i 0)]) (by unfold encB; have e_ : (s.data.getD i 0).toNat = byteAt s i := rfl; rw [e_]; (repeat' split) <;> first | rfl | omega | (exfalso; omega))]; try simp)),by omega,(SBf.wr i15 wr50 ne_g6),e16,e17,e18,e19,rfl⟩,(show s.size - (i + 1) < s.size - i by omega)⟩
  refine c_cond0 (vb (ej rfl rfl) (decide_eq_false h21)) (c_exit (e_then (e_then (e_hit (n_then (c_seq (c_reg (s_call F_e115 (w0 rfl) ev_f (m2 (ej rfl e17) ev_c) (args := #[.pointer (some ⟨g1,0,none⟩),.int .u8 34]) rfl (b_WriteByte 83 _ g1 (strL (quotL s i)) 34 _ (Wr.bw x12) (Nat.le_trans hB_ (Wr.size x12)) F_lies83 (by simp only [ByteArray.size_append,strL_size,z0,z1,z2,z3,z4,z5,z6]; omega)) ?_))))))))
  rintro _ w51 ⟨rfl,wr52⟩
  refine c_done (n_then (c_seq (c_reg (s_call F_e36 (w0 rfl) ev_f (m1 (ej rfl e17)) (args := #[.pointer (some ⟨g1,0,none⟩)]) rfl (b_String 83 _ g1 (strL (quotL s i) ++ (⟨#[34]⟩ : ByteArray)) _ (Wr.bw wr52) (Nat.le_trans (Nat.le_trans hB_ (Wr.size x12)) (Wr.size wr52)) (by simp only [ByteArray.size_append,z1]; omega)) ?_))))
  rintro _ w53 ⟨rfl,bl54⟩
  refine s_assign (v := .string (strL (quotL s i) ++ (⟨#[34]⟩ : ByteArray))) (ej rfl rfl) (w0 rfl) (c_done (n_then (c_ret (ret1 (v := .string (strL (quotL s i) ++ (⟨#[34]⟩ : ByteArray))) rfl rfl rfl ?_))))
  refine ⟨_,rfl,?_,(ext_bel (Wr.after wr52 (Wr.after x12 (NewB.ext n3) rfl) rfl) bl54)⟩
  (have e_ : i = s.size := by omega); subst e_; exact congrArg Value.string (quotB_eq s)
theorem v_FormatInt (n : Int) (w : World) (tb : Tabs Tryd.prog w) (h : -9223372036854775808 ≤ n ∧ n ≤ 9223372036854775807) : Rt Tryd.prog 98 #[.int .i64 n,.int .i64 10] w fun v w' => v = .string (itoaB n) ∧ Ext w w' := by
  refine Calls.mono (Tryd.strconv_FormatInt_10 n h.1 h.2 w tb.pow) ?_
  rintro e w' ⟨rfl,k,os,h⟩
  exact ⟨_,rfl,rfl,ext_grow h⟩
theorem v_Show (x : Vl) (w : World) (hx : x.wf) (tb : Tabs Tryd.prog w) :
    Rt Tryd.prog 72 #[.agg #[.int .i8 x.k,.int .i64 x.n,.string x.s]] w fun v w' => v = .tuple #[.string (if okV x then showB x else ⟨#[]⟩),.int .i64 (if okV x then 0 else 10 : Int)] ∧ Ext w w' := by
  refine enter Tryd.func72 rfl (l := [.agg #[.int .i8 x.k,.int .i64 x.n,.string x.s]]) rfl Tryd.ntmps72 (Nat.le_of_ble_eq_true rfl) ?_
  refine c_seq (c_reg (s_box (v := .agg #[.int .i8 x.k,.int .i64 x.n,.string x.s]) (cs := #[.int .i8 x.k,.int .i64 x.n,.string x.s]) (w0 rfl) (ej rfl rfl) rfl ?_))
  intro w2 g1 n3
  refine s_assign (v := .string (⟨#[]⟩ : ByteArray)) ev_c (w0 rfl) (s_assign (v := .int .i64 0) ev_c (w0 rfl) (c_done (n_then (c_seq (c_seq (c_reg (s_loadL (cs := [.int .i8 x.k,.int .i64 x.n,.string x.s]) F_m26 (ej rfl rfl) rfl rfl (blk_cells (NewB.blk n3) 0 rfl) (w0 rfl) (s_call F_e70 (w0 rfl) ev_f (m1 (ej rfl rfl)) (args := #[.agg #[.int .i8 x.k,.int .i64 x.n,.string x.s]]) rfl (v_Check x _) ?_))))))))
  rintro _ w5 ⟨rfl,x4⟩
  refine s_assign (v := .int .i64 (if okV x then 0 else 10 : Int)) (ej rfl rfl) (w0 rfl) (c_done (n_then (c_seq (c_reg (s_move (v := .int .i64 (if okV x then 0 else 10 : Int)) (ej rfl rfl) (w0 rfl) (s_cmp (r := !(okV x)) (ej rfl rfl) ev_c (ci_tn (b := (okV x)) (by decide)) (w0 rfl) (c_done (n_then ?_))))))))
  rcases Bool.eq_false_or_eq_true (okV x) with h6 | h6
  · refine c_cond0 (vb (ej rfl rfl) (nbt h6)) (c_skip (n_then (c_seq (c_seq (c_reg (s_field (off := 0) (o' := 0) F_f26_0 (ej rfl rfl) rfl (w0 rfl) (s_load (v := .int .i8 x.k) F_o24 (ej rfl rfl) (cell_of_blk (i := 0) (Ext.blk x4 (NewB.blk n3)) rfl) (w0 rfl) (s_cmp (r := decide (x.k = 1)) (ej rfl rfl) ev_c rfl (w0 rfl) (c_done (n_then ?_))))))))))
    by_cases h7 : x.k = 1
    · refine c_cond1 (vb (ej rfl rfl) (decide_eq_true h7)) (c_seq (c_reg (s_field (off := 1) (o' := 1) F_f26_1 (ej rfl rfl) rfl (w0 rfl) (s_load (v := .int .i64 x.n) F_o2 (ej rfl rfl) (cell_of_blk (i := 1) (Ext.blk x4 (NewB.blk n3)) rfl) (w0 rfl) (s_call F_e98 (w0 rfl) ev_f (m2 (ej rfl rfl) ev_c) (args := #[.int .i64 x.n,.int .i64 10]) rfl (v_FormatInt x.n _ (Tabs.ext tb (Ext.trans (NewB.ext n3) x4)) (Vl.wf.n hx)) ?_)))))
      rintro _ w9 ⟨rfl,x8⟩
      refine s_assign (v := .string (itoaB x.n)) (ej rfl rfl) (w0 rfl) (s_assign (v := .int .i64 0) ev_c (w0 rfl) (c_done (n_then (c_ret (r_then (ret2 (v := .string (itoaB x.n)) (v2 := .int .i64 0) rfl rfl rfl rfl rfl ?_))))))
      refine ⟨_,rfl,?_,(Ext.trans (Ext.trans (NewB.ext n3) x4) x8)⟩
      (simp [showB, *])
    refine c_cond0 (vb (ej rfl rfl) (decide_eq_false h7)) (c_skip (n_then (c_seq (c_seq (c_reg (s_field (off := 2) (o' := 2) F_f26_2 (ej rfl rfl) rfl (w0 rfl) (s_load (v := .string x.s) F_o9 (ej rfl rfl) (cell_of_blk (i := 2) (Ext.blk x4 (NewB.blk n3)) rfl) (w0 rfl) (s_call F_e99 (w0 rfl) ev_f (m1 (ej rfl rfl)) (args := #[.string x.s]) rfl (v_name x.s _ (Vl.wf.s hx)) ?_))))))))
    rintro _ w11 ⟨rfl,x10⟩
    refine c_done (n_then ?_)
    rcases Bool.eq_false_or_eq_true (nameB x.s) with h12 | h12
    · refine c_cond1 (vb (ej rfl rfl) h12) (c_seq (c_reg (s_field (off := 2) (o' := 2) F_f26_2 (ej rfl rfl) rfl (w0 rfl) (s_load (v := .string x.s) F_o9 (ej rfl rfl) (cell_of_blk (i := 2) (Ext.blk x10 (Ext.blk x4 (NewB.blk n3))) rfl) (w0 rfl) (s_assign (v := .string x.s) (ej rfl rfl) (w0 rfl) (s_assign (v := .int .i64 0) ev_c (w0 rfl) (c_done (n_then (c_ret (r_then (ret2 (v := .string x.s) (v2 := .int .i64 0) rfl rfl rfl rfl rfl ?_)))))))))))
      refine ⟨_,rfl,?_,(Ext.trans (Ext.trans (NewB.ext n3) x4) x10)⟩
      (simp [showB, *])
    refine c_cond0 (vb (ej rfl rfl) h12) (c_skip (n_then (c_seq (c_reg (s_field (off := 2) (o' := 2) F_f26_2 (ej rfl rfl) rfl (w0 rfl) (s_load (v := .string x.s) F_o9 (ej rfl rfl) (cell_of_blk (i := 2) (Ext.blk x10 (Ext.blk x4 (NewB.blk n3))) rfl) (w0 rfl) (s_call F_e100 (w0 rfl) ev_f (m1 (ej rfl rfl)) (args := #[.string x.s]) rfl (v_quoted x.s _ (by have z_ := okV_s (x := x) (by assumption); omega)) ?_)))))))
    rintro _ w14 ⟨rfl,x13⟩
    refine s_assign (v := .string (quotB x.s)) (ej rfl rfl) (w0 rfl) (s_assign (v := .int .i64 0) ev_c (w0 rfl) (c_done (n_then (c_ret (ret2 (v := .string (quotB x.s)) (v2 := .int .i64 0) rfl rfl rfl rfl rfl ?_)))))
    refine ⟨_,rfl,?_,(Ext.trans (Ext.trans (Ext.trans (NewB.ext n3) x4) x10) x13)⟩
    (simp [showB, *])
  refine c_cond1 (vb (ej rfl rfl) (nbf h6)) (c_seq (c_reg (s_move (v := .int .i64 (if okV x then 0 else 10 : Int)) (ej rfl rfl) (w0 rfl) (s_assign (v := .string (⟨#[]⟩ : ByteArray)) ev_c (w0 rfl) (s_assign (v := .int .i64 (if okV x then 0 else 10 : Int)) (ej rfl rfl) (w0 rfl) (c_done (n_then (c_ret (r_then (ret2 (v := .string (⟨#[]⟩ : ByteArray)) (v2 := .int .i64 (if okV x then 0 else 10 : Int)) rfl rfl rfl rfl rfl ?_))))))))))
  refine ⟨_,rfl,?_,(Ext.trans (NewB.ext n3) x4)⟩
  (simp [showB, *])
end Go.Proofs.Dw

set_option linter.unusedVariables false
set_option linter.unusedSimpArgs false
set_option maxRecDepth 10000
namespace Go.Proofs.Dw
open Go Go.Wk Go.Proofs Go.Lib
attribute [local irreducible] Go.wpList Go.wpStill Go.wpQuiet Go.Code.wp Go.Calls
theorem F_ar104 : arrayT Tryd.prog 104 11 1 = true := by kernel_rfl
theorem F_ar105 : arrayT Tryd.prog 105 11 1 = true := by kernel_rfl
theorem F_ar106 : arrayT Tryd.prog 106 8 1 = true := by kernel_rfl
theorem F_e24 : enterable Tryd.prog 24 = true := by kernel_rfl
theorem F_e35 : enterable Tryd.prog 35 = true := by kernel_rfl
theorem F_e41 : enterable Tryd.prog 41 = true := by kernel_rfl
theorem F_e52 : enterable Tryd.prog 52 = true := by kernel_rfl
theorem F_e72 : enterable Tryd.prog 72 = true := by kernel_rfl
theorem F_gn0 : Tryd.prog.globalNamed "pedigree/print.hold" = some 0 := by kernel_rfl
theorem F_gn1 : Tryd.prog.globalNamed "pedigree/print.words" = some 1 := by kernel_rfl
theorem F_gn2 : Tryd.prog.globalNamed "pedigree/print.signs" = some 2 := by kernel_rfl
theorem F_lies85 : liesAt Tryd.prog Tryd.prog.depth 85 (2 / Tryd.prog.cellsOf 85) 0 83 1 = true := by kernel_rfl
theorem bs122_1_0s : ∀ (a0 : ByteArray),∀ w : World,(Instr.buildSlice 122 1 [(0,.string a0)].toArray).run Tryd.prog w = .ok (.slice (some ⟨w.heap.size,0,none⟩) 1 1) (w.alloc (.cells #[.string a0] 9)) := by
  intros
  kernel_rfl
theorem bs122_3_0s_1s_2s : ∀ (a0 : ByteArray) (a1 : ByteArray) (a2 : ByteArray),∀ w : World,(Instr.buildSlice 122 3 [(0,.string a0),(1,.string a1),(2,.string a2)].toArray).run Tryd.prog w = .ok (.slice (some ⟨w.heap.size,0,none⟩) 3 3) (w.alloc (.cells #[.string a0,.string a1,.string a2] 9)) := by
  intros
  kernel_rfl
theorem p_term (x : Tm) (g : Nat) (s0 : ByteArray) (wz : World) (w : World) (x0 : Ext wz w) (tb : Tabs Tryd.prog wz) (hb : BW 5 85 wz.heap.size w g s0) (hx : x.wf) (hs : s0.size + (termW x).size ≤ 140737488355328) :
    Rt Tryd.prog 41 #[.pointer (some ⟨g,0,none⟩),.agg #[.string x.v,.int .i8 x.l.k,.int .i64 x.l.n,.string x.l.s]] w fun v w' => v = .tuple #[] ∧ Wr 5 85 wz.heap.size g (s0 ++ termW x) w w' := by
  refine enter Tryd.func41 rfl (l := [.pointer (some ⟨g,0,none⟩),.agg #[.string x.v,.int .i8 x.l.k,.int .i64 x.l.n,.string x.l.s]]) rfl Tryd.ntmps41 (Nat.le_of_ble_eq_true rfl) ?_
  have hB_ := Keep.size x0
  refine c_seq (c_reg (s_box (v := .agg #[.string x.v,.int .i8 x.l.k,.int .i64 x.l.n,.string x.l.s]) (cs := #[.string x.v,.int .i8 x.l.k,.int .i64 x.l.n,.string x.l.s]) (w0 rfl) (ej rfl rfl) rfl ?_))
  intro w2 g1 n3
  have ne_g1 : g1 ≠ g := by have a_ := NewB.eq n3; have b_ := BW.lt hb; omega
  refine c_done (n_then (c_seq (c_seq (c_reg (s_field (off := 0) (o' := 0) F_f28_0 (ej rfl rfl) rfl (w0 rfl) (s_load (v := .string x.v) F_o9 (ej rfl rfl) (cell_of_blk (i := 0) (NewB.blk n3) rfl) (w0 rfl) (s_cmpS (r := !decide (x.v = (⟨#[]⟩ : ByteArray))) (ej rfl rfl) ev_c rfl (w0 rfl) (c_done (n_then ?_)))))))))
  by_cases h4 : x.v = (⟨#[]⟩ : ByteArray)
  · refine c_cond0 (vb (ej rfl rfl) (nb0 h4)) (c_skip (n_then (c_seq (c_reg (s_field (off := 1) (o' := 1) F_f28_1 (ej rfl rfl) rfl (w0 rfl) (s_loadL (cs := [.int .i8 x.l.k,.int .i64 x.l.n,.string x.l.s]) F_m26 (ej rfl rfl) rfl rfl (blk_cells (NewB.blk n3) 1 rfl) (w0 rfl) (s_call F_e72 (w0 rfl) ev_f (m1 (ej rfl rfl)) (args := #[.agg #[.int .i8 x.l.k,.int .i64 x.l.n,.string x.l.s]]) rfl (v_Show x.l _ (Tm.wf.l hx) (Tabs.ext tb (Ext.trans x0 (NewB.ext n3)))) ?_)))))))
    rintro _ w6 ⟨rfl,x5⟩
    refine s_move (v := .tuple #[.string (if okV x.l then showB x.l else ⟨#[]⟩),.int .i64 (if okV x.l then 0 else 10 : Int)]) (ej rfl rfl) (w0 rfl) (s_extract (v := .string (if okV x.l then showB x.l else ⟨#[]⟩)) (ej rfl rfl) rfl (w0 rfl) (s_extract (v := .int .i64 (if okV x.l then 0 else 10 : Int)) (ej rfl rfl) rfl (w0 rfl) (s_assign (v := .string (if okV x.l then showB x.l else ⟨#[]⟩)) (ej rfl rfl) (w0 rfl) (s_assign (v := .int .i64 (if okV x.l then 0 else 10 : Int)) (ej rfl rfl) (w0 rfl) (c_done (n_then (c_reg (s_move (v := .pointer (some ⟨g,0,none⟩)) (ej rfl rfl) (w0 rfl) (s_move (v := .string (if okV x.l then showB x.l else ⟨#[]⟩)) (ej rfl rfl) (w0 rfl) (s_bslice (vs := [(0,.string (if okV x.l then showB x.l else ⟨#[]⟩))]) (cs := #[.string (if okV x.l then showB x.l else ⟨#[]⟩)]) (b1 (ej rfl rfl)) (bs122_1_0s (if okV x.l then showB x.l else ⟨#[]⟩)) (w0 rfl) ?_))))))))))
    intro w8 g7 n9
    have ne_g7 : g7 ≠ g := by have a_ := NewB.eq n9; have b_ := BW.lt (BW.ext (BW.ext hb (NewB.ext n3)) x5); omega
    refine s_call F_e35 (w0 rfl) ev_f (m2 (ej rfl rfl) (ej rfl rfl)) (args := #[.pointer (some ⟨g,0,none⟩),.slice (some ⟨g7,0,none⟩) 1 1]) rfl (p_put 85 _ g g7 (s0) [(if okV x.l then showB x.l else ⟨#[]⟩)] _ (BW.ext (BW.ext (BW.ext hb (NewB.ext n3)) x5) (NewB.ext n9)) (Nat.le_trans (Nat.le_trans (Nat.le_trans hB_ (Keep.size (NewB.ext n3))) (Keep.size x5)) (Keep.size (NewB.ext n9))) (by decide) F_lies85 (NewB.blk n9) (by simp only [catL,app_nil]; revert hs; simp only [termW, *,if_true,if_false]; intro hs; omega) (by simp)) ?_
    rintro _ w10 ⟨rfl,wr11⟩
    refine c_done (ret0 rfl ?_)
    exact ⟨_,rfl,rfl,Wr.cast (Wr.then_ (Wr.of_ext hb (Ext.trans (Ext.trans (NewB.ext n3) x5) (NewB.ext n9)) hB_) wr11) (by simp [termW,catL,app_nil, *])⟩
  refine c_cond1 (vb (ej rfl rfl) (nb1 h4)) (c_seq (c_reg (s_move (v := .pointer (some ⟨g,0,none⟩)) (ej rfl rfl) (w0 rfl) (s_field (off := 0) (o' := 0) F_f28_0 (ej rfl rfl) rfl (w0 rfl) (s_load (v := .string x.v) F_o9 (ej rfl rfl) (cell_of_blk (i := 0) (NewB.blk n3) rfl) (w0 rfl) (s_bslice (vs := [(0,.string x.v)]) (cs := #[.string x.v]) (b1 (ej rfl rfl)) (bs122_1_0s x.v) (w0 rfl) ?_))))))
  intro w13 g12 n14
  have ne_g12 : g12 ≠ g := by have a_ := NewB.eq n14; have b_ := BW.lt (BW.ext hb (NewB.ext n3)); omega
  refine s_call F_e35 (w0 rfl) ev_f (m2 (ej rfl rfl) (ej rfl rfl)) (args := #[.pointer (some ⟨g,0,none⟩),.slice (some ⟨g12,0,none⟩) 1 1]) rfl (p_put 85 _ g g12 (s0) [x.v] _ (BW.ext (BW.ext hb (NewB.ext n3)) (NewB.ext n14)) (Nat.le_trans (Nat.le_trans hB_ (Keep.size (NewB.ext n3))) (Keep.size (NewB.ext n14))) (by decide) F_lies85 (NewB.blk n14) (by simp only [catL,app_nil]; revert hs; simp only [termW, *,if_true,if_false]; intro hs; omega) (by simp)) ?_
  rintro _ w15 ⟨rfl,wr16⟩
  refine c_done (n_then (c_ret (r_then (ret0r rfl ?_))))
  exact ⟨_,rfl,rfl,Wr.cast (Wr.then_ (Wr.of_ext hb (Ext.trans (NewB.ext n3) (NewB.ext n14)) hB_) wr16) (by simp [termW,catL,app_nil, *])⟩
theorem p_side (d : Nat) (x : Ex) (A : Option Addr) (c : Nat) (b : Bool) (g : Nat) (s0 : ByteArray) (wz : World) (w : World) (x0 : Ext wz w) (tb : Tabs Tryd.prog wz) (hb : BW 5 85 wz.heap.size w g s0) (ho : x.okc c) (hr : Row RE 6 wz A x.kids) (hd : exB d x = true) (hz : (exW d x).size ≤ 2 ^ d * 900 - 8) (hs : s0.size + 2 ^ d * 900 + 2 ≤ 100000000000000) (he : ∀ (A : Option Addr) (c : Nat) (w : World) (s0 : ByteArray),x.okc c → Row RE 6 wz A x.kids → Ext wz w → BW 5 85 wz.heap.size w g s0 → s0.size + 2 ^ d * 900 ≤ 100000000000000 → Rt Tryd.prog 24 #[.pointer (some ⟨g,0,none⟩),.agg #[.int .i8 x.op,.string x.t.v,.int .i8 x.t.l.k,.int .i64 x.t.l.n,.string x.t.l.s,.slice A x.kids.length c]] w fun v w' => v = .tuple #[] ∧ Wr 5 85 wz.heap.size g (s0 ++ exW d x) w w') :
    Rt Tryd.prog 52 #[.pointer (some ⟨g,0,none⟩),.agg #[.int .i8 x.op,.string x.t.v,.int .i8 x.t.l.k,.int .i64 x.t.l.n,.string x.t.l.s,.slice A x.kids.length c],.bool b] w fun v w' => v = .tuple #[] ∧ Wr 5 85 wz.heap.size g (s0 ++ inB b (exW d x)) w w' := by
  refine enter Tryd.func52 rfl (l := [.pointer (some ⟨g,0,none⟩),.agg #[.int .i8 x.op,.string x.t.v,.int .i8 x.t.l.k,.int .i64 x.t.l.n,.string x.t.l.s,.slice A x.kids.length c],.bool b]) rfl Tryd.ntmps52 (Nat.le_of_ble_eq_true rfl) ?_
  have hB_ := Keep.size x0
  have hl_ := Ex.okc.l ho
  have hc_ := Ex.okc.c ho
  have hp_ : 1 ≤ 2 ^ d := Nat.one_le_two_pow
  refine c_seq (c_reg (s_box (v := .agg #[.int .i8 x.op,.string x.t.v,.int .i8 x.t.l.k,.int .i64 x.t.l.n,.string x.t.l.s,.slice A x.kids.length c]) (cs := #[.int .i8 x.op,.string x.t.v,.int .i8 x.t.l.k,.int .i64 x.t.l.n,.string x.t.l.s,.slice A x.kids.length c]) (w0 rfl) (ej rfl rfl) rfl ?_))
  intro w2 g1 n3
  have ne_g1 : g1 ≠ g := by have a_ := NewB.eq n3; have b_ := BW.lt hb; omega
  refine c_done (n_then (c_seq (c_seq (c_reg (s_move (v := .bool b) (ej rfl rfl) (w0 rfl) (s_not (b := b) (ej rfl rfl) (w0 rfl) (c_done (n_then ?_))))))))
  rcases Bool.eq_false_or_eq_true b with h4 | h4
  · refine c_cond0 (vb (ej rfl rfl) (nbt h4)) (c_skip (n_then (c_seq (c_reg (s_move (v := .pointer (some ⟨g,0,none⟩)) (ej rfl rfl) (w0 rfl) (s_bslice (vs := [(0,.string (⟨#[40]⟩ : ByteArray))]) (cs := #[.string (⟨#[40]⟩ : ByteArray)]) (b1 ev_c) (bs122_1_0s (⟨#[40]⟩ : ByteArray)) (w0 rfl) ?_))))))
    intro w6 g5 n7
    have ne_g5 : g5 ≠ g := by have a_ := NewB.eq n7; have b_ := BW.lt (BW.ext hb (NewB.ext n3)); omega
    refine s_call F_e35 (w0 rfl) ev_f (m2 (ej rfl rfl) (ej rfl rfl)) (args := #[.pointer (some ⟨g,0,none⟩),.slice (some ⟨g5,0,none⟩) 1 1]) rfl (p_put 85 _ g g5 (s0) [(⟨#[40]⟩ : ByteArray)] _ (BW.ext (BW.ext hb (NewB.ext n3)) (NewB.ext n7)) (Nat.le_trans (Nat.le_trans hB_ (Keep.size (NewB.ext n3))) (Keep.size (NewB.ext n7))) (by decide) F_lies85 (NewB.blk n7) (by simp only [catL,ByteArray.size_append,z0,z1,z2,z3,z4,z5,z6]; omega) (by simp)) ?_
    rintro _ w8 ⟨rfl,wr9⟩
    refine c_done (n_then (c_seq (c_reg (s_move (v := .pointer (some ⟨g,0,none⟩)) (ej rfl rfl) (w0 rfl) (s_loadL (cs := [.int .i8 x.op,.string x.t.v,.int .i8 x.t.l.k,.int .i64 x.t.l.n,.string x.t.l.s,.slice A x.kids.length c]) F_m31 (ej rfl rfl) rfl rfl (blk_cells (Wr.blk wr9 (Ext.blk (NewB.ext n7) (NewB.blk n3)) (Or.inl (by decide)) ne_g1) 0 rfl) (w0 rfl) (s_call F_e24 (w0 rfl) ev_f (m2 (ej rfl rfl) (ej rfl rfl)) (args := #[.pointer (some ⟨g,0,none⟩),.agg #[.int .i8 x.op,.string x.t.v,.int .i8 x.t.l.k,.int .i64 x.t.l.n,.string x.t.l.s,.slice A x.kids.length c]]) rfl (he A c _ (s0 ++ (catL [(⟨#[40]⟩ : ByteArray)])) ho hr (Wr.after wr9 (Ext.trans (Ext.trans x0 (NewB.ext n3)) (NewB.ext n7)) rfl) (Wr.bw wr9) (by (try simp only [catL,ByteArray.size_append,z0,z1]); omega)) ?_))))))
    rintro _ w10 ⟨rfl,wr11⟩
    refine c_done (n_then (c_reg (s_move (v := .pointer (some ⟨g,0,none⟩)) (ej rfl rfl) (w0 rfl) (s_bslice (vs := [(0,.string (⟨#[41]⟩ : ByteArray))]) (cs := #[.string (⟨#[41]⟩ : ByteArray)]) (b1 ev_c) (bs122_1_0s (⟨#[41]⟩ : ByteArray)) (w0 rfl) ?_))))
    intro w13 g12 n14
    have ne_g12 : g12 ≠ g := by have a_ := NewB.eq n14; have b_ := BW.lt (Wr.bw wr11); omega
    refine s_call F_e35 (w0 rfl) ev_f (m2 (ej rfl rfl) (ej rfl rfl)) (args := #[.pointer (some ⟨g,0,none⟩),.slice (some ⟨g12,0,none⟩) 1 1]) rfl (p_put 85 _ g g12 (s0 ++ (catL [(⟨#[40]⟩ : ByteArray)]) ++ (exW d x)) [(⟨#[41]⟩ : ByteArray)] _ (BW.ext (Wr.bw wr11) (NewB.ext n14)) (Nat.le_trans (Nat.le_trans (Nat.le_trans (Nat.le_trans (Nat.le_trans hB_ (Keep.size (NewB.ext n3))) (Keep.size (NewB.ext n7))) (Wr.size wr9)) (Wr.size wr11)) (Keep.size (NewB.ext n14))) (by decide) F_lies85 (NewB.blk n14) (by simp only [catL,ByteArray.size_append,z0,z1,z2,z3,z4,z5,z6]; omega) (by simp)) ?_
    rintro _ w15 ⟨rfl,wr16⟩
    refine c_done (ret0 rfl ?_)
    exact ⟨_,rfl,rfl,Wr.cast (Wr.then_ (Wr.ext (Wr.then_ (Wr.then_ (Wr.of_ext hb (Ext.trans (NewB.ext n3) (NewB.ext n7)) hB_) wr9) wr11) (NewB.ext n14) hB_) wr16) (by simp only [inB, *,if_true,if_false,Bool.false_eq_true]; try simp only [app_assoc,catL,app_nil])⟩
  refine c_cond1 (vb (ej rfl rfl) (nbf h4)) (c_seq (c_reg (s_move (v := .pointer (some ⟨g,0,none⟩)) (ej rfl rfl) (w0 rfl) (s_loadL (cs := [.int .i8 x.op,.string x.t.v,.int .i8 x.t.l.k,.int .i64 x.t.l.n,.string x.t.l.s,.slice A x.kids.length c]) F_m31 (ej rfl rfl) rfl rfl (blk_cells (NewB.blk n3) 0 rfl) (w0 rfl) (s_call F_e24 (w0 rfl) ev_f (m2 (ej rfl rfl) (ej rfl rfl)) (args := #[.pointer (some ⟨g,0,none⟩),.agg #[.int .i8 x.op,.string x.t.v,.int .i8 x.t.l.k,.int .i64 x.t.l.n,.string x.t.l.s,.slice A x.kids.length c]]) rfl (he A c _ (s0) ho hr (Ext.trans x0 (NewB.ext n3)) (BW.ext hb (NewB.ext n3)) (by (try simp only [catL,ByteArray.size_append,z0,z1]); omega)) ?_)))))
  rintro _ w17 ⟨rfl,wr18⟩
  refine c_done (n_then (c_ret (r_then (ret0r rfl ?_))))
  exact ⟨_,rfl,rfl,Wr.cast (Wr.then_ (Wr.of_ext hb (NewB.ext n3) hB_) wr18) (by simp only [inB, *,if_true,if_false,Bool.false_eq_true]; try simp only [app_assoc,catL,app_nil])⟩
theorem p_expr_step (d : Nat) (x : Ex) (A : Option Addr) (c : Nat) (g : Nat) (s0 : ByteArray) (wz : World) (w : World) (x0 : Ext wz w) (tb : Tabs Tryd.prog wz) (hb : BW 5 85 wz.heap.size w g s0) (ho : x.okc c) (hr : Row RE 6 wz A x.kids) (hd : d ≤ 8) (hb_ : exB d x = true) (hs : s0.size + 2 ^ d * 900 ≤ 100000000000000) (ih : d ≠ 0 → ∀ (j : Nat) (y : Ex),x.kids[j]? = some y → exB (d - 1) y = true → ∀ (A : Option Addr) (c : Nat) (w : World) (s0 : ByteArray),y.okc c → Row RE 6 wz A y.kids → Ext wz w → BW 5 85 wz.heap.size w g s0 → s0.size + 2 ^ (d - 1) * 900 ≤ 100000000000000 → Rt Tryd.prog 24 #[.pointer (some ⟨g,0,none⟩),.agg #[.int .i8 y.op,.string y.t.v,.int .i8 y.t.l.k,.int .i64 y.t.l.n,.string y.t.l.s,.slice A y.kids.length c]] w fun v w' => v = .tuple #[] ∧ Wr 5 85 wz.heap.size g (s0 ++ exW (d - 1) y) w w') :
    Rt Tryd.prog 24 #[.pointer (some ⟨g,0,none⟩),.agg #[.int .i8 x.op,.string x.t.v,.int .i8 x.t.l.k,.int .i64 x.t.l.n,.string x.t.l.s,.slice A x.kids.length c]] w fun v w' => v = .tuple #[] ∧ Wr 5 85 wz.heap.size g (s0 ++ exW d x) w w' := by
  refine enter Tryd.func24 rfl (l := [.pointer (some ⟨g,0,none⟩),.agg #[.int .i8 x.op,.string x.t.v,.int .i8 x.t.l.k,.int .i64 x.t.l.n,.string x.t.l.s,.slice A x.kids.length c]]) rfl Tryd.ntmps24 (Nat.le_of_ble_eq_true rfl) ?_
  have hB_ := Keep.size x0
  have hl_ := Ex.okc.l ho
  have hc_ := Ex.okc.c ho
  have hk_ := Go.Wk.Row.ok hr ho.t
  have ⟨hd0_,_,_⟩ := exB_parts hb_
  obtain ⟨ho1_,ho2_,ho3_⟩ := exOp hb_
  have hw1_ := wordW_size x.op
  have hw2_ := signW_size x.op
  have hp_ : 2 ^ d = 2 * 2 ^ (d - 1) := by obtain ⟨d',rfl⟩ := Nat.exists_eq_succ_of_ne_zero hd0_; rw [Nat.pow_succ]; simp; omega
  have hp1_ : 1 ≤ 2 ^ (d - 1) := Nat.one_le_two_pow
  refine c_seq (c_reg (s_box (v := .agg #[.int .i8 x.op,.string x.t.v,.int .i8 x.t.l.k,.int .i64 x.t.l.n,.string x.t.l.s,.slice A x.kids.length c]) (cs := #[.int .i8 x.op,.string x.t.v,.int .i8 x.t.l.k,.int .i64 x.t.l.n,.string x.t.l.s,.slice A x.kids.length c]) (w0 rfl) (ej rfl rfl) rfl ?_))
  intro w2 g1 n3
  have ne_g1 : g1 ≠ g := by have a_ := NewB.eq n3; have b_ := BW.lt hb; omega
  refine c_done (n_then (c_block (c_seq (c_reg (s_field (off := 0) (o' := 0) F_f31_0 (ej rfl rfl) rfl (w0 rfl) (s_load (v := .int .i8 x.op) F_o23 (ej rfl rfl) (cell_of_blk (i := 0) (NewB.blk n3) rfl) (w0 rfl) (s_cmp (r := decide (x.op = 0)) (ej rfl rfl) ev_c rfl (w0 rfl) (s_assign (v := .bool (decide (x.op = 0))) (ej rfl rfl) (w0 rfl) (c_done (n_then ?_))))))))))
  by_cases h4 : x.op = 0
  · refine c_cond1 (vb (ej rfl rfl) (decide_eq_true h4)) (c_reg (s_move (v := .pointer (some ⟨g,0,none⟩)) (ej rfl rfl) (w0 rfl) (s_field (off := 1) (o' := 1) F_f31_1 (ej rfl rfl) rfl (w0 rfl) (s_loadL (cs := [.string x.t.v,.int .i8 x.t.l.k,.int .i64 x.t.l.n,.string x.t.l.s]) F_m28 (ej rfl rfl) rfl rfl (blk_cells (NewB.blk n3) 1 rfl) (w0 rfl) (s_call F_e41 (w0 rfl) ev_f (m2 (ej rfl rfl) (ej rfl rfl)) (args := #[.pointer (some ⟨g,0,none⟩),.agg #[.string x.t.v,.int .i8 x.t.l.k,.int .i64 x.t.l.n,.string x.t.l.s]]) rfl (p_term x.t g (s0) wz _ (Ext.trans x0 (NewB.ext n3)) tb (BW.ext hb (NewB.ext n3)) (Ex.okc.t ho) (by have := termW_size ((exB_parts hb_).2.1 (by omega)).2.2 ho.t; have : 1 ≤ 2 ^ d := Nat.one_le_two_pow; omega)) ?_)))))
    rintro _ w5 ⟨rfl,wr6⟩
    refine c_done (n_block (ret0 rfl ?_))
    exact ⟨_,rfl,rfl,Wr.cast (Wr.then_ (Wr.of_ext hb (NewB.ext n3) hB_) wr6) (by rw [exW_pos hd0_]; first | (rw [if_pos (by omega)]; done) | (rw [if_neg (by omega),if_pos (by omega)]; simp only [inB,if_true,catL,app_nil,app_assoc]; done) | (have hf_ := fast_neg (x := x) (by omega); rw [if_neg (by omega),if_neg (by omega),if_pos (by omega),show (decide (fast (x.kid 0) < 3) || numB (x.kid 0)) = true by simp only [hf_] at *; simp [numB, *]]; simp only [catL,app_nil,app_assoc]; done) | (rw [if_neg (by omega),if_neg (by omega),if_neg (by omega)]; simp only [catL,app_nil,app_assoc]; done))⟩
  refine c_cond0 (vb (ej rfl rfl) (decide_eq_false h4)) (c_seq (c_reg (s_field (off := 0) (o' := 0) F_f31_0 (ej rfl rfl) rfl (w0 rfl) (s_load (v := .int .i8 x.op) F_o23 (ej rfl rfl) (cell_of_blk (i := 0) (NewB.blk n3) rfl) (w0 rfl) (s_cmp (r := decide (x.op = 1)) (ej rfl rfl) ev_c rfl (w0 rfl) (s_assign (v := .bool (decide (x.op = 1))) (ej rfl rfl) (w0 rfl) (c_done (n_then ?_))))))))
  by_cases h7 : x.op = 1
  · refine c_cond1 (vb (ej rfl rfl) (decide_eq_true h7)) (c_seq (c_reg (s_field (off := 5) (o' := 5) F_f31_2 (ej rfl rfl) rfl (w0 rfl) (s_load (v := .slice A x.kids.length c) F_o29 (ej rfl rfl) (cell_of_blk (i := 5) (NewB.blk n3) rfl) (w0 rfl) ?_))))
    obtain ⟨b8,o9,x10,csx10,hA11,hx12,hR13,hc14⟩ := Row.at_ hr 0 (by omega)
    obtain rfl := Ex.kid_of hx12
    obtain ⟨A15,c16,rfl,ho17,hr18⟩ := RE.open_ hR13
    refine s_indexR (j := 0) F_l29 (ej rfl rfl) hA11 ev_c rfl (by omega) (w0 rfl) ?_
    have hk19 := ex_ops (exKid0 hb_ (by omega))
    refine s_loadL (cs := [.int .i8 ((x.kid 0).op),.string ((x.kid 0).t.v),.int .i8 ((x.kid 0).t.l.k),.int .i64 ((x.kid 0).t.l.n),.string ((x.kid 0).t.l.s),.slice A15 ((x.kid 0).kids.length) c16]) F_m31 (ej rfl rfl) rfl rfl (sub_cells (cells_ext (NewB.ext n3) (cells_ext x0 hc14)) 0 rfl) (w0 rfl) (s_alloc (cs := #[.int .i8 0,.string (⟨#[]⟩ : ByteArray),.int .i8 0,.int .i64 0,.string (⟨#[]⟩ : ByteArray),.slice none 0 0]) (w0 rfl) F_z31 rfl ?_)
    intro w21 g20 n22
    have ne_g20 : g20 ≠ g := by have a_ := NewB.eq n22; have b_ := BW.lt (BW.ext hb (NewB.ext n3)); omega
    refine s_store (cs' := #[.int .i8 ((x.kid 0).op),.string ((x.kid 0).t.v),.int .i8 ((x.kid 0).t.l.k),.int .i64 ((x.kid 0).t.l.n),.string ((x.kid 0).t.l.s),.slice A15 ((x.kid 0).kids.length) c16]) F_sz31 (ej rfl rfl) (ej rfl rfl) (l := [.int .i8 ((x.kid 0).op),.string ((x.kid 0).t.v),.int .i8 ((x.kid 0).t.l.k),.int .i64 ((x.kid 0).t.l.n),.string ((x.kid 0).t.l.s),.slice A15 ((x.kid 0).kids.length) c16]) rfl rfl rfl (NewB.blk n22) (Nat.le_of_ble_eq_true rfl) rfl (w0 rfl) ?_
    intro w23 k24
    refine c_done (n_then (c_seq (c_reg (s_move (v := .pointer (some ⟨g,0,none⟩)) (ej rfl rfl) (w0 rfl) (s_bslice (vs := [(0,.string (⟨#[45]⟩ : ByteArray))]) (cs := #[.string (⟨#[45]⟩ : ByteArray)]) (b1 ev_c) (bs122_1_0s (⟨#[45]⟩ : ByteArray)) (w0 rfl) ?_)))))
    intro w26 g25 n27
    have ne_g25 : g25 ≠ g := by have a_ := NewB.eq n27; have b_ := BW.lt (BW.ext hb (Keep.then_ (Ext.trans (NewB.ext n3) (NewB.ext n22)) (Wrote.keep k24) (fun i_ hi_ h_ => by have a_ := NewB.eq n22; have b_ := Keep.size (NewB.ext n3); omega))); omega
    refine s_call F_e35 (w0 rfl) ev_f (m2 (ej rfl rfl) (ej rfl rfl)) (args := #[.pointer (some ⟨g,0,none⟩),.slice (some ⟨g25,0,none⟩) 1 1]) rfl (p_put 85 _ g g25 (s0) [(⟨#[45]⟩ : ByteArray)] _ (BW.ext hb (Ext.trans (Keep.then_ (Ext.trans (NewB.ext n3) (NewB.ext n22)) (Wrote.keep k24) (fun i_ hi_ h_ => by have a_ := NewB.eq n22; have b_ := Keep.size (NewB.ext n3); omega)) (NewB.ext n27))) (Nat.le_trans (Nat.le_trans (Nat.le_trans (Nat.le_trans hB_ (Keep.size (NewB.ext n3))) (Keep.size (NewB.ext n22))) (Keep.size (Wrote.keep k24))) (Keep.size (NewB.ext n27))) (by decide) F_lies85 (NewB.blk n27) (by simp only [catL,ByteArray.size_append,z0,z1,z2,z3,z4,z5,z6]; omega) (by simp)) ?_
    rintro _ w28 ⟨rfl,wr29⟩
    refine c_done (n_then (c_tail 36 mixed (by kernel_rfl) rfl rfl ?_))
    intro w30 x31
    refine t_val (v := .pointer (some ⟨g,0,none⟩)) (w0 rfl) (r_move (v := .pointer (some ⟨g,0,none⟩)) (ej rfl rfl)) (t_val (v := .agg #[.int .i8 ((x.kid 0).op),.string ((x.kid 0).t.v),.int .i8 ((x.kid 0).t.l.k),.int .i64 ((x.kid 0).t.l.n),.string ((x.kid 0).t.l.s),.slice A15 ((x.kid 0).kids.length) c16]) (w0 rfl) (r_loadL (cs := [.int .i8 ((x.kid 0).op),.string ((x.kid 0).t.v),.int .i8 ((x.kid 0).t.l.k),.int .i64 ((x.kid 0).t.l.n),.string ((x.kid 0).t.l.s),.slice A15 ((x.kid 0).kids.length) c16]) F_m31 (ej rfl rfl) rfl rfl (blk_cells (Ext.blk x31 (Wr.blk wr29 (Ext.blk (NewB.ext n27) (Wrote.blk k24)) (Or.inl (by decide)) ne_g20)) 0 rfl)) (t_val (v := .pointer (some ⟨g20,0,none⟩)) (w0 rfl) (r_field (off := 0) (o' := 0) F_f31_0 (ej rfl rfl) rfl) (t_val (v := .int .i8 ((x.kid 0).op)) (w0 rfl) (r_load (v := .int .i8 ((x.kid 0).op)) F_o23 (ej rfl rfl) (cell_of_blk (i := 0) (Ext.blk x31 (Wr.blk wr29 (Ext.blk (NewB.ext n27) (Wrote.blk k24)) (Or.inl (by decide)) ne_g20)) rfl)) (t_val (v := .pointer (some ⟨0,0 + ((x.kid 0).op).toNat * 1,none⟩)) (w0 rfl) (r_indexA (j := ((x.kid 0).op).toNat) F_ar104 ev_g (ej rfl rfl) (by omega) (by omega)) (t_val (v := .int .i64 (fast (x.kid 0))) (w0 rfl) (r_load (v := .int .i64 (fast (x.kid 0))) F_o3 (ej rfl rfl) (Tabs.hold_at (Tabs.ext tb (Ext.trans (Wr.after wr29 (Ext.trans (Keep.then_ (Ext.trans (Ext.trans x0 (NewB.ext n3)) (NewB.ext n22)) (Wrote.keep k24) (fun i_ hi_ h_ => by have a_ := NewB.eq n22; have b_ := Keep.size (Ext.trans x0 (NewB.ext n3)); omega)) (NewB.ext n27)) rfl) x31)) F_gn0 (by omega))) (t_val (v := .pointer (some ⟨g1,0,none⟩)) (w0 rfl) (r_field (off := 0) (o' := 0) F_f31_0 (ej rfl rfl) rfl) (t_val (v := .int .i8 x.op) (w0 rfl) (r_load (v := .int .i8 x.op) F_o23 (ej rfl rfl) (cell_of_blk (i := 0) (Ext.blk x31 (Wr.blk wr29 (Ext.blk (NewB.ext n27) (Keep.blk (Wrote.keep k24) (Ext.blk (NewB.ext n22) (NewB.blk n3)) (by have a_ := NewB.eq n22; have b_ := lt_of_blk (NewB.blk n3); omega))) (Or.inl (by decide)) ne_g1)) rfl)) (t_val (v := .pointer (some ⟨0,0 + x.op.toNat * 1,none⟩)) (w0 rfl) (r_indexA (j := x.op.toNat) F_ar104 ev_g (ej rfl rfl) (by omega) (by omega)) (t_val (v := .int .i64 (fast x)) (w0 rfl) (r_load (v := .int .i64 (fast x)) F_o3 (ej rfl rfl) (Tabs.hold_at (Tabs.ext tb (Ext.trans (Wr.after wr29 (Ext.trans (Keep.then_ (Ext.trans (Ext.trans x0 (NewB.ext n3)) (NewB.ext n22)) (Wrote.keep k24) (fun i_ hi_ h_ => by have a_ := NewB.eq n22; have b_ := Keep.size (Ext.trans x0 (NewB.ext n3)); omega)) (NewB.ext n27)) rfl) x31)) F_gn0 (by omega))) (t_val (v := .bool (decide (fast (x.kid 0) < fast x))) (w0 rfl) (r_cmp (r := decide (fast (x.kid 0) < fast x)) (ej rfl rfl) (ej rfl rfl) rfl) ?_))))))))))
    by_cases h32 : fast (x.kid 0) < fast x
    · refine t_val (v := .bool true) (w0 rfl) (r_move (v := .bool true) (vb (ej rfl rfl) (decide_eq_true h32))) (t_skip (wn rfl rfl rfl rfl rfl) (t_skip (wn rfl rfl rfl rfl rfl) (t_skip (wn rfl rfl rfl rfl rfl) (t_skip (wn rfl rfl rfl rfl rfl) (t_skip (wu rfl rfl rfl rfl) (t_skip (wu rfl rfl rfl rfl) (t_skip (wu rfl rfl rfl rfl) (t_skip (wu rfl rfl rfl rfl) (t_skip (wn rfl rfl rfl rfl rfl) (t_skip (wn rfl rfl rfl rfl rfl) (t_skip (wu rfl rfl rfl rfl) ?_)))))))))))
      refine t_skip (wu rfl rfl rfl rfl) (t_skip (wu rfl rfl rfl rfl) (t_skip (wu rfl rfl rfl rfl) (t_skip (wu rfl rfl rfl rfl) (t_skip (wn rfl rfl rfl rfl rfl) (t_skip (wn rfl rfl rfl rfl rfl) (t_skip (wu rfl rfl rfl rfl) (t_skip (wu rfl rfl rfl rfl) (t_skip (wu rfl rfl rfl rfl) (t_skip (wu rfl rfl rfl rfl) (t_skip (wu rfl rfl rfl rfl) (t_skip (wn rfl rfl rfl rfl rfl) ?_)))))))))))
      refine t_val (v := .bool true) (w0 rfl) (r_pick1 (v := .bool true) (ej rfl rfl) ev_c) (t_done ?_)
      have hz33 := exW_size (d - 1) (x.kid 0) (exKid0 hb_ (by omega)) (Ex.Ok.kid hk_ (kid_there (x := x) (j := 0) (by omega)))
      have hz34 := inB_size true (exW (d - 1) (x.kid 0))
      refine s_call F_e52 (w0 rfl) ev_f (m3 (ej rfl rfl) (ej rfl rfl) (ej rfl rfl)) (args := #[.pointer (some ⟨g,0,none⟩),.agg #[.int .i8 ((x.kid 0).op),.string ((x.kid 0).t.v),.int .i8 ((x.kid 0).t.l.k),.int .i64 ((x.kid 0).t.l.n),.string ((x.kid 0).t.l.s),.slice A15 ((x.kid 0).kids.length) c16],.bool true]) rfl (p_side (d - 1) (x.kid 0) A15 c16 true g (s0 ++ (catL [(⟨#[45]⟩ : ByteArray)])) wz _ (Ext.trans (Wr.after wr29 (Ext.trans (Keep.then_ (Ext.trans (Ext.trans x0 (NewB.ext n3)) (NewB.ext n22)) (Wrote.keep k24) (fun i_ hi_ h_ => by have a_ := NewB.eq n22; have b_ := Keep.size (Ext.trans x0 (NewB.ext n3)); omega)) (NewB.ext n27)) rfl) x31) tb (BW.ext (Wr.bw wr29) x31) ho17 hr18 (exKid0 hb_ (by omega)) hz33 (by (try simp only [catL,ByteArray.size_append,z0,z1]); omega) (fun A_ c_ w_ s_ ho_ hr_ x_ hbw_ hs_ => ih (by omega) 0 _ (kid_there (x := x) (j := 0) (by omega)) (exKid0 hb_ (by omega)) A_ c_ w_ s_ ho_ hr_ x_ hbw_ hs_)) ?_
      rintro _ w35 ⟨rfl,wr36⟩
      refine c_done (n_block (ret0 rfl ?_))
      exact ⟨_,rfl,rfl,Wr.cast (Wr.then_ (Wr.ext (Wr.then_ (Wr.of_ext hb (Ext.trans (Keep.then_ (Ext.trans (NewB.ext n3) (NewB.ext n22)) (Wrote.keep k24) (fun i_ hi_ h_ => by have a_ := NewB.eq n22; have b_ := Keep.size (NewB.ext n3); omega)) (NewB.ext n27)) hB_) wr29) x31 hB_) wr36) (by rw [exW_pos hd0_]; first | (rw [if_pos (by omega)]; done) | (rw [if_neg (by omega),if_pos (by omega)]; simp only [inB,if_true,catL,app_nil,app_assoc]; done) | (have hf_ := fast_neg (x := x) (by omega); rw [if_neg (by omega),if_neg (by omega),if_pos (by omega),show (decide (fast (x.kid 0) < 3) || numB (x.kid 0)) = true by simp only [hf_] at *; simp [numB, *]]; simp only [catL,app_nil,app_assoc]; done) | (rw [if_neg (by omega),if_neg (by omega),if_neg (by omega)]; simp only [catL,app_nil,app_assoc]; done))⟩
    refine t_val (v := .bool false) (w0 rfl) (r_move (v := .bool false) (vb (ej rfl rfl) (decide_eq_false h32))) (t_val (v := .pointer (some ⟨g20,0,none⟩)) (wy rfl rfl rfl rfl) (r_field (off := 0) (o' := 0) F_f31_0 (ej rfl rfl) rfl) (t_val (v := .int .i8 ((x.kid 0).op)) (wy rfl rfl rfl rfl) (r_load (v := .int .i8 ((x.kid 0).op)) F_o23 (ej rfl rfl) (cell_of_blk (i := 0) (Ext.blk x31 (Wr.blk wr29 (Ext.blk (NewB.ext n27) (Wrote.blk k24)) (Or.inl (by decide)) ne_g20)) rfl)) (t_val (v := .bool (decide ((x.kid 0).op = 0))) (wy rfl rfl rfl rfl) (r_cmp (r := decide ((x.kid 0).op = 0)) (ej rfl rfl) ev_c rfl) ?_)))
    by_cases h37 : (x.kid 0).op = 0
    · refine t_val (v := .bool true) (wy rfl rfl rfl rfl) (r_move (v := .bool true) (vb (ej rfl rfl) (decide_eq_true h37))) (t_val (v := .pointer (some ⟨g20,1,none⟩)) (wy rfl rfl rfl rfl) (r_field (off := 1) (o' := 1) F_f31_1 (ej rfl rfl) rfl) (t_val (v := .pointer (some ⟨g20,1,none⟩)) (wy rfl rfl rfl rfl) (r_field (off := 0) (o' := 1) F_f28_0 (ej rfl rfl) rfl) (t_val (v := .string ((x.kid 0).t.v)) (wy rfl rfl rfl rfl) (r_load (v := .string ((x.kid 0).t.v)) F_o9 (ej rfl rfl) (cell_of_blk (i := 1) (Ext.blk x31 (Wr.blk wr29 (Ext.blk (NewB.ext n27) (Wrote.blk k24)) (Or.inl (by decide)) ne_g20)) rfl)) (t_val (v := .bool (decide ((x.kid 0).t.v = (⟨#[]⟩ : ByteArray)))) (wy rfl rfl rfl rfl) (r_cmpS (r := decide ((x.kid 0).t.v = (⟨#[]⟩ : ByteArray))) (ej rfl rfl) ev_c rfl) (t_val (v := .bool (decide ((x.kid 0).t.v = (⟨#[]⟩ : ByteArray)))) (wy rfl rfl rfl rfl) (r_pick1 (v := .bool (decide ((x.kid 0).t.v = (⟨#[]⟩ : ByteArray)))) (ej rfl rfl) (ej rfl rfl)) ?_)))))
      by_cases h38 : (x.kid 0).t.v = (⟨#[]⟩ : ByteArray)
      · refine t_val (v := .bool true) (wy rfl rfl rfl rfl) (r_move (v := .bool true) (vb (ej rfl rfl) (decide_eq_true h38))) (t_val (v := .pointer (some ⟨g20,1,none⟩)) (wy rfl rfl rfl rfl) (r_field (off := 1) (o' := 1) F_f31_1 (ej rfl rfl) rfl) (t_val (v := .pointer (some ⟨g20,2,none⟩)) (wy rfl rfl rfl rfl) (r_field (off := 1) (o' := 2) F_f28_1 (ej rfl rfl) rfl) (t_val (v := .pointer (some ⟨g20,2,none⟩)) (wy rfl rfl rfl rfl) (r_field (off := 0) (o' := 2) F_f26_0 (ej rfl rfl) rfl) (t_val (v := .int .i8 ((x.kid 0).t.l.k)) (wy rfl rfl rfl rfl) (r_load (v := .int .i8 ((x.kid 0).t.l.k)) F_o24 (ej rfl rfl) (cell_of_blk (i := 2) (Ext.blk x31 (Wr.blk wr29 (Ext.blk (NewB.ext n27) (Wrote.blk k24)) (Or.inl (by decide)) ne_g20)) rfl)) (t_val (v := .bool (decide ((x.kid 0).t.l.k = 1))) (wy rfl rfl rfl rfl) (r_cmp (r := decide ((x.kid 0).t.l.k = 1)) (ej rfl rfl) ev_c rfl) (t_val (v := .bool (decide ((x.kid 0).t.l.k = 1))) (wy rfl rfl rfl rfl) (r_pick1 (v := .bool (decide ((x.kid 0).t.l.k = 1))) (ej rfl rfl) (ej rfl rfl)) ?_))))))
        by_cases h39 : (x.kid 0).t.l.k = 1
        · refine t_val (v := .bool true) (wy rfl rfl rfl rfl) (r_move (v := .bool true) (vb (ej rfl rfl) (decide_eq_true h39))) (t_val (v := .pointer (some ⟨g20,1,none⟩)) (wy rfl rfl rfl rfl) (r_field (off := 1) (o' := 1) F_f31_1 (ej rfl rfl) rfl) (t_val (v := .pointer (some ⟨g20,2,none⟩)) (wy rfl rfl rfl rfl) (r_field (off := 1) (o' := 2) F_f28_1 (ej rfl rfl) rfl) (t_val (v := .pointer (some ⟨g20,3,none⟩)) (wy rfl rfl rfl rfl) (r_field (off := 1) (o' := 3) F_f26_1 (ej rfl rfl) rfl) (t_val (v := .int .i64 ((x.kid 0).t.l.n)) (wy rfl rfl rfl rfl) (r_load (v := .int .i64 ((x.kid 0).t.l.n)) F_o2 (ej rfl rfl) (cell_of_blk (i := 3) (Ext.blk x31 (Wr.blk wr29 (Ext.blk (NewB.ext n27) (Wrote.blk k24)) (Or.inl (by decide)) ne_g20)) rfl)) (t_val (v := .bool (decide (0 ≤ (x.kid 0).t.l.n))) (wy rfl rfl rfl rfl) (r_cmp (r := decide (0 ≤ (x.kid 0).t.l.n)) (ej rfl rfl) ev_c rfl) (t_val (v := .bool (decide (0 ≤ (x.kid 0).t.l.n))) (wy rfl rfl rfl rfl) (r_pick1 (v := .bool (decide (0 ≤ (x.kid 0).t.l.n))) (ej rfl rfl) (ej rfl rfl)) (t_val (v := .bool (decide (0 ≤ (x.kid 0).t.l.n))) (w0 rfl) (r_pick0 (v := .bool (decide (0 ≤ (x.kid 0).t.l.n))) (ej rfl rfl) (ej rfl rfl)) (t_done ?_))))))))
          have hz40 := exW_size (d - 1) (x.kid 0) (exKid0 hb_ (by omega)) (Ex.Ok.kid hk_ (kid_there (x := x) (j := 0) (by omega)))
          have hz41 := inB_size (decide (0 ≤ (x.kid 0).t.l.n)) (exW (d - 1) (x.kid 0))
          refine s_call F_e52 (w0 rfl) ev_f (m3 (ej rfl rfl) (ej rfl rfl) (ej rfl rfl)) (args := #[.pointer (some ⟨g,0,none⟩),.agg #[.int .i8 ((x.kid 0).op),.string ((x.kid 0).t.v),.int .i8 ((x.kid 0).t.l.k),.int .i64 ((x.kid 0).t.l.n),.string ((x.kid 0).t.l.s),.slice A15 ((x.kid 0).kids.length) c16],.bool (decide (0 ≤ (x.kid 0).t.l.n))]) rfl (p_side (d - 1) (x.kid 0) A15 c16 (decide (0 ≤ (x.kid 0).t.l.n)) g (s0 ++ (catL [(⟨#[45]⟩ : ByteArray)])) wz _ (Ext.trans (Wr.after wr29 (Ext.trans (Keep.then_ (Ext.trans (Ext.trans x0 (NewB.ext n3)) (NewB.ext n22)) (Wrote.keep k24) (fun i_ hi_ h_ => by have a_ := NewB.eq n22; have b_ := Keep.size (Ext.trans x0 (NewB.ext n3)); omega)) (NewB.ext n27)) rfl) x31) tb (BW.ext (Wr.bw wr29) x31) ho17 hr18 (exKid0 hb_ (by omega)) hz40 (by (try simp only [catL,ByteArray.size_append,z0,z1]); omega) (fun A_ c_ w_ s_ ho_ hr_ x_ hbw_ hs_ => ih (by omega) 0 _ (kid_there (x := x) (j := 0) (by omega)) (exKid0 hb_ (by omega)) A_ c_ w_ s_ ho_ hr_ x_ hbw_ hs_)) ?_
          rintro _ w42 ⟨rfl,wr43⟩
          refine c_done (n_block (ret0 rfl ?_))
          exact ⟨_,rfl,rfl,Wr.cast (Wr.then_ (Wr.ext (Wr.then_ (Wr.of_ext hb (Ext.trans (Keep.then_ (Ext.trans (NewB.ext n3) (NewB.ext n22)) (Wrote.keep k24) (fun i_ hi_ h_ => by have a_ := NewB.eq n22; have b_ := Keep.size (NewB.ext n3); omega)) (NewB.ext n27)) hB_) wr29) x31 hB_) wr43) (by rw [exW_pos hd0_]; first | (rw [if_pos (by omega)]; done) | (rw [if_neg (by omega),if_pos (by omega)]; simp only [inB,if_true,catL,app_nil,app_assoc]; done) | (have hf_ := fast_neg (x := x) (by omega); rw [if_neg (by omega),if_neg (by omega),if_pos (by omega),show (decide (fast (x.kid 0) < 3) || numB (x.kid 0)) = (decide (0 ≤ (x.kid 0).t.l.n)) by simp only [hf_] at *; simp [numB, *]]; simp only [catL,app_nil,app_assoc]; done) | (rw [if_neg (by omega),if_neg (by omega),if_neg (by omega)]; simp only [catL,app_nil,app_assoc]; done))⟩
        refine t_val (v := .bool false) (wy rfl rfl rfl rfl) (r_move (v := .bool false) (vb (ej rfl rfl) (decide_eq_false h39))) (t_skip (wn rfl rfl rfl rfl rfl) (t_skip (wn rfl rfl rfl rfl rfl) (t_skip (wn rfl rfl rfl rfl rfl) (t_skip (wn rfl rfl rfl rfl rfl) (t_skip (wn rfl rfl rfl rfl rfl) (t_val (v := .bool false) (wy rfl rfl rfl rfl) (r_pick0 (v := .bool false) (ej rfl rfl) ev_c) (t_val (v := .bool false) (w0 rfl) (r_pick0 (v := .bool false) (ej rfl rfl) (ej rfl rfl)) (t_done ?_))))))))
        have hz44 := exW_size (d - 1) (x.kid 0) (exKid0 hb_ (by omega)) (Ex.Ok.kid hk_ (kid_there (x := x) (j := 0) (by omega)))
        have hz45 := inB_size false (exW (d - 1) (x.kid 0))
        refine s_call F_e52 (w0 rfl) ev_f (m3 (ej rfl rfl) (ej rfl rfl) (ej rfl rfl)) (args := #[.pointer (some ⟨g,0,none⟩),.agg #[.int .i8 ((x.kid 0).op),.string ((x.kid 0).t.v),.int .i8 ((x.kid 0).t.l.k),.int .i64 ((x.kid 0).t.l.n),.string ((x.kid 0).t.l.s),.slice A15 ((x.kid 0).kids.length) c16],.bool false]) rfl (p_side (d - 1) (x.kid 0) A15 c16 false g (s0 ++ (catL [(⟨#[45]⟩ : ByteArray)])) wz _ (Ext.trans (Wr.after wr29 (Ext.trans (Keep.then_ (Ext.trans (Ext.trans x0 (NewB.ext n3)) (NewB.ext n22)) (Wrote.keep k24) (fun i_ hi_ h_ => by have a_ := NewB.eq n22; have b_ := Keep.size (Ext.trans x0 (NewB.ext n3)); omega)) (NewB.ext n27)) rfl) x31) tb (BW.ext (Wr.bw wr29) x31) ho17 hr18 (exKid0 hb_ (by omega)) hz44 (by (try simp only [catL,ByteArray.size_append,z0,z1]); omega) (fun A_ c_ w_ s_ ho_ hr_ x_ hbw_ hs_ => ih (by omega) 0 _ (kid_there (x := x) (j := 0) (by omega)) (exKid0 hb_ (by omega)) A_ c_ w_ s_ ho_ hr_ x_ hbw_ hs_)) ?_
        rintro _ w46 ⟨rfl,wr47⟩
        refine c_done (n_block (ret0 rfl ?_))
        exact ⟨_,rfl,rfl,Wr.cast (Wr.then_ (Wr.ext (Wr.then_ (Wr.of_ext hb (Ext.trans (Keep.then_ (Ext.trans (NewB.ext n3) (NewB.ext n22)) (Wrote.keep k24) (fun i_ hi_ h_ => by have a_ := NewB.eq n22; have b_ := Keep.size (NewB.ext n3); omega)) (NewB.ext n27)) hB_) wr29) x31 hB_) wr47) (by rw [exW_pos hd0_]; first | (rw [if_pos (by omega)]; done) | (rw [if_neg (by omega),if_pos (by omega)]; simp only [inB,if_true,catL,app_nil,app_assoc]; done) | (have hf_ := fast_neg (x := x) (by omega); rw [if_neg (by omega),if_neg (by omega),if_pos (by omega),show (decide (fast (x.kid 0) < 3) || numB (x.kid 0)) = false by simp only [hf_] at *; simp [numB, *]]; simp only [catL,app_nil,app_assoc]; done) | (rw [if_neg (by omega),if_neg (by omega),if_neg (by omega)]; simp only [catL,app_nil,app_assoc]; done))⟩
      refine t_val (v := .bool false) (wy rfl rfl rfl rfl) (r_move (v := .bool false) (vb (ej rfl rfl) (decide_eq_false h38))) (t_skip (wn rfl rfl rfl rfl rfl) (t_skip (wn rfl rfl rfl rfl rfl) (t_skip (wn rfl rfl rfl rfl rfl) (t_skip (wn rfl rfl rfl rfl rfl) (t_skip (wn rfl rfl rfl rfl rfl) (t_val (v := .bool false) (wy rfl rfl rfl rfl) (r_pick0 (v := .bool false) (ej rfl rfl) ev_c) (t_val (v := .bool false) (wy rfl rfl rfl rfl) (r_move (v := .bool false) (ej rfl rfl)) (t_skip (wn rfl rfl rfl rfl rfl) (t_skip (wn rfl rfl rfl rfl rfl) (t_skip (wn rfl rfl rfl rfl rfl) (t_skip (wn rfl rfl rfl rfl rfl) ?_)))))))))))
      refine t_skip (wn rfl rfl rfl rfl rfl) (t_val (v := .bool false) (wy rfl rfl rfl rfl) (r_pick0 (v := .bool false) (ej rfl rfl) ev_c) (t_val (v := .bool false) (w0 rfl) (r_pick0 (v := .bool false) (ej rfl rfl) (ej rfl rfl)) (t_done ?_)))
      have hz48 := exW_size (d - 1) (x.kid 0) (exKid0 hb_ (by omega)) (Ex.Ok.kid hk_ (kid_there (x := x) (j := 0) (by omega)))
      have hz49 := inB_size false (exW (d - 1) (x.kid 0))
      refine s_call F_e52 (w0 rfl) ev_f (m3 (ej rfl rfl) (ej rfl rfl) (ej rfl rfl)) (args := #[.pointer (some ⟨g,0,none⟩),.agg #[.int .i8 ((x.kid 0).op),.string ((x.kid 0).t.v),.int .i8 ((x.kid 0).t.l.k),.int .i64 ((x.kid 0).t.l.n),.string ((x.kid 0).t.l.s),.slice A15 ((x.kid 0).kids.length) c16],.bool false]) rfl (p_side (d - 1) (x.kid 0) A15 c16 false g (s0 ++ (catL [(⟨#[45]⟩ : ByteArray)])) wz _ (Ext.trans (Wr.after wr29 (Ext.trans (Keep.then_ (Ext.trans (Ext.trans x0 (NewB.ext n3)) (NewB.ext n22)) (Wrote.keep k24) (fun i_ hi_ h_ => by have a_ := NewB.eq n22; have b_ := Keep.size (Ext.trans x0 (NewB.ext n3)); omega)) (NewB.ext n27)) rfl) x31) tb (BW.ext (Wr.bw wr29) x31) ho17 hr18 (exKid0 hb_ (by omega)) hz48 (by (try simp only [catL,ByteArray.size_append,z0,z1]); omega) (fun A_ c_ w_ s_ ho_ hr_ x_ hbw_ hs_ => ih (by omega) 0 _ (kid_there (x := x) (j := 0) (by omega)) (exKid0 hb_ (by omega)) A_ c_ w_ s_ ho_ hr_ x_ hbw_ hs_)) ?_
      rintro _ w50 ⟨rfl,wr51⟩
      refine c_done (n_block (ret0 rfl ?_))
      exact ⟨_,rfl,rfl,Wr.cast (Wr.then_ (Wr.ext (Wr.then_ (Wr.of_ext hb (Ext.trans (Keep.then_ (Ext.trans (NewB.ext n3) (NewB.ext n22)) (Wrote.keep k24) (fun i_ hi_ h_ => by have a_ := NewB.eq n22; have b_ := Keep.size (NewB.ext n3); omega)) (NewB.ext n27)) hB_) wr29) x31 hB_) wr51) (by rw [exW_pos hd0_]; first | (rw [if_pos (by omega)]; done) | (rw [if_neg (by omega),if_pos (by omega)]; simp only [inB,if_true,catL,app_nil,app_assoc]; done) | (have hf_ := fast_neg (x := x) (by omega); rw [if_neg (by omega),if_neg (by omega),if_pos (by omega),show (decide (fast (x.kid 0) < 3) || numB (x.kid 0)) = false by simp only [hf_] at *; simp [numB, *]]; simp only [catL,app_nil,app_assoc]; done) | (rw [if_neg (by omega),if_neg (by omega),if_neg (by omega)]; simp only [catL,app_nil,app_assoc]; done))⟩
    refine t_val (v := .bool false) (wy rfl rfl rfl rfl) (r_move (v := .bool false) (vb (ej rfl rfl) (decide_eq_false h37))) (t_skip (wn rfl rfl rfl rfl rfl) (t_skip (wn rfl rfl rfl rfl rfl) (t_skip (wn rfl rfl rfl rfl rfl) (t_skip (wn rfl rfl rfl rfl rfl) (t_val (v := .bool false) (wy rfl rfl rfl rfl) (r_pick0 (v := .bool false) (ej rfl rfl) ev_c) (t_val (v := .bool false) (wy rfl rfl rfl rfl) (r_move (v := .bool false) (ej rfl rfl)) (t_skip (wn rfl rfl rfl rfl rfl) (t_skip (wn rfl rfl rfl rfl rfl) (t_skip (wn rfl rfl rfl rfl rfl) (t_skip (wn rfl rfl rfl rfl rfl) (t_skip (wn rfl rfl rfl rfl rfl) ?_)))))))))))
    refine t_val (v := .bool false) (wy rfl rfl rfl rfl) (r_pick0 (v := .bool false) (ej rfl rfl) ev_c) (t_val (v := .bool false) (wy rfl rfl rfl rfl) (r_move (v := .bool false) (ej rfl rfl)) (t_skip (wn rfl rfl rfl rfl rfl) (t_skip (wn rfl rfl rfl rfl rfl) (t_skip (wn rfl rfl rfl rfl rfl) (t_skip (wn rfl rfl rfl rfl rfl) (t_skip (wn rfl rfl rfl rfl rfl) (t_val (v := .bool false) (wy rfl rfl rfl rfl) (r_pick0 (v := .bool false) (ej rfl rfl) ev_c) (t_val (v := .bool false) (w0 rfl) (r_pick0 (v := .bool false) (ej rfl rfl) (ej rfl rfl)) (t_done ?_)))))))))
    have hz52 := exW_size (d - 1) (x.kid 0) (exKid0 hb_ (by omega)) (Ex.Ok.kid hk_ (kid_there (x := x) (j := 0) (by omega)))
    have hz53 := inB_size false (exW (d - 1) (x.kid 0))
    refine s_call F_e52 (w0 rfl) ev_f (m3 (ej rfl rfl) (ej rfl rfl) (ej rfl rfl)) (args := #[.pointer (some ⟨g,0,none⟩),.agg #[.int .i8 ((x.kid 0).op),.string ((x.kid 0).t.v),.int .i8 ((x.kid 0).t.l.k),.int .i64 ((x.kid 0).t.l.n),.string ((x.kid 0).t.l.s),.slice A15 ((x.kid 0).kids.length) c16],.bool false]) rfl (p_side (d - 1) (x.kid 0) A15 c16 false g (s0 ++ (catL [(⟨#[45]⟩ : ByteArray)])) wz _ (Ext.trans (Wr.after wr29 (Ext.trans (Keep.then_ (Ext.trans (Ext.trans x0 (NewB.ext n3)) (NewB.ext n22)) (Wrote.keep k24) (fun i_ hi_ h_ => by have a_ := NewB.eq n22; have b_ := Keep.size (Ext.trans x0 (NewB.ext n3)); omega)) (NewB.ext n27)) rfl) x31) tb (BW.ext (Wr.bw wr29) x31) ho17 hr18 (exKid0 hb_ (by omega)) hz52 (by (try simp only [catL,ByteArray.size_append,z0,z1]); omega) (fun A_ c_ w_ s_ ho_ hr_ x_ hbw_ hs_ => ih (by omega) 0 _ (kid_there (x := x) (j := 0) (by omega)) (exKid0 hb_ (by omega)) A_ c_ w_ s_ ho_ hr_ x_ hbw_ hs_)) ?_
    rintro _ w54 ⟨rfl,wr55⟩
    refine c_done (n_block (ret0 rfl ?_))
    exact ⟨_,rfl,rfl,Wr.cast (Wr.then_ (Wr.ext (Wr.then_ (Wr.of_ext hb (Ext.trans (Keep.then_ (Ext.trans (NewB.ext n3) (NewB.ext n22)) (Wrote.keep k24) (fun i_ hi_ h_ => by have a_ := NewB.eq n22; have b_ := Keep.size (NewB.ext n3); omega)) (NewB.ext n27)) hB_) wr29) x31 hB_) wr55) (by rw [exW_pos hd0_]; first | (rw [if_pos (by omega)]; done) | (rw [if_neg (by omega),if_pos (by omega)]; simp only [inB,if_true,catL,app_nil,app_assoc]; done) | (have hf_ := fast_neg (x := x) (by omega); rw [if_neg (by omega),if_neg (by omega),if_pos (by omega),show (decide (fast (x.kid 0) < 3) || numB (x.kid 0)) = false by simp only [hf_] at *; simp [numB, *]]; simp only [catL,app_nil,app_assoc]; done) | (rw [if_neg (by omega),if_neg (by omega),if_neg (by omega)]; simp only [catL,app_nil,app_assoc]; done))⟩
  refine c_cond0 (vb (ej rfl rfl) (decide_eq_false h7)) (c_seq (c_reg (s_field (off := 0) (o' := 0) F_f31_0 (ej rfl rfl) rfl (w0 rfl) (s_load (v := .int .i8 x.op) F_o23 (ej rfl rfl) (cell_of_blk (i := 0) (NewB.blk n3) rfl) (w0 rfl) (s_cmp (r := decide (8 ≤ x.op)) (ej rfl rfl) ev_c rfl (w0 rfl) (s_assign (v := .bool (decide (8 ≤ x.op))) (ej rfl rfl) (w0 rfl) (c_done (n_then ?_))))))))
  by_cases h56 : 8 ≤ x.op
  · refine c_cond1 (vb (ej rfl rfl) (decide_eq_true h56)) (c_seq (c_reg (s_move (v := .pointer (some ⟨g,0,none⟩)) (ej rfl rfl) (w0 rfl) (s_field (off := 0) (o' := 0) F_f31_0 (ej rfl rfl) rfl (w0 rfl) (s_load (v := .int .i8 x.op) F_o23 (ej rfl rfl) (cell_of_blk (i := 0) (NewB.blk n3) rfl) (w0 rfl) (s_indexA (j := x.op.toNat) F_ar105 ev_g (ej rfl rfl) (by omega) (by omega) (w0 rfl) (s_load (v := .string (wordW x.op)) F_o9 (ej rfl rfl) (Tabs.words_at (Tabs.ext tb (Ext.trans x0 (NewB.ext n3))) F_gn1 (by omega)) (w0 rfl) (s_bslice (vs := [(0,.string (wordW x.op))]) (cs := #[.string (wordW x.op)]) (b1 (ej rfl rfl)) (bs122_1_0s (wordW x.op)) (w0 rfl) ?_))))))))
    intro w58 g57 n59
    have ne_g57 : g57 ≠ g := by have a_ := NewB.eq n59; have b_ := BW.lt (BW.ext hb (NewB.ext n3)); omega
    refine s_call F_e35 (w0 rfl) ev_f (m2 (ej rfl rfl) (ej rfl rfl)) (args := #[.pointer (some ⟨g,0,none⟩),.slice (some ⟨g57,0,none⟩) 1 1]) rfl (p_put 85 _ g g57 (s0) [wordW x.op] _ (BW.ext (BW.ext hb (NewB.ext n3)) (NewB.ext n59)) (Nat.le_trans (Nat.le_trans hB_ (Keep.size (NewB.ext n3))) (Keep.size (NewB.ext n59))) (by decide) F_lies85 (NewB.blk n59) (by simp only [catL,ByteArray.size_append,z0,z1,z2,z3,z4,z5,z6]; omega) (by simp)) ?_
    rintro _ w60 ⟨rfl,wr61⟩
    refine c_done (n_then (c_reg (s_move (v := .pointer (some ⟨g,0,none⟩)) (ej rfl rfl) (w0 rfl) (s_field (off := 5) (o' := 5) F_f31_2 (ej rfl rfl) rfl (w0 rfl) (s_load (v := .slice A x.kids.length c) F_o29 (ej rfl rfl) (cell_of_blk (i := 5) (Wr.blk wr61 (Ext.blk (NewB.ext n59) (NewB.blk n3)) (Or.inl (by decide)) ne_g1) rfl) (w0 rfl) ?_)))))
    obtain ⟨b62,o63,x64,csx64,hA65,hx66,hR67,hc68⟩ := Row.at_ hr 0 (by omega)
    obtain rfl := Ex.kid_of hx66
    obtain ⟨A69,c70,rfl,ho71,hr72⟩ := RE.open_ hR67
    refine s_indexR (j := 0) F_l29 (ej rfl rfl) hA65 ev_c rfl (by omega) (w0 rfl) ?_
    have hk73 := ex_ops (exKid0 hb_ (by omega))
    refine s_loadL (cs := [.int .i8 ((x.kid 0).op),.string ((x.kid 0).t.v),.int .i8 ((x.kid 0).t.l.k),.int .i64 ((x.kid 0).t.l.n),.string ((x.kid 0).t.l.s),.slice A69 ((x.kid 0).kids.length) c70]) F_m31 (ej rfl rfl) rfl rfl (sub_cells (cells_ext (Wr.after wr61 (Ext.trans (Ext.trans x0 (NewB.ext n3)) (NewB.ext n59)) rfl) hc68) 0 rfl) (w0 rfl) ?_
    have hz74 := exW_size (d - 1) (x.kid 0) (exKid0 hb_ (by omega)) (Ex.Ok.kid hk_ (kid_there (x := x) (j := 0) (by omega)))
    have hz75 := inB_size true (exW (d - 1) (x.kid 0))
    refine s_call F_e52 (w0 rfl) ev_f (m3 (ej rfl rfl) (ej rfl rfl) ev_c) (args := #[.pointer (some ⟨g,0,none⟩),.agg #[.int .i8 ((x.kid 0).op),.string ((x.kid 0).t.v),.int .i8 ((x.kid 0).t.l.k),.int .i64 ((x.kid 0).t.l.n),.string ((x.kid 0).t.l.s),.slice A69 ((x.kid 0).kids.length) c70],.bool true]) rfl (p_side (d - 1) (x.kid 0) A69 c70 true g (s0 ++ (catL [wordW x.op])) wz _ (Wr.after wr61 (Ext.trans (Ext.trans x0 (NewB.ext n3)) (NewB.ext n59)) rfl) tb (Wr.bw wr61) ho71 hr72 (exKid0 hb_ (by omega)) hz74 (by (try simp only [catL,ByteArray.size_append,z0,z1]); omega) (fun A_ c_ w_ s_ ho_ hr_ x_ hbw_ hs_ => ih (by omega) 0 _ (kid_there (x := x) (j := 0) (by omega)) (exKid0 hb_ (by omega)) A_ c_ w_ s_ ho_ hr_ x_ hbw_ hs_)) ?_
    rintro _ w76 ⟨rfl,wr77⟩
    refine c_done (n_block (ret0 rfl ?_))
    exact ⟨_,rfl,rfl,Wr.cast (Wr.then_ (Wr.then_ (Wr.of_ext hb (Ext.trans (NewB.ext n3) (NewB.ext n59)) hB_) wr61) wr77) (by rw [exW_pos hd0_]; first | (rw [if_pos (by omega)]; done) | (rw [if_neg (by omega),if_pos (by omega)]; simp only [inB,if_true,catL,app_nil,app_assoc]; done) | (have hf_ := fast_neg (x := x) (by omega); rw [if_neg (by omega),if_neg (by omega),if_pos (by omega),show (decide (fast (x.kid 0) < 3) || numB (x.kid 0)) = true by simp only [hf_] at *; simp [numB, *]]; simp only [catL,app_nil,app_assoc]; done) | (rw [if_neg (by omega),if_neg (by omega),if_neg (by omega)]; simp only [catL,app_nil,app_assoc]; done))⟩
  refine c_cond0 (vb (ej rfl rfl) (decide_eq_false h56)) (c_seq (c_tail 17 mixed (by kernel_rfl) rfl rfl ?_))
  intro w78 x79
  refine t_val (v := .pointer (some ⟨g,0,none⟩)) (w0 rfl) (r_move (v := .pointer (some ⟨g,0,none⟩)) (ej rfl rfl)) (t_val (v := .pointer (some ⟨g1,5,none⟩)) (w0 rfl) (r_field (off := 5) (o' := 5) F_f31_2 (ej rfl rfl) rfl) (t_val (v := .slice A x.kids.length c) (w0 rfl) (r_load (v := .slice A x.kids.length c) F_o29 (ej rfl rfl) (cell_of_blk (i := 5) (Ext.blk x79 (NewB.blk n3)) rfl)) ?_))
  obtain ⟨b80,o81,x82,csx82,hA83,hx84,hR85,hc86⟩ := Row.at_ hr 0 (by omega)
  obtain rfl := Ex.kid_of hx84
  obtain ⟨A87,c88,rfl,ho89,hr90⟩ := RE.open_ hR85
  refine t_val (v := .pointer (some ⟨b80,o81 + 0 * 6,none⟩)) (w0 rfl) (r_indexR (j := 0) F_l29 (ej rfl rfl) hA83 ev_c rfl (by omega)) ?_
  have hk91 := ex_ops (exKid0 hb_ (by omega))
  refine t_val (v := .agg #[.int .i8 ((x.kid 0).op),.string ((x.kid 0).t.v),.int .i8 ((x.kid 0).t.l.k),.int .i64 ((x.kid 0).t.l.n),.string ((x.kid 0).t.l.s),.slice A87 ((x.kid 0).kids.length) c88]) (w0 rfl) (r_loadL (cs := [.int .i8 ((x.kid 0).op),.string ((x.kid 0).t.v),.int .i8 ((x.kid 0).t.l.k),.int .i64 ((x.kid 0).t.l.n),.string ((x.kid 0).t.l.s),.slice A87 ((x.kid 0).kids.length) c88]) F_m31 (ej rfl rfl) rfl rfl (sub_cells (cells_ext x79 (cells_ext (NewB.ext n3) (cells_ext x0 hc86))) 0 rfl)) (t_val (v := .pointer (some ⟨g1,5,none⟩)) (w0 rfl) (r_field (off := 5) (o' := 5) F_f31_2 (ej rfl rfl) rfl) (t_val (v := .slice A x.kids.length c) (w0 rfl) (r_load (v := .slice A x.kids.length c) F_o29 (ej rfl rfl) (cell_of_blk (i := 5) (Ext.blk x79 (NewB.blk n3)) rfl)) ?_))
  obtain ⟨b92,o93,x94,csx94,hA95,hx96,hR97,hc98⟩ := Row.at_ hr 0 (by omega)
  obtain rfl := Ex.kid_of hx96
  obtain ⟨A99,c100,rfl,ho101,hr102⟩ := RE.open_ hR97
  refine t_val (v := .pointer (some ⟨b92,o93 + 0 * 6,none⟩)) (w0 rfl) (r_indexR (j := 0) F_l29 (ej rfl rfl) hA95 ev_c rfl (by omega)) ?_
  have hk103 := ex_ops (exKid0 hb_ (by omega))
  refine t_val (v := .pointer (some ⟨b92,o93 + 0 * 6,none⟩)) (w0 rfl) (r_field (off := 0) (o' := o93 + 0 * 6) F_f31_0 (ej rfl rfl) rfl) (t_val (v := .int .i8 ((x.kid 0).op)) (w0 rfl) (r_load (v := .int .i8 ((x.kid 0).op)) F_o23 (ej rfl rfl) ((cells_ext x79 (cells_ext (NewB.ext n3) (cells_ext x0 hc98))) 0 _ rfl)) (t_val (v := .pointer (some ⟨0,0 + ((x.kid 0).op).toNat * 1,none⟩)) (w0 rfl) (r_indexA (j := ((x.kid 0).op).toNat) F_ar104 ev_g (ej rfl rfl) (by omega) (by omega)) (t_val (v := .int .i64 (fast (x.kid 0))) (w0 rfl) (r_load (v := .int .i64 (fast (x.kid 0))) F_o3 (ej rfl rfl) (Tabs.hold_at (Tabs.ext tb (Ext.trans (Ext.trans x0 (NewB.ext n3)) x79)) F_gn0 (by omega))) (t_val (v := .pointer (some ⟨g1,0,none⟩)) (w0 rfl) (r_field (off := 0) (o' := 0) F_f31_0 (ej rfl rfl) rfl) (t_val (v := .int .i8 x.op) (w0 rfl) (r_load (v := .int .i8 x.op) F_o23 (ej rfl rfl) (cell_of_blk (i := 0) (Ext.blk x79 (NewB.blk n3)) rfl)) (t_val (v := .pointer (some ⟨0,0 + x.op.toNat * 1,none⟩)) (w0 rfl) (r_indexA (j := x.op.toNat) F_ar104 ev_g (ej rfl rfl) (by omega) (by omega)) (t_val (v := .int .i64 (fast x)) (w0 rfl) (r_load (v := .int .i64 (fast x)) F_o3 (ej rfl rfl) (Tabs.hold_at (Tabs.ext tb (Ext.trans (Ext.trans x0 (NewB.ext n3)) x79)) F_gn0 (by omega))) (t_val (v := .bool (decide (fast (x.kid 0) < fast x))) (w0 rfl) (r_cmp (r := decide (fast (x.kid 0) < fast x)) (ej rfl rfl) (ej rfl rfl) rfl) (t_done ?_)))))))))
  have hz104 := exW_size (d - 1) (x.kid 0) (exKid0 hb_ (by omega)) (Ex.Ok.kid hk_ (kid_there (x := x) (j := 0) (by omega)))
  have hz105 := inB_size (decide (fast (x.kid 0) < fast x)) (exW (d - 1) (x.kid 0))
  refine s_call F_e52 (w0 rfl) ev_f (m3 (ej rfl rfl) (ej rfl rfl) (ej rfl rfl)) (args := #[.pointer (some ⟨g,0,none⟩),.agg #[.int .i8 ((x.kid 0).op),.string ((x.kid 0).t.v),.int .i8 ((x.kid 0).t.l.k),.int .i64 ((x.kid 0).t.l.n),.string ((x.kid 0).t.l.s),.slice A87 ((x.kid 0).kids.length) c88],.bool (decide (fast (x.kid 0) < fast x))]) rfl (p_side (d - 1) (x.kid 0) A87 c88 (decide (fast (x.kid 0) < fast x)) g (s0) wz _ (Ext.trans (Ext.trans x0 (NewB.ext n3)) x79) tb (BW.ext (BW.ext hb (NewB.ext n3)) x79) ho89 hr90 (exKid0 hb_ (by omega)) hz104 (by (try simp only [catL,ByteArray.size_append,z0,z1]); omega) (fun A_ c_ w_ s_ ho_ hr_ x_ hbw_ hs_ => ih (by omega) 0 _ (kid_there (x := x) (j := 0) (by omega)) (exKid0 hb_ (by omega)) A_ c_ w_ s_ ho_ hr_ x_ hbw_ hs_)) ?_
  rintro _ w106 ⟨rfl,wr107⟩
  refine c_done (n_then (c_seq (c_reg (s_move (v := .pointer (some ⟨g,0,none⟩)) (ej rfl rfl) (w0 rfl) (s_field (off := 0) (o' := 0) F_f31_0 (ej rfl rfl) rfl (w0 rfl) (s_load (v := .int .i8 x.op) F_o23 (ej rfl rfl) (cell_of_blk (i := 0) (Wr.blk wr107 (Ext.blk x79 (NewB.blk n3)) (Or.inl (by decide)) ne_g1) rfl) (w0 rfl) (s_indexA (j := x.op.toNat) F_ar106 ev_g (ej rfl rfl) (by omega) (by omega) (w0 rfl) (s_load (v := .string (signW x.op)) F_o9 (ej rfl rfl) (Tabs.signs_at (Tabs.ext tb (Wr.after wr107 (Ext.trans (Ext.trans x0 (NewB.ext n3)) x79) rfl)) F_gn2 (by omega)) (w0 rfl) (s_bslice (vs := [(0,.string (⟨#[32]⟩ : ByteArray)),(1,.string (signW x.op)),(2,.string (⟨#[32]⟩ : ByteArray))]) (cs := #[.string (⟨#[32]⟩ : ByteArray),.string (signW x.op),.string (⟨#[32]⟩ : ByteArray)]) (b3 ev_c (ej rfl rfl) ev_c) (bs122_3_0s_1s_2s (⟨#[32]⟩ : ByteArray) (signW x.op) (⟨#[32]⟩ : ByteArray)) (w0 rfl) ?_)))))))))
  intro w109 g108 n110
  have ne_g108 : g108 ≠ g := by have a_ := NewB.eq n110; have b_ := BW.lt (Wr.bw wr107); omega
  refine s_call F_e35 (w0 rfl) ev_f (m2 (ej rfl rfl) (ej rfl rfl)) (args := #[.pointer (some ⟨g,0,none⟩),.slice (some ⟨g108,0,none⟩) 3 3]) rfl (p_put 85 _ g g108 (s0 ++ (inB (decide (fast (x.kid 0) < fast x)) (exW (d - 1) (x.kid 0)))) [(⟨#[32]⟩ : ByteArray),signW x.op,(⟨#[32]⟩ : ByteArray)] _ (BW.ext (Wr.bw wr107) (NewB.ext n110)) (Nat.le_trans (Nat.le_trans (Nat.le_trans (Nat.le_trans hB_ (Keep.size (NewB.ext n3))) (Keep.size x79)) (Wr.size wr107)) (Keep.size (NewB.ext n110))) (by decide) F_lies85 (NewB.blk n110) (by simp only [catL,ByteArray.size_append,z0,z1,z2,z3,z4,z5,z6]; omega) (by simp)) ?_
  rintro _ w111 ⟨rfl,wr112⟩
  refine c_done (n_then (c_tail 17 mixed (by kernel_rfl) rfl rfl ?_))
  intro w113 x114
  refine t_val (v := .pointer (some ⟨g,0,none⟩)) (w0 rfl) (r_move (v := .pointer (some ⟨g,0,none⟩)) (ej rfl rfl)) (t_val (v := .pointer (some ⟨g1,5,none⟩)) (w0 rfl) (r_field (off := 5) (o' := 5) F_f31_2 (ej rfl rfl) rfl) (t_val (v := .slice A x.kids.length c) (w0 rfl) (r_load (v := .slice A x.kids.length c) F_o29 (ej rfl rfl) (cell_of_blk (i := 5) (Ext.blk x114 (Wr.blk wr112 (Ext.blk (NewB.ext n110) (Wr.blk wr107 (Ext.blk x79 (NewB.blk n3)) (Or.inl (by decide)) ne_g1)) (Or.inl (by decide)) ne_g1)) rfl)) ?_))
  obtain ⟨b115,o116,x117,csx117,hA118,hx119,hR120,hc121⟩ := Row.at_ hr 1 (by omega)
  obtain rfl := Ex.kid_of hx119
  obtain ⟨A122,c123,rfl,ho124,hr125⟩ := RE.open_ hR120
  refine t_val (v := .pointer (some ⟨b115,o116 + 1 * 6,none⟩)) (w0 rfl) (r_indexR (j := 1) F_l29 (ej rfl rfl) hA118 ev_c rfl (by omega)) ?_
  have hk126 := ex_ops ((ex_two hb_ (by omega) (by omega) (by omega)).2.2)
  refine t_val (v := .agg #[.int .i8 ((x.kid 1).op),.string ((x.kid 1).t.v),.int .i8 ((x.kid 1).t.l.k),.int .i64 ((x.kid 1).t.l.n),.string ((x.kid 1).t.l.s),.slice A122 ((x.kid 1).kids.length) c123]) (w0 rfl) (r_loadL (cs := [.int .i8 ((x.kid 1).op),.string ((x.kid 1).t.v),.int .i8 ((x.kid 1).t.l.k),.int .i64 ((x.kid 1).t.l.n),.string ((x.kid 1).t.l.s),.slice A122 ((x.kid 1).kids.length) c123]) F_m31 (ej rfl rfl) rfl rfl (sub_cells (cells_ext (Ext.trans (Wr.after wr112 (Ext.trans (Wr.after wr107 (Ext.trans (Ext.trans x0 (NewB.ext n3)) x79) rfl) (NewB.ext n110)) rfl) x114) hc121) 0 rfl)) (t_val (v := .pointer (some ⟨g1,5,none⟩)) (w0 rfl) (r_field (off := 5) (o' := 5) F_f31_2 (ej rfl rfl) rfl) (t_val (v := .slice A x.kids.length c) (w0 rfl) (r_load (v := .slice A x.kids.length c) F_o29 (ej rfl rfl) (cell_of_blk (i := 5) (Ext.blk x114 (Wr.blk wr112 (Ext.blk (NewB.ext n110) (Wr.blk wr107 (Ext.blk x79 (NewB.blk n3)) (Or.inl (by decide)) ne_g1)) (Or.inl (by decide)) ne_g1)) rfl)) ?_))
  obtain ⟨b127,o128,x129,csx129,hA130,hx131,hR132,hc133⟩ := Row.at_ hr 1 (by omega)
  obtain rfl := Ex.kid_of hx131
  obtain ⟨A134,c135,rfl,ho136,hr137⟩ := RE.open_ hR132
  refine t_val (v := .pointer (some ⟨b127,o128 + 1 * 6,none⟩)) (w0 rfl) (r_indexR (j := 1) F_l29 (ej rfl rfl) hA130 ev_c rfl (by omega)) ?_
  have hk138 := ex_ops ((ex_two hb_ (by omega) (by omega) (by omega)).2.2)
  refine t_val (v := .pointer (some ⟨b127,o128 + 1 * 6,none⟩)) (w0 rfl) (r_field (off := 0) (o' := o128 + 1 * 6) F_f31_0 (ej rfl rfl) rfl) (t_val (v := .int .i8 ((x.kid 1).op)) (w0 rfl) (r_load (v := .int .i8 ((x.kid 1).op)) F_o23 (ej rfl rfl) ((cells_ext (Ext.trans (Wr.after wr112 (Ext.trans (Wr.after wr107 (Ext.trans (Ext.trans x0 (NewB.ext n3)) x79) rfl) (NewB.ext n110)) rfl) x114) hc133) 0 _ rfl)) (t_val (v := .pointer (some ⟨0,0 + ((x.kid 1).op).toNat * 1,none⟩)) (w0 rfl) (r_indexA (j := ((x.kid 1).op).toNat) F_ar104 ev_g (ej rfl rfl) (by omega) (by omega)) (t_val (v := .int .i64 (fast (x.kid 1))) (w0 rfl) (r_load (v := .int .i64 (fast (x.kid 1))) F_o3 (ej rfl rfl) (Tabs.hold_at (Tabs.ext tb (Ext.trans (Wr.after wr112 (Ext.trans (Wr.after wr107 (Ext.trans (Ext.trans x0 (NewB.ext n3)) x79) rfl) (NewB.ext n110)) rfl) x114)) F_gn0 (by omega))) (t_val (v := .pointer (some ⟨g1,0,none⟩)) (w0 rfl) (r_field (off := 0) (o' := 0) F_f31_0 (ej rfl rfl) rfl) (t_val (v := .int .i8 x.op) (w0 rfl) (r_load (v := .int .i8 x.op) F_o23 (ej rfl rfl) (cell_of_blk (i := 0) (Ext.blk x114 (Wr.blk wr112 (Ext.blk (NewB.ext n110) (Wr.blk wr107 (Ext.blk x79 (NewB.blk n3)) (Or.inl (by decide)) ne_g1)) (Or.inl (by decide)) ne_g1)) rfl)) (t_val (v := .pointer (some ⟨0,0 + x.op.toNat * 1,none⟩)) (w0 rfl) (r_indexA (j := x.op.toNat) F_ar104 ev_g (ej rfl rfl) (by omega) (by omega)) (t_val (v := .int .i64 (fast x)) (w0 rfl) (r_load (v := .int .i64 (fast x)) F_o3 (ej rfl rfl) (Tabs.hold_at (Tabs.ext tb (Ext.trans (Wr.after wr112 (Ext.trans (Wr.after wr107 (Ext.trans (Ext.trans x0 (NewB.ext n3)) x79) rfl) (NewB.ext n110)) rfl) x114)) F_gn0 (by omega))) (t_val (v := .bool (decide (fast (x.kid 1) ≤ fast x))) (w0 rfl) (r_cmp (r := decide (fast (x.kid 1) ≤ fast x)) (ej rfl rfl) (ej rfl rfl) rfl) (t_done ?_)))))))))
  have hz139 := exW_size (d - 1) (x.kid 1) (ex_two hb_ (by omega) (by omega) (by omega)).2.2 (Ex.Ok.kid hk_ (kid_there (x := x) (j := 1) (by omega)))
  have hz140 := inB_size (decide (fast (x.kid 1) ≤ fast x)) (exW (d - 1) (x.kid 1))
  refine s_call F_e52 (w0 rfl) ev_f (m3 (ej rfl rfl) (ej rfl rfl) (ej rfl rfl)) (args := #[.pointer (some ⟨g,0,none⟩),.agg #[.int .i8 ((x.kid 1).op),.string ((x.kid 1).t.v),.int .i8 ((x.kid 1).t.l.k),.int .i64 ((x.kid 1).t.l.n),.string ((x.kid 1).t.l.s),.slice A122 ((x.kid 1).kids.length) c123],.bool (decide (fast (x.kid 1) ≤ fast x))]) rfl (p_side (d - 1) (x.kid 1) A122 c123 (decide (fast (x.kid 1) ≤ fast x)) g (s0 ++ (inB (decide (fast (x.kid 0) < fast x)) (exW (d - 1) (x.kid 0))) ++ (catL [(⟨#[32]⟩ : ByteArray),signW x.op,(⟨#[32]⟩ : ByteArray)])) wz _ (Ext.trans (Wr.after wr112 (Ext.trans (Wr.after wr107 (Ext.trans (Ext.trans x0 (NewB.ext n3)) x79) rfl) (NewB.ext n110)) rfl) x114) tb (BW.ext (Wr.bw wr112) x114) ho124 hr125 (ex_two hb_ (by omega) (by omega) (by omega)).2.2 hz139 (by (try simp only [catL,ByteArray.size_append,z0,z1]); omega) (fun A_ c_ w_ s_ ho_ hr_ x_ hbw_ hs_ => ih (by omega) 1 _ (kid_there (x := x) (j := 1) (by omega)) (ex_two hb_ (by omega) (by omega) (by omega)).2.2 A_ c_ w_ s_ ho_ hr_ x_ hbw_ hs_)) ?_
  rintro _ w141 ⟨rfl,wr142⟩
  refine c_done (n_block (ret0 rfl ?_))
  exact ⟨_,rfl,rfl,Wr.cast (Wr.then_ (Wr.ext (Wr.then_ (Wr.ext (Wr.then_ (Wr.of_ext hb (Ext.trans (NewB.ext n3) x79) hB_) wr107) (NewB.ext n110) hB_) wr112) x114 hB_) wr142) (by rw [exW_pos hd0_]; first | (rw [if_pos (by omega)]; done) | (rw [if_neg (by omega),if_pos (by omega)]; simp only [inB,if_true,catL,app_nil,app_assoc]; done) | (have hf_ := fast_neg (x := x) (by omega); rw [if_neg (by omega),if_neg (by omega),if_pos (by omega),show (decide (fast (x.kid 0) < 3) || numB (x.kid 0)) = (decide (fast (x.kid 0) < fast x)) by simp only [hf_] at *; simp [numB, *]]; simp only [catL,app_nil,app_assoc]; done) | (rw [if_neg (by omega),if_neg (by omega),if_neg (by omega)]; simp only [catL,app_nil,app_assoc]; done))⟩
theorem p_expr (g : Nat) (wz : World) (tb : Tabs Tryd.prog wz) : ∀ (d : Nat) (x : Ex) (A : Option Addr) (c : Nat) (w : World) (s0 : ByteArray),d ≤ 8 → exB d x = true → x.okc c → Row RE 6 wz A x.kids → Ext wz w → BW 5 85 wz.heap.size w g s0 → s0.size + 2 ^ d * 900 ≤ 100000000000000 → Rt Tryd.prog 24 #[.pointer (some ⟨g,0,none⟩),.agg #[.int .i8 x.op,.string x.t.v,.int .i8 x.t.l.k,.int .i64 x.t.l.n,.string x.t.l.s,.slice A x.kids.length c]] w fun v w' => v = .tuple #[] ∧ Wr 5 85 wz.heap.size g (s0 ++ exW d x) w w' := by
  intro d
  induction d with
  | zero =>
    intro x A c w s0 hd hb_ ho hr x0 hb hs
    simp [exB] at hb_
  | succ d ih =>
    intro x A c w s0 hd hb_ ho hr x0 hb hs
    exact p_expr_step (d + 1) x A c g s0 wz w x0 tb hb ho hr hd hb_ hs (fun _ j y hj hy A c w s0 ho hr x0 hb hs => ih y A c w s0 (by omega) hy ho hr x0 hb hs)
end Go.Proofs.Dw

set_option linter.unusedVariables false
set_option linter.unusedSimpArgs false
set_option maxRecDepth 10000
namespace Go.Proofs.Dw
open Go Go.Wk Go.Proofs Go.Lib
attribute [local irreducible] Go.wpList Go.wpStill Go.wpQuiet Go.Code.wp Go.Calls
theorem F_e22 : enterable Tryd.prog 22 = true := by kernel_rfl
theorem F_e23 : enterable Tryd.prog 23 = true := by kernel_rfl
theorem F_z85 : (Tryd.prog.info? 85).bind (·.zero) = some (.agg #[.pointer none,.slice none 0 0]) := by kernel_rfl
theorem p_toldE (x : Ex) (A : Option Addr) (c : Nat) (w : World) (ho : x.okc c) (hr : Row RE 6 w A x.kids) (tb : Tabs Tryd.prog w) :
    Rt Tryd.prog 22 #[.agg #[.int .i8 x.op,.string x.t.v,.int .i8 x.t.l.k,.int .i64 x.t.l.n,.string x.t.l.s,.slice A x.kids.length c],.func (.func 23) #[] #[],.func (.func 24) #[] #[]] w fun v w' => v = .tuple #[.string (if exB 8 x then exW 8 x else ⟨#[]⟩),.int .i64 (code (exB 8 x))] ∧ Ext w w' := by
  refine enter Tryd.func22 rfl (l := [.agg #[.int .i8 x.op,.string x.t.v,.int .i8 x.t.l.k,.int .i64 x.t.l.n,.string x.t.l.s,.slice A x.kids.length c],.func (.func 23) #[] #[],.func (.func 24) #[] #[]]) rfl Tryd.ntmps22 (Nat.le_of_ble_eq_true rfl) ?_
  have hl_ := Ex.okc.l ho
  have hc_ := Ex.okc.c ho
  refine c_seq (c_reg (s_box (v := .agg #[.int .i8 x.op,.string x.t.v,.int .i8 x.t.l.k,.int .i64 x.t.l.n,.string x.t.l.s,.slice A x.kids.length c]) (cs := #[.int .i8 x.op,.string x.t.v,.int .i8 x.t.l.k,.int .i64 x.t.l.n,.string x.t.l.s,.slice A x.kids.length c]) (w0 rfl) (ej rfl rfl) rfl ?_))
  intro w2 g1 n3
  refine s_assign (v := .string (⟨#[]⟩ : ByteArray)) ev_c (w0 rfl) (s_assign (v := .int .i64 0) ev_c (w0 rfl) (c_done (n_then (c_seq (c_seq (c_reg (s_move (v := .func (.func 23) #[] #[]) (ej rfl rfl) (w0 rfl) (s_loadL (cs := [.int .i8 x.op,.string x.t.v,.int .i8 x.t.l.k,.int .i64 x.t.l.n,.string x.t.l.s,.slice A x.kids.length c]) F_m31 (ej rfl rfl) rfl rfl (blk_cells (NewB.blk n3) 0 rfl) (w0 rfl) (s_call F_e23 (w0 rfl) (ej rfl rfl) (m1 (ej rfl rfl)) (args := #[.agg #[.int .i8 x.op,.string x.t.v,.int .i8 x.t.l.k,.int .i64 x.t.l.n,.string x.t.l.s,.slice A x.kids.length c]]) rfl (t_CheckExpr x A c _ ho (Row.extE hr (NewB.ext n3))) ?_)))))))))
  rintro _ w5 ⟨rfl,x4⟩
  refine s_cmp (r := !(exB 8 x)) (ej rfl rfl) ev_c (ci_tn (b := (exB 8 x)) (by decide)) (w0 rfl) (c_done (n_then ?_))
  rcases Bool.eq_false_or_eq_true (exB 8 x) with h6 | h6
  · refine c_cond0 (vb (ej rfl rfl) (nbt h6)) (c_skip (n_then (c_seq (c_reg (s_alloc (cs := #[.pointer none,.slice none 0 0]) (w0 rfl) F_z85 rfl ?_)))))
    intro w8 g7 n9
    have bw_ : BW 5 85 w.heap.size w8 g7 ⟨#[]⟩ := BW.new n9 rfl (by decide) (Keep.size (Ext.trans (NewB.ext n3) x4))
    have hB_ := Keep.size (Ext.trans (Ext.trans (NewB.ext n3) x4) (NewB.ext n9))
    refine c_done (n_then (c_seq (c_reg (s_move (v := .func (.func 24) #[] #[]) (ej rfl rfl) (w0 rfl) (s_loadL (cs := [.int .i8 x.op,.string x.t.v,.int .i8 x.t.l.k,.int .i64 x.t.l.n,.string x.t.l.s,.slice A x.kids.length c]) F_m31 (ej rfl rfl) rfl rfl (blk_cells (Ext.blk (NewB.ext n9) (Ext.blk x4 (NewB.blk n3))) 0 rfl) (w0 rfl) (s_call F_e24 (w0 rfl) (ej rfl rfl) (m2 (ej rfl rfl) (ej rfl rfl)) (args := #[.pointer (some ⟨g7,0,none⟩),.agg #[.int .i8 x.op,.string x.t.v,.int .i8 x.t.l.k,.int .i64 x.t.l.n,.string x.t.l.s,.slice A x.kids.length c]]) rfl (p_expr g7 w (Tabs.ext tb (Ext.refl _)) 8 x A c _ ((⟨#[]⟩ : ByteArray)) (by decide) (by assumption) ho hr (Ext.trans (Ext.trans (NewB.ext n3) x4) (NewB.ext n9)) bw_ (by simp only [ByteArray.size_append,z0]; omega)) ?_))))))
    rintro _ w10 ⟨rfl,wr11⟩
    refine c_done (n_then (c_seq (c_reg (s_field (off := 0) (o' := 0) F_f85_0 (ej rfl rfl) rfl (w0 rfl) (s_call F_e36 (w0 rfl) ev_f (m1 (ej rfl rfl)) (args := #[.pointer (some ⟨g7,0,none⟩)]) rfl (b_String 85 _ g7 ((⟨#[]⟩ : ByteArray) ++ (exW 8 x)) _ (Wr.bw wr11) (Nat.le_trans hB_ (Wr.size wr11)) (by rw [nil_app]; exact exW_ne (by assumption))) ?_)))))
    rintro _ w12 ⟨rfl,bl13⟩
    refine s_assign (v := .string ((⟨#[]⟩ : ByteArray) ++ (exW 8 x))) (ej rfl rfl) (w0 rfl) (s_assign (v := .int .i64 0) ev_c (w0 rfl) (c_done (n_then (c_ret (ret2 (v := .string ((⟨#[]⟩ : ByteArray) ++ (exW 8 x))) (v2 := .int .i64 0) rfl rfl rfl rfl rfl ?_)))))
    refine ⟨_,rfl,?_,(ext_bel (Wr.after wr11 (Ext.trans (Ext.trans (NewB.ext n3) x4) (NewB.ext n9)) rfl) bl13)⟩
    (simp [code,nil_app, *])
  refine c_cond1 (vb (ej rfl rfl) (nbf h6)) (c_seq (c_reg (s_assign (v := .string (⟨#[]⟩ : ByteArray)) ev_c (w0 rfl) (s_assign (v := .int .i64 40) ev_c (w0 rfl) (c_done (n_then (c_ret (r_then (ret2 (v := .string (⟨#[]⟩ : ByteArray)) (v2 := .int .i64 40) rfl rfl rfl rfl rfl ?_)))))))))
  refine ⟨_,rfl,?_,(Ext.trans (NewB.ext n3) x4)⟩
  (simp [code,nil_app, *])
theorem p_Expr (x : Ex) (A : Option Addr) (c : Nat) (w : World) (ho : x.okc c) (hr : Row RE 6 w A x.kids) (tb : Tabs Tryd.prog w) :
    Rt Tryd.prog 9 #[.agg #[.int .i8 x.op,.string x.t.v,.int .i8 x.t.l.k,.int .i64 x.t.l.n,.string x.t.l.s,.slice A x.kids.length c]] w fun v w' => v = .tuple #[.string (if exB 8 x then exW 8 x else ⟨#[]⟩),.int .i64 (code (exB 8 x))] ∧ Ext w w' := by
  refine enter Tryd.func9 rfl (l := [.agg #[.int .i8 x.op,.string x.t.v,.int .i8 x.t.l.k,.int .i64 x.t.l.n,.string x.t.l.s,.slice A x.kids.length c]]) rfl Tryd.ntmps9 (Nat.le_of_ble_eq_true rfl) ?_
  have hl_ := Ex.okc.l ho
  have hc_ := Ex.okc.c ho
  refine c_seq (c_reg (s_box (v := .agg #[.int .i8 x.op,.string x.t.v,.int .i8 x.t.l.k,.int .i64 x.t.l.n,.string x.t.l.s,.slice A x.kids.length c]) (cs := #[.int .i8 x.op,.string x.t.v,.int .i8 x.t.l.k,.int .i64 x.t.l.n,.string x.t.l.s,.slice A x.kids.length c]) (w0 rfl) (ej rfl rfl) rfl ?_))
  intro w2 g1 n3
  refine s_assign (v := .string (⟨#[]⟩ : ByteArray)) ev_c (w0 rfl) (s_assign (v := .int .i64 0) ev_c (w0 rfl) (c_done (n_then (c_seq (c_reg (s_loadL (cs := [.int .i8 x.op,.string x.t.v,.int .i8 x.t.l.k,.int .i64 x.t.l.n,.string x.t.l.s,.slice A x.kids.length c]) F_m31 (ej rfl rfl) rfl rfl (blk_cells (NewB.blk n3) 0 rfl) (w0 rfl) (s_call F_e22 (w0 rfl) ev_f (m3 (ej rfl rfl) ev_f ev_f) (args := #[.agg #[.int .i8 x.op,.string x.t.v,.int .i8 x.t.l.k,.int .i64 x.t.l.n,.string x.t.l.s,.slice A x.kids.length c],.func (.func 23) #[] #[],.func (.func 24) #[] #[]]) rfl (p_toldE x A c _ ho (Row.extE hr (NewB.ext n3)) (Tabs.ext tb (NewB.ext n3))) ?_)))))))
  rintro _ w5 ⟨rfl,x4⟩
  refine s_extract (v := .string (if exB 8 x then exW 8 x else ⟨#[]⟩)) (ej rfl rfl) rfl (w0 rfl) (s_extract (v := .int .i64 (code (exB 8 x))) (ej rfl rfl) rfl (w0 rfl) (s_assign (v := .string (if exB 8 x then exW 8 x else ⟨#[]⟩)) (ej rfl rfl) (w0 rfl) (s_assign (v := .int .i64 (code (exB 8 x))) (ej rfl rfl) (w0 rfl) (c_done (n_then (c_ret (ret2 (v := .string (if exB 8 x then exW 8 x else ⟨#[]⟩)) (v2 := .int .i64 (code (exB 8 x))) rfl rfl rfl rfl rfl ?_)))))))
  refine ⟨_,rfl,?_,(Ext.trans (NewB.ext n3) x4)⟩
  rfl
end Go.Proofs.Dw

set_option linter.unusedVariables false
set_option linter.unusedSimpArgs false
namespace Go.Wk
open Go Go.RowKit Go.Lib
/-! ### atoms -/
structure At where
  p : ByteArray
  args : List Tm
def Tm.none : Tm := ⟨⟨#[]⟩,⟨0,0,⟨#[]⟩⟩⟩
def tmAt (l : List Tm) (j : Nat) : Tm := l.getD j Tm.none
theorem tmAt_of {l : List Tm} {y : Tm} {j : Nat} (h : l[j]? = some y) : tmAt l j = y := by simp [tmAt,List.getD_eq_getElem?_getD,h]
theorem tmAt_there {l : List Tm} {j : Nat} (h : j < l.length) : l[j]? = some (tmAt l j) := by simp [tmAt,List.getD_eq_getElem?_getD,h]
structure At.okc (x : At) (c : Nat) : Prop where
  p : x.p.size ≤ 140737488351232
  l : x.args.length ≤ c
  c : x.args.length * 48 ≤ 140737488351232
def RA (w : World) (x : At) (cs : List Value) : Prop := ∃ A c,cs = [.string x.p,.slice A x.args.length c] ∧ x.okc c ∧ Row RT 4 w A x.args
theorem RA.ext {w w' : World} (k : Ext w w') {x : At} {cs : List Value} (h : RA w x cs) : RA w' x cs := by
  obtain ⟨A,c,h1,h2,h3⟩ := h; exact ⟨A,c,h1,h2,h3.extT k⟩
def atB (x : At) : Bool := nameB x.p && decide ((x.args.length : Int) ≤ 24) && x.args.all tmB
/-! columns -/
def colP (l : List ByteArray) : Nat → ByteArray
  | 0 => ⟨#[]⟩
  | i + 1 => colP l i ++ (if i = 0 then ⟨#[40]⟩ else ⟨#[44,32]⟩) ++ l.getD i ⟨#[]⟩
def colW (nm : ByteArray) (l : List ByteArray) : ByteArray := if l.length = 0 then nm else nm ++ colP l l.length ++ ⟨#[41]⟩
def atW (x : At) : ByteArray := colW x.p (x.args.map termW)
theorem colP_le {l : List ByteArray} {M : Nat} (h : ∀ i,i < l.length → (l.getD i ⟨#[]⟩).size ≤ M) : ∀ i,i ≤ l.length → (colP l i).size ≤ i * (M + 2)
  | 0,_ => by simp [colP,z0]
  | i + 1,hi => by
    have := colP_le h i (by omega)
    have h2 := h i (by omega)
    have h3 : (if i = 0 then (⟨#[40]⟩ : ByteArray) else ⟨#[44,32]⟩).size ≤ 2 := by split <;> decide
    simp only [colP,ByteArray.size_append,Nat.add_mul,Nat.one_mul]
    omega
theorem termW_at {l : List Tm} {i : Nat} (h : i < l.length) : (l.map termW).getD i ⟨#[]⟩ = termW (tmAt l i) := by
  simp [tmAt,List.getD_eq_getElem?_getD,h]
theorem wordB_ne {s : ByteArray} {lo hi : Int} (h : wordB s lo hi = true) : s.size ≠ 0 := by
  simp only [wordB,decide_eq_true_eq] at h; omega
theorem atW_ne {x : At} (h : atB x = true) : (atW x).size ≠ 0 := by
  simp only [atB,nameB,Bool.and_eq_true] at h
  have := wordB_ne h.1.1.1
  unfold atW colW
  split
  · exact this
  · simp only [ByteArray.size_append]; omega
theorem atB_parts {x : At} (h : atB x = true) : nameB x.p = true ∧ x.p.size ≤ 120 ∧ x.args.length ≤ 24 ∧ ∀ i,i < x.args.length → tmB (tmAt x.args i) = true := by
  simp only [atB,Bool.and_eq_true,decide_eq_true_eq] at h
  have h1 := h.1.1
  simp only [nameB,Bool.and_eq_true] at h1
  exact ⟨h.1.1,wordB_size h1.1,by omega,fun i hi => all_kid h.2 (tmAt_there hi)⟩
theorem RT_wf {w : World} {A : Option Addr} {l : List Tm} {m i : Nat} (h : Row RT m w A l) (hi : i < l.length) : (tmAt l i).wf := by
  obtain ⟨_,_,y,_,_,hy,h,_⟩ := h.at_ i hi
  rw [tmAt_of hy]
  exact h.2
end Go.Wk

set_option linter.unusedVariables false
set_option linter.unusedSimpArgs false
set_option maxRecDepth 10000
namespace Go.Proofs.Dw
open Go Go.Wk Go.Proofs Go.Lib
attribute [local irreducible] Go.wpList Go.wpStill Go.wpQuiet Go.Code.wp Go.Calls
theorem F_e108 : enterable Tryd.prog 108 = true := by kernel_rfl
theorem F_e62 : enterable Tryd.prog 62 = true := by kernel_rfl
theorem F_e82 : enterable Tryd.prog 82 = true := by kernel_rfl
theorem F_e83 : enterable Tryd.prog 83 = true := by kernel_rfl
theorem F_f46_0 : fieldAt Tryd.prog 46 0 0 = true := by kernel_rfl
theorem F_f46_1 : fieldAt Tryd.prog 46 1 1 = true := by kernel_rfl
theorem F_l44 : sliceT Tryd.prog 44 4 = true := by kernel_rfl
theorem F_o44 : one Tryd.prog 44 = true := by kernel_rfl
theorem t_CheckAtom1 (x : Tm) (w : World) (hx : x.wf) :
    Rt Tryd.prog 83 #[.agg #[.string x.v,.int .i8 x.l.k,.int .i64 x.l.n,.string x.l.s]] w fun v w' => v = .bool (!tmB x) ∧ Ext w w' := by
  refine enter Tryd.func83 rfl (l := [.agg #[.string x.v,.int .i8 x.l.k,.int .i64 x.l.n,.string x.l.s]]) rfl Tryd.ntmps83 (Nat.le_of_ble_eq_true rfl) ?_
  refine c_seq (c_reg (s_box (v := .agg #[.string x.v,.int .i8 x.l.k,.int .i64 x.l.n,.string x.l.s]) (cs := #[.string x.v,.int .i8 x.l.k,.int .i64 x.l.n,.string x.l.s]) (w0 rfl) (ej rfl rfl) rfl ?_))
  intro w2 g1 n3
  refine s_assign (v := .bool false) ev_c (w0 rfl) (c_done (n_then (c_seq (c_reg (s_loadL (cs := [.string x.v,.int .i8 x.l.k,.int .i64 x.l.n,.string x.l.s]) F_m28 (ej rfl rfl) rfl rfl (blk_cells (NewB.blk n3) 0 rfl) (w0 rfl) (s_call F_e84 (w0 rfl) ev_f (m1 (ej rfl rfl)) (args := #[.agg #[.string x.v,.int .i8 x.l.k,.int .i64 x.l.n,.string x.l.s]]) rfl (t_CheckTerm x _ hx) ?_))))))
  rintro _ w5 ⟨rfl,x4⟩
  refine s_cmp (r := !(tmB x)) (ej rfl rfl) ev_c (ci_tn (b := (tmB x)) (by decide)) (w0 rfl) (s_assign (v := .bool (!(tmB x))) (ej rfl rfl) (w0 rfl) (c_done (n_then (c_ret (ret1 (v := .bool (!(tmB x))) rfl rfl rfl ?_)))))
  refine ⟨_,rfl,?_,(Ext.trans (NewB.ext n3) x4)⟩
  rfl
theorem s_IndexFuncT (l : List Tm) (A : Option Addr) (c : Nat) (w : World) (hl : l.length ≤ 140737488351232) (hr : Row RT 4 w A l) :
    Rt Tryd.prog 108 #[.slice A l.length c,.func (.func 83) #[] #[]] w fun v w' => v = .int .i64 (posB (fun y => !tmB y) l) ∧ Ext w w' := by
  refine enter Tryd.func108 rfl (l := [.slice A l.length c,.func (.func 83) #[] #[]]) rfl Tryd.ntmps108 (Nat.le_of_ble_eq_true rfl) ?_
  refine c_seq (c_reg (s_assign (v := .int .i64 0) ev_c (w0 rfl) (c_done (n_then (c_seq (c_seq (c_reg (s_move (v := .slice A l.length c) (ej rfl rfl) (w0 rfl) (s_lenL F_l44 (ej rfl rfl) (w0 rfl) (s_move (v := .int .i64 0) ev_c (w0 rfl) (c_done ?_)))))))))))
  refine n_then (c_block ?_)
  refine c_loop (α := Nat) (fun (i : Nat) env_ w_ => Ext w w_ ∧ (∀ j y,j < i → l[j]? = some y → (!tmB y) = false) ∧ env_ 0 = .slice A l.length c ∧ env_ 1 = .func (.func 83) #[] #[] ∧ env_ 7 = .int .i64 (l.length : Int) ∧ env_ 8 = .int .i64 ((i : Nat) : Int)) (fun i => l.length - i) (0) ⟨Ext.refl _,(fun j y h => absurd h (Nat.not_lt_zero j)),rfl,rfl,rfl,rfl⟩ ?_
  rintro i env3 w1 ⟨x2,i4,e5,e6,e7,e8⟩
  refine c_seq (c_reg (s_cmp (r := decide (((i : Nat) : Int) < (l.length : Int))) (ej rfl e8) (ej rfl e7) rfl (w0 rfl) (c_done (n_then (c_seq ?_)))))
  by_cases h9 : ((i : Nat) : Int) < (l.length : Int)
  · refine c_cond1 (vb (ej rfl rfl) (decide_eq_true h9)) (c_skip (n_then (c_seq (c_block (c_seq (c_reg (s_move (v := .int .i64 ((i : Nat) : Int)) (ej rfl e8) (w0 rfl) (s_assign (v := .int .i64 ((i : Nat) : Int)) (ej rfl rfl) (w0 rfl) (c_done (n_then (c_seq ?_)))))))))))
    refine c_reg (s_move (v := .func (.func 83) #[] #[]) (ej rfl e6) (w0 rfl) (s_move (v := .slice A l.length c) (ej rfl e5) (w0 rfl) (s_move (v := .int .i64 ((i : Nat) : Int)) (ej rfl rfl) (w0 rfl) ?_)))
    obtain ⟨b10,o11,x12,csx12,hA13,hx14,hR15,hc16⟩ := Row.at_ hr i (by omega)
    obtain rfl := tmAt_of hx14
    obtain ⟨rfl,wf17⟩ := hR15
    refine s_indexR (j := i) F_l44 (ej rfl rfl) hA13 (ej rfl rfl) rfl (by omega) (w0 rfl) (s_loadL (cs := [.string ((tmAt l i).v),.int .i8 ((tmAt l i).l.k),.int .i64 ((tmAt l i).l.n),.string ((tmAt l i).l.s)]) F_m28 (ej rfl rfl) rfl rfl (sub_cells (cells_ext x2 hc16) 0 rfl) (w0 rfl) (s_call F_e83 (w0 rfl) (ej rfl rfl) (m1 (ej rfl rfl)) (args := #[.agg #[.string ((tmAt l i).v),.int .i8 ((tmAt l i).l.k),.int .i64 ((tmAt l i).l.n),.string ((tmAt l i).l.s)]]) rfl (t_CheckAtom1 (tmAt l i) _ wf17) ?_))
    rintro _ w19 ⟨rfl,x18⟩
    refine c_done (n_then ?_)
    rcases Bool.eq_false_or_eq_true (!tmB (tmAt l i)) with h20 | h20
    · refine c_cond1 (vb (ej rfl rfl) h20) (c_seq (c_reg (s_move (v := .int .i64 ((i : Nat) : Int)) (ej rfl rfl) (w0 rfl) (s_assign (v := .int .i64 ((i : Nat) : Int)) (ej rfl rfl) (w0 rfl) (c_done (n_then (c_ret (r_block (r_then (r_then (r_block ?_)))))))))))
      refine r_then (ret1 (v := .int .i64 ((i : Nat) : Int)) rfl rfl rfl ?_)
      refine ⟨_,rfl,?_,(Ext.trans x2 x18)⟩
      (refine congrArg (Value.int .i64) (Eq.symm (posB_at i4 (tmAt_there (l := l) (j := i) (by omega)) (by simp [*]))))
    refine c_cond0 (vb (ej rfl rfl) h20) (c_skip (n_block (n_then (c_reg (s_add (r := ((i + 1 : Nat) : Int)) (ej rfl e8) ev_c (by omega) (by omega) (w0 rfl) (s_move (v := .int .i64 ((i + 1 : Nat) : Int)) (ej rfl rfl) (w0 rfl) (c_done ?_)))))))
    exact ⟨(i + 1),_,rfl,⟨(Ext.trans x2 x18),(kids_stepF (p := fun y => !tmB y) i4 (tmAt_there (by omega)) (by assumption)),e5,e6,e7,rfl⟩,(show l.length - (i + 1) < l.length - i by omega)⟩
  refine c_cond0 (vb (ej rfl rfl) (decide_eq_false h9)) (c_exit (e_then (e_then (e_hit (n_then (c_seq (c_reg (s_assign (v := .int .i64 (-1)) ev_c (w0 rfl) (c_done (n_then (c_ret ?_)))))))))))
  refine ret1 (v := .int .i64 (-1)) rfl rfl rfl ?_
  refine ⟨_,rfl,?_,x2⟩
  (refine congrArg (Value.int .i64) (Eq.symm (posB_none (by assumption) i4)))
theorem s_ContainsFuncT (l : List Tm) (A : Option Addr) (c : Nat) (w : World) (hl : l.length ≤ 140737488351232) (hr : Row RT 4 w A l) :
    Rt Tryd.prog 82 #[.slice A l.length c,.func (.func 83) #[] #[]] w fun v w' => v = .bool (decide (0 ≤ posB (fun y => !tmB y) l)) ∧ Ext w w' := by
  refine enter Tryd.func82 rfl (l := [.slice A l.length c,.func (.func 83) #[] #[]]) rfl Tryd.ntmps82 (Nat.le_of_ble_eq_true rfl) ?_
  refine c_seq (c_reg (s_assign (v := .bool false) ev_c (w0 rfl) (c_done (n_then (c_seq (c_reg (s_move (v := .slice A l.length c) (ej rfl rfl) (w0 rfl) (s_move (v := .func (.func 83) #[] #[]) (ej rfl rfl) (w0 rfl) (s_call F_e108 (w0 rfl) ev_f (m2 (ej rfl rfl) (ej rfl rfl)) (args := #[.slice A l.length c,.func (.func 83) #[] #[]]) rfl (s_IndexFuncT l A c _ (by omega) hr) ?_)))))))))
  rintro _ w2 ⟨rfl,x1⟩
  refine s_cmp (r := decide (0 ≤ posB (fun y => !tmB y) l)) (ej rfl rfl) ev_c rfl (w0 rfl) (s_assign (v := .bool (decide (0 ≤ posB (fun y => !tmB y) l))) (ej rfl rfl) (w0 rfl) (c_done (n_then (c_ret (ret1 (v := .bool (decide (0 ≤ posB (fun y => !tmB y) l))) rfl rfl rfl ?_)))))
  refine ⟨_,rfl,?_,x1⟩
  rfl
theorem t_CheckAtom (x : At) (A : Option Addr) (c : Nat) (w : World) (ho : x.okc c) (hr : Row RT 4 w A x.args) :
    Rt Tryd.prog 55 #[.agg #[.string x.p,.slice A x.args.length c]] w fun v w' => v = .int .i64 (code (atB x)) ∧ Ext w w' := by
  refine enter Tryd.func55 rfl (l := [.agg #[.string x.p,.slice A x.args.length c]]) rfl Tryd.ntmps55 (Nat.le_of_ble_eq_true rfl) ?_
  have hl_ := At.okc.l ho
  have hc_ := At.okc.c ho
  have hp_ := At.okc.p ho
  refine c_seq (c_reg (s_box (v := .agg #[.string x.p,.slice A x.args.length c]) (cs := #[.string x.p,.slice A x.args.length c]) (w0 rfl) (ej rfl rfl) rfl ?_))
  intro w2 g1 n3
  refine s_assign (v := .int .i64 0) ev_c (w0 rfl) (c_done (n_then (c_seq (c_reg (s_field (off := 0) (o' := 0) F_f46_0 (ej rfl rfl) rfl (w0 rfl) (s_load (v := .string x.p) F_o9 (ej rfl rfl) (cell_of_blk (i := 0) (NewB.blk n3) rfl) (w0 rfl) (s_call F_e62 (w0 rfl) ev_f (m1 (ej rfl rfl)) (args := #[.string x.p]) rfl (t_name x.p _ (by omega)) ?_)))))))
  rintro _ w5 ⟨rfl,x4⟩
  rcases Bool.eq_false_or_eq_true (nameB x.p) with h6 | h6
  · refine s_move (v := .bool true) (vb (ej rfl rfl) h6) (w0 rfl) (s_field (off := 1) (o' := 1) F_f46_1 (ej rfl rfl) rfl (wy rfl rfl rfl rfl) (s_load (v := .slice A x.args.length c) F_o44 (ej rfl rfl) (cell_of_blk (i := 1) (Ext.blk x4 (NewB.blk n3)) rfl) (wy rfl rfl rfl rfl) (s_lenL F_l44 (ej rfl rfl) (wy rfl rfl rfl rfl) (s_cmp (r := decide ((x.args.length : Int) ≤ 24)) (ej rfl rfl) ev_c rfl (wy rfl rfl rfl rfl) (s_pick1 (v := .bool (decide ((x.args.length : Int) ≤ 24))) (ej rfl rfl) (ej rfl rfl) (w0 rfl) ?_)))))
    by_cases h7 : (x.args.length : Int) ≤ 24
    · refine s_move (v := .bool true) (vb (ej rfl rfl) (decide_eq_true h7)) (w0 rfl) (s_field (off := 1) (o' := 1) F_f46_1 (ej rfl rfl) rfl (wy rfl rfl rfl rfl) (s_load (v := .slice A x.args.length c) F_o44 (ej rfl rfl) (cell_of_blk (i := 1) (Ext.blk x4 (NewB.blk n3)) rfl) (wy rfl rfl rfl rfl) (s_call F_e82 (wy rfl rfl rfl rfl) ev_f (m2 (ej rfl rfl) ev_f) (args := #[.slice A x.args.length c,.func (.func 83) #[] #[]]) rfl (s_ContainsFuncT x.args A c _ (by omega) (Row.extT (Row.extT hr (NewB.ext n3)) x4)) ?_)))
      rintro _ w9 ⟨rfl,x8⟩
      refine s_not (b := decide (0 ≤ posB (fun y => !tmB y) x.args)) (ej rfl rfl) (wy rfl rfl rfl rfl) (s_pick1 (v := .bool (!(decide (0 ≤ posB (fun y => !tmB y) x.args)))) (ej rfl rfl) (ej rfl rfl) (w0 rfl) (s_call F_e50 (w0 rfl) ev_f (m1 (ej rfl rfl)) (args := #[.bool (!(decide (0 ≤ posB (fun y => !tmB y) x.args)))]) rfl (t_code (!(decide (0 ≤ posB (fun y => !tmB y) x.args))) _) ?_))
      rintro _ w11 ⟨rfl,x10⟩
      refine s_assign (v := .int .i64 (code (!(decide (0 ≤ posB (fun y => !tmB y) x.args))))) (ej rfl rfl) (w0 rfl) (c_done (n_then (c_ret (ret1 (v := .int .i64 (code (!(decide (0 ≤ posB (fun y => !tmB y) x.args))))) rfl rfl rfl ?_))))
      refine ⟨_,rfl,?_,(Ext.trans (Ext.trans (Ext.trans (NewB.ext n3) x4) x8) x10)⟩
      (refine congrArg (Value.int .i64) (congrArg code ?_); unfold atB; try rw [← posB_all]; simp only [*,decide_true,decide_false,if_true,if_false,Bool.and_true,Bool.true_and,Bool.false_and,Bool.and_false,Bool.not_true,Bool.not_false,Bool.false_eq_true,reduceIte,not_true_eq_false,not_false_eq_true])
    refine s_move (v := .bool false) (vb (ej rfl rfl) (decide_eq_false h7)) (w0 rfl) (s_skip (wn rfl rfl rfl rfl rfl) (s_skip (wn rfl rfl rfl rfl rfl) (s_skip (wn rfl rfl rfl rfl rfl) (s_skip (wn rfl rfl rfl rfl rfl) (s_pick0 (v := .bool false) (ej rfl rfl) ev_c (w0 rfl) (s_call F_e50 (w0 rfl) ev_f (m1 (ej rfl rfl)) (args := #[.bool false]) rfl (t_code false _) ?_))))))
    rintro _ w13 ⟨rfl,x12⟩
    refine s_assign (v := .int .i64 (code false)) (ej rfl rfl) (w0 rfl) (c_done (n_then (c_ret (ret1 (v := .int .i64 (code false)) rfl rfl rfl ?_))))
    refine ⟨_,rfl,?_,(Ext.trans (Ext.trans (NewB.ext n3) x4) x12)⟩
    (refine congrArg (Value.int .i64) (congrArg code ?_); unfold atB; try rw [← posB_all]; simp only [*,decide_true,decide_false,if_true,if_false,Bool.and_true,Bool.true_and,Bool.false_and,Bool.and_false,Bool.not_true,Bool.not_false,Bool.false_eq_true,reduceIte,not_true_eq_false,not_false_eq_true])
  refine s_move (v := .bool false) (vb (ej rfl rfl) h6) (w0 rfl) (s_skip (wn rfl rfl rfl rfl rfl) (s_skip (wn rfl rfl rfl rfl rfl) (s_skip (wn rfl rfl rfl rfl rfl) (s_skip (wn rfl rfl rfl rfl rfl) (s_pick0 (v := .bool false) (ej rfl rfl) ev_c (w0 rfl) (s_move (v := .bool false) (ej rfl rfl) (w0 rfl) (s_skip (wn rfl rfl rfl rfl rfl) (s_skip (wn rfl rfl rfl rfl rfl) (s_skip (wn rfl rfl rfl rfl rfl) (s_skip (wn rfl rfl rfl rfl rfl) (s_pick0 (v := .bool false) (ej rfl rfl) ev_c (w0 rfl) ?_)))))))))))
  refine s_call F_e50 (w0 rfl) ev_f (m1 (ej rfl rfl)) (args := #[.bool false]) rfl (t_code false _) ?_
  rintro _ w15 ⟨rfl,x14⟩
  refine s_assign (v := .int .i64 (code false)) (ej rfl rfl) (w0 rfl) (c_done (n_then (c_ret (ret1 (v := .int .i64 (code false)) rfl rfl rfl ?_))))
  refine ⟨_,rfl,?_,(Ext.trans (Ext.trans (NewB.ext n3) x4) x14)⟩
  (refine congrArg (Value.int .i64) (congrArg code ?_); unfold atB; try rw [← posB_all]; simp only [*,decide_true,decide_false,if_true,if_false,Bool.and_true,Bool.true_and,Bool.false_and,Bool.and_false,Bool.not_true,Bool.not_false,Bool.false_eq_true,reduceIte,not_true_eq_false,not_false_eq_true])
end Go.Proofs.Dw

set_option linter.unusedVariables false
set_option linter.unusedSimpArgs false
set_option maxRecDepth 10000
namespace Go.Proofs.Dw
open Go Go.Wk Go.Proofs Go.Lib
attribute [local irreducible] Go.wpList Go.wpStill Go.wpQuiet Go.Code.wp Go.Calls
theorem F_e39 : enterable Tryd.prog 39 = true := by kernel_rfl
theorem F_e54 : enterable Tryd.prog 54 = true := by kernel_rfl
theorem F_e55 : enterable Tryd.prog 55 = true := by kernel_rfl
theorem F_e56 : enterable Tryd.prog 56 = true := by kernel_rfl
theorem F_e85 : enterable Tryd.prog 85 = true := by kernel_rfl
theorem F_m46 : many Tryd.prog 46 2 = true := by kernel_rfl
theorem F_o72 : one Tryd.prog 72 = true := by kernel_rfl
theorem p_columnsA (nm : ByteArray) (n : Nat) (l : List ByteArray) (g p1 p2 : Nat) (s0 : ByteArray) (wz : World) (w : World) (x0 : Ext wz w) (tb : Tabs Tryd.prog wz) (hb : BW 5 85 wz.heap.size w g s0) (hnl : n = l.length) (hn : l.length ≤ 24) (hM : ∀ i,i < l.length → (l.getD i ⟨#[]⟩).size ≤ 1000) (hs : s0.size + nm.size + 30000 ≤ 100000000000000) (hone : ∀ (i : Nat) (w' : World) (s1 : ByteArray),i < l.length → Ext wz w' → Bld 5 g w w' → BW 5 85 wz.heap.size w' g s1 → s1.size ≤ 100000000000000 → Rt Tryd.prog 85 #[.int .i64 ((i : Nat) : Int),.pointer (some ⟨p1,0,none⟩),.pointer (some ⟨p2,0,none⟩)] w' fun v w2 => v = .tuple #[] ∧ Wr 5 85 wz.heap.size g (s1 ++ l.getD i ⟨#[]⟩) w' w2) :
    Rt Tryd.prog 39 #[.pointer (some ⟨g,0,none⟩),.string nm,.int .i64 ((n : Nat) : Int),.func (.func 85) #[] #[.pointer (some ⟨p1,0,none⟩),.pointer (some ⟨p2,0,none⟩)]] w fun v w' => v = .tuple #[] ∧ Wr 5 85 wz.heap.size g (s0 ++ colW nm l) w w' := by
  refine enter Tryd.func39 rfl (l := [.pointer (some ⟨g,0,none⟩),.string nm,.int .i64 ((n : Nat) : Int),.func (.func 85) #[] #[.pointer (some ⟨p1,0,none⟩),.pointer (some ⟨p2,0,none⟩)]]) rfl Tryd.ntmps39 (Nat.le_of_ble_eq_true rfl) ?_
  subst hnl
  have hB_ := Keep.size x0
  refine c_seq (c_reg (s_move (v := .pointer (some ⟨g,0,none⟩)) (ej rfl rfl) (w0 rfl) (s_move (v := .string nm) (ej rfl rfl) (w0 rfl) (s_bslice (vs := [(0,.string nm)]) (cs := #[.string nm]) (b1 (ej rfl rfl)) (bs122_1_0s nm) (w0 rfl) ?_))))
  intro w2 g1 n3
  have ne_g1 : g1 ≠ g := by have a_ := NewB.eq n3; have b_ := BW.lt hb; omega
  refine s_call F_e35 (w0 rfl) ev_f (m2 (ej rfl rfl) (ej rfl rfl)) (args := #[.pointer (some ⟨g,0,none⟩),.slice (some ⟨g1,0,none⟩) 1 1]) rfl (p_put 85 _ g g1 (s0) [nm] _ (BW.ext hb (NewB.ext n3)) (Nat.le_trans hB_ (Keep.size (NewB.ext n3))) (by decide) F_lies85 (NewB.blk n3) (by simp only [catL,ByteArray.size_append,z0,z1,z2,z3,z4,z5,z6]; omega) (by simp)) ?_
  rintro _ w4 ⟨rfl,wr5⟩
  refine c_done (n_then (c_seq (c_seq (c_reg (s_move (v := .int .i64 ((l.length : Nat) : Int)) (ej rfl rfl) (w0 rfl) (s_move (v := .int .i64 0) ev_c (w0 rfl) (c_done (n_then (c_block (c_loop (α := Nat) (fun (i : Nat) env_ w_ => Wr 5 85 wz.heap.size g (s0 ++ nm ++ colP l i) w w_ ∧ i ≤ l.length ∧ env_ 0 = .pointer (some ⟨g,0,none⟩) ∧ env_ 2 = .int .i64 ((l.length : Nat) : Int) ∧ env_ 3 = .func (.func 85) #[] #[.pointer (some ⟨p1,0,none⟩),.pointer (some ⟨p2,0,none⟩)] ∧ env_ 13 = .int .i64 ((l.length : Nat) : Int) ∧ env_ 14 = .int .i64 ((i : Nat) : Int)) (fun i => l.length - i) (0) ⟨(Wr.cast (Wr.then_ (Wr.of_ext hb (NewB.ext n3) hB_) wr5) (by simp [catL,app_nil,colP])),Nat.zero_le _,rfl,rfl,rfl,rfl,rfl⟩ ?_))))))))))
  rintro i env8 w6 ⟨x7,i9,e10,e11,e12,e13,e14⟩
  have hP_ := colP_le hM i i9
  have hM2_ := hM i
  refine c_seq (c_reg (s_cmp (r := decide (((i : Nat) : Int) < ((l.length : Nat) : Int))) (ej rfl e14) (ej rfl e13) rfl (w0 rfl) (c_done (n_then (c_seq ?_)))))
  by_cases h15 : ((i : Nat) : Int) < ((l.length : Nat) : Int)
  · refine c_cond1 (vb (ej rfl rfl) (decide_eq_true h15)) (c_skip (n_then (c_seq (c_block (c_seq (c_reg (s_move (v := .int .i64 ((i : Nat) : Int)) (ej rfl e14) (w0 rfl) (s_assign (v := .int .i64 ((i : Nat) : Int)) (ej rfl rfl) (w0 rfl) (c_done (n_then (c_seq ?_)))))))))))
    refine c_seq (c_reg (s_move (v := .int .i64 ((i : Nat) : Int)) (ej rfl rfl) (w0 rfl) (s_cmp (r := decide (((i : Nat) : Int) = 0)) (ej rfl rfl) ev_c rfl (w0 rfl) (c_done (n_then ?_)))))
    by_cases h16 : ((i : Nat) : Int) = 0
    · refine c_cond1 (vb (ej rfl rfl) (decide_eq_true h16)) (c_reg (s_move (v := .pointer (some ⟨g,0,none⟩)) (ej rfl e10) (w0 rfl) (s_bslice (vs := [(0,.string (⟨#[40]⟩ : ByteArray))]) (cs := #[.string (⟨#[40]⟩ : ByteArray)]) (b1 ev_c) (bs122_1_0s (⟨#[40]⟩ : ByteArray)) (w0 rfl) ?_)))
      intro w18 g17 n19
      have ne_g17 : g17 ≠ g := by have a_ := NewB.eq n19; have b_ := BW.lt (Wr.bw x7); omega
      refine s_call F_e35 (w0 rfl) ev_f (m2 (ej rfl rfl) (ej rfl rfl)) (args := #[.pointer (some ⟨g,0,none⟩),.slice (some ⟨g17,0,none⟩) 1 1]) rfl (p_put 85 _ g g17 (s0 ++ nm ++ colP l i) [(⟨#[40]⟩ : ByteArray)] _ (BW.ext (Wr.bw x7) (NewB.ext n19)) (Nat.le_trans (Nat.le_trans hB_ (Wr.size x7)) (Keep.size (NewB.ext n19))) (by decide) F_lies85 (NewB.blk n19) (by simp only [catL,ByteArray.size_append,z0,z1,z2,z3,z4,z5,z6]; omega) (by simp)) ?_
      rintro _ w20 ⟨rfl,wr21⟩
      refine c_done (n_then (c_reg (s_move (v := .func (.func 85) #[] #[.pointer (some ⟨p1,0,none⟩),.pointer (some ⟨p2,0,none⟩)]) (ej rfl e12) (w0 rfl) (s_move (v := .int .i64 ((i : Nat) : Int)) (ej rfl rfl) (w0 rfl) (s_call F_e85 (w0 rfl) (ej rfl rfl) (m1 (ej rfl rfl)) (args := #[.int .i64 ((i : Nat) : Int),.pointer (some ⟨p1,0,none⟩),.pointer (some ⟨p2,0,none⟩)]) rfl (hone i _ (s0 ++ nm ++ colP l i ++ (catL [(⟨#[40]⟩ : ByteArray)])) (by omega) (Wr.after wr21 (Ext.trans (Wr.after x7 x0 rfl) (NewB.ext n19)) rfl) (Wr.bld (Wr.then_ (Wr.ext x7 (NewB.ext n19) hB_) wr21)) (Wr.bw wr21) (by simp only [catL,ByteArray.size_append,z0,z1,z2]; omega)) ?_)))))
      rintro _ w22 ⟨rfl,wr23⟩
      refine c_done (n_block (n_then (c_reg (s_add (r := ((i + 1 : Nat) : Int)) (ej rfl e14) ev_c (by omega) (by omega) (w0 rfl) (s_move (v := .int .i64 ((i + 1 : Nat) : Int)) (ej rfl rfl) (w0 rfl) (c_done ?_))))))
      exact ⟨(i + 1),_,rfl,⟨(Wr.cast (Wr.then_ (Wr.then_ (Wr.ext x7 (NewB.ext n19) hB_) wr21) wr23) (by simp only [colP]; (first | rw [if_pos (by omega)] | rw [if_neg (by omega)]); simp only [catL,app_nil,app_assoc])),by omega,e10,e11,e12,e13,rfl⟩,(show l.length - (i + 1) < l.length - i by omega)⟩
    refine c_cond0 (vb (ej rfl rfl) (decide_eq_false h16)) (c_reg (s_move (v := .pointer (some ⟨g,0,none⟩)) (ej rfl e10) (w0 rfl) (s_bslice (vs := [(0,.string (⟨#[44,32]⟩ : ByteArray))]) (cs := #[.string (⟨#[44,32]⟩ : ByteArray)]) (b1 ev_c) (bs122_1_0s (⟨#[44,32]⟩ : ByteArray)) (w0 rfl) ?_)))
    intro w25 g24 n26
    have ne_g24 : g24 ≠ g := by have a_ := NewB.eq n26; have b_ := BW.lt (Wr.bw x7); omega
    refine s_call F_e35 (w0 rfl) ev_f (m2 (ej rfl rfl) (ej rfl rfl)) (args := #[.pointer (some ⟨g,0,none⟩),.slice (some ⟨g24,0,none⟩) 1 1]) rfl (p_put 85 _ g g24 (s0 ++ nm ++ colP l i) [(⟨#[44,32]⟩ : ByteArray)] _ (BW.ext (Wr.bw x7) (NewB.ext n26)) (Nat.le_trans (Nat.le_trans hB_ (Wr.size x7)) (Keep.size (NewB.ext n26))) (by decide) F_lies85 (NewB.blk n26) (by simp only [catL,ByteArray.size_append,z0,z1,z2,z3,z4,z5,z6]; omega) (by simp)) ?_
    rintro _ w27 ⟨rfl,wr28⟩
    refine c_done (n_then (c_reg (s_move (v := .func (.func 85) #[] #[.pointer (some ⟨p1,0,none⟩),.pointer (some ⟨p2,0,none⟩)]) (ej rfl e12) (w0 rfl) (s_move (v := .int .i64 ((i : Nat) : Int)) (ej rfl rfl) (w0 rfl) (s_call F_e85 (w0 rfl) (ej rfl rfl) (m1 (ej rfl rfl)) (args := #[.int .i64 ((i : Nat) : Int),.pointer (some ⟨p1,0,none⟩),.pointer (some ⟨p2,0,none⟩)]) rfl (hone i _ (s0 ++ nm ++ colP l i ++ (catL [(⟨#[44,32]⟩ : ByteArray)])) (by omega) (Wr.after wr28 (Ext.trans (Wr.after x7 x0 rfl) (NewB.ext n26)) rfl) (Wr.bld (Wr.then_ (Wr.ext x7 (NewB.ext n26) hB_) wr28)) (Wr.bw wr28) (by simp only [catL,ByteArray.size_append,z0,z1,z2]; omega)) ?_)))))
    rintro _ w29 ⟨rfl,wr30⟩
    refine c_done (n_block (n_then (c_reg (s_add (r := ((i + 1 : Nat) : Int)) (ej rfl e14) ev_c (by omega) (by omega) (w0 rfl) (s_move (v := .int .i64 ((i + 1 : Nat) : Int)) (ej rfl rfl) (w0 rfl) (c_done ?_))))))
    exact ⟨(i + 1),_,rfl,⟨(Wr.cast (Wr.then_ (Wr.then_ (Wr.ext x7 (NewB.ext n26) hB_) wr28) wr30) (by simp only [colP]; (first | rw [if_pos (by omega)] | rw [if_neg (by omega)]); simp only [catL,app_nil,app_assoc])),by omega,e10,e11,e12,e13,rfl⟩,(show l.length - (i + 1) < l.length - i by omega)⟩
  refine c_cond0 (vb (ej rfl rfl) (decide_eq_false h15)) (c_exit (e_then (e_then (e_hit (n_then (c_seq (c_reg (s_move (v := .int .i64 ((l.length : Nat) : Int)) (ej rfl e11) (w0 rfl) (s_cmp (r := decide (0 < ((l.length : Nat) : Int))) (ej rfl rfl) ev_c rfl (w0 rfl) (c_done (n_then ?_)))))))))))
  by_cases h31 : 0 < ((l.length : Nat) : Int)
  · refine c_cond1 (vb (ej rfl rfl) (decide_eq_true h31)) (c_reg (s_move (v := .pointer (some ⟨g,0,none⟩)) (ej rfl e10) (w0 rfl) (s_bslice (vs := [(0,.string (⟨#[41]⟩ : ByteArray))]) (cs := #[.string (⟨#[41]⟩ : ByteArray)]) (b1 ev_c) (bs122_1_0s (⟨#[41]⟩ : ByteArray)) (w0 rfl) ?_)))
    intro w33 g32 n34
    have ne_g32 : g32 ≠ g := by have a_ := NewB.eq n34; have b_ := BW.lt (Wr.bw x7); omega
    refine s_call F_e35 (w0 rfl) ev_f (m2 (ej rfl rfl) (ej rfl rfl)) (args := #[.pointer (some ⟨g,0,none⟩),.slice (some ⟨g32,0,none⟩) 1 1]) rfl (p_put 85 _ g g32 (s0 ++ nm ++ colP l i) [(⟨#[41]⟩ : ByteArray)] _ (BW.ext (Wr.bw x7) (NewB.ext n34)) (Nat.le_trans (Nat.le_trans hB_ (Wr.size x7)) (Keep.size (NewB.ext n34))) (by decide) F_lies85 (NewB.blk n34) (by simp only [catL,ByteArray.size_append,z0,z1,z2,z3,z4,z5,z6]; omega) (by simp)) ?_
    rintro _ w35 ⟨rfl,wr36⟩
    refine c_done (ret0 rfl ?_)
    exact ⟨_,rfl,rfl,Wr.cast (Wr.then_ (Wr.ext x7 (NewB.ext n34) hB_) wr36) (by (have e_ : i = l.length := by omega); subst e_; unfold colW; first | (rw [if_neg (by omega)]; simp only [catL,app_nil,app_assoc]; done) | ((have e2_ : l.length = 0 := by omega); rw [if_pos e2_,e2_]; simp [colP,app_nil]))⟩
  refine c_cond0 (vb (ej rfl rfl) (decide_eq_false h31)) (c_skip (ret0 rfl ?_))
  exact ⟨_,rfl,rfl,Wr.cast x7 (by (have e_ : i = l.length := by omega); subst e_; unfold colW; first | (rw [if_neg (by omega)]; simp only [catL,app_nil,app_assoc]; done) | ((have e2_ : l.length = 0 := by omega); rw [if_pos e2_,e2_]; simp [colP,app_nil]))⟩
theorem p_atom1 (i : Nat) (x : At) (A : Option Addr) (c g p1 p2 : Nat) (s0 : ByteArray) (wz : World) (w : World) (x0 : Ext wz w) (tb : Tabs Tryd.prog wz) (hb : BW 5 85 wz.heap.size w g s0) (hr : Row RT 4 wz A x.args) (hp1 : w.heap[p1]? = some (.cells #[.pointer (some ⟨g,0,none⟩)] 72 (0,0))) (hp2 : w.heap[p2]? = some (.cells #[.string x.p,.slice A x.args.length c] 46 (0,0))) (hi : i < x.args.length) (hv : tmB (tmAt x.args i) = true) (hs : s0.size ≤ 100000000000000) :
    Rt Tryd.prog 85 #[.int .i64 ((i : Nat) : Int),.pointer (some ⟨p1,0,none⟩),.pointer (some ⟨p2,0,none⟩)] w fun v w' => v = .tuple #[] ∧ Wr 5 85 wz.heap.size g (s0 ++ termW (tmAt x.args i)) w w' := by
  refine enter Tryd.func85 rfl (l := [.int .i64 ((i : Nat) : Int),.pointer (some ⟨p1,0,none⟩),.pointer (some ⟨p2,0,none⟩)]) rfl Tryd.ntmps85 (Nat.le_of_ble_eq_true rfl) ?_
  have hB_ := Keep.size x0
  refine c_tail 6 mixed (by kernel_rfl) rfl rfl ?_
  intro w1 x2
  refine t_val (v := .pointer (some ⟨g,0,none⟩)) (w0 rfl) (r_load (v := .pointer (some ⟨g,0,none⟩)) F_o72 (ej rfl rfl) (cell_of_blk (i := 0) (Ext.blk x2 hp1) rfl)) (t_val (v := .pointer (some ⟨p2,1,none⟩)) (w0 rfl) (r_field (off := 1) (o' := 1) F_f46_1 (ej rfl rfl) rfl) (t_val (v := .slice A x.args.length c) (w0 rfl) (r_load (v := .slice A x.args.length c) F_o44 (ej rfl rfl) (cell_of_blk (i := 1) (Ext.blk x2 hp2) rfl)) (t_val (v := .int .i64 ((i : Nat) : Int)) (w0 rfl) (r_move (v := .int .i64 ((i : Nat) : Int)) (ej rfl rfl)) ?_)))
  obtain ⟨b3,o4,x5,csx5,hA6,hx7,hR8,hc9⟩ := Row.at_ hr i (by omega)
  obtain rfl := tmAt_of hx7
  obtain ⟨rfl,wf10⟩ := hR8
  refine t_val (v := .pointer (some ⟨b3,o4 + i * 4,none⟩)) (w0 rfl) (r_indexR (j := i) F_l44 (ej rfl rfl) hA6 (ej rfl rfl) rfl (by omega)) (t_val (v := .agg #[.string ((tmAt x.args i).v),.int .i8 ((tmAt x.args i).l.k),.int .i64 ((tmAt x.args i).l.n),.string ((tmAt x.args i).l.s)]) (w0 rfl) (r_loadL (cs := [.string ((tmAt x.args i).v),.int .i8 ((tmAt x.args i).l.k),.int .i64 ((tmAt x.args i).l.n),.string ((tmAt x.args i).l.s)]) F_m28 (ej rfl rfl) rfl rfl (sub_cells (cells_ext x2 (cells_ext x0 hc9)) 0 rfl)) (t_done (s_call F_e41 (w0 rfl) ev_f (m2 (ej rfl rfl) (ej rfl rfl)) (args := #[.pointer (some ⟨g,0,none⟩),.agg #[.string ((tmAt x.args i).v),.int .i8 ((tmAt x.args i).l.k),.int .i64 ((tmAt x.args i).l.n),.string ((tmAt x.args i).l.s)]]) rfl (p_term (tmAt x.args i) g (s0) wz _ (Ext.trans x0 x2) tb (BW.ext hb x2) wf10 (by have := termW_size hv wf10; omega)) ?_)))
  rintro _ w11 ⟨rfl,wr12⟩
  refine c_done (ret0 rfl ?_)
  exact ⟨_,rfl,rfl,Wr.cast (Wr.then_ (Wr.of_ext hb x2 hB_) wr12) (rfl)⟩
theorem p_atom (x : At) (A : Option Addr) (c : Nat) (g : Nat) (s0 : ByteArray) (wz : World) (w : World) (x0 : Ext wz w) (tb : Tabs Tryd.prog wz) (hb : BW 5 85 wz.heap.size w g s0) (ho : x.okc c) (hr : Row RT 4 wz A x.args) (hat : atB x = true) (hs : s0.size + 40000 ≤ 100000000000000) :
    Rt Tryd.prog 56 #[.pointer (some ⟨g,0,none⟩),.agg #[.string x.p,.slice A x.args.length c]] w fun v w' => v = .tuple #[] ∧ Wr 5 85 wz.heap.size g (s0 ++ atW x) w w' := by
  refine enter Tryd.func56 rfl (l := [.pointer (some ⟨g,0,none⟩),.agg #[.string x.p,.slice A x.args.length c]]) rfl Tryd.ntmps56 (Nat.le_of_ble_eq_true rfl) ?_
  have hB_ := Keep.size x0
  have hl_ := At.okc.l ho
  have hc_ := At.okc.c ho
  have hp_ := At.okc.p ho
  obtain ⟨_,hpz_,hn_,hq_⟩ := atB_parts hat
  refine c_seq (c_reg (s_box (v := .pointer (some ⟨g,0,none⟩)) (cs := #[.pointer (some ⟨g,0,none⟩)]) (w0 rfl) (ej rfl rfl) rfl ?_))
  intro w2 g1 n3
  have ne_g1 : g1 ≠ g := by have a_ := NewB.eq n3; have b_ := BW.lt hb; omega
  refine s_box (v := .agg #[.string x.p,.slice A x.args.length c]) (cs := #[.string x.p,.slice A x.args.length c]) (w0 rfl) (ej rfl rfl) rfl ?_
  intro w5 g4 n6
  have ne_g4 : g4 ≠ g := by have a_ := NewB.eq n6; have b_ := BW.lt (BW.ext hb (NewB.ext n3)); omega
  refine c_done (n_then (c_reg (s_load (v := .pointer (some ⟨g,0,none⟩)) F_o72 (ej rfl rfl) (cell_of_blk (i := 0) (Ext.blk (NewB.ext n6) (NewB.blk n3)) rfl) (w0 rfl) (s_field (off := 0) (o' := 0) F_f46_0 (ej rfl rfl) rfl (w0 rfl) (s_load (v := .string x.p) F_o9 (ej rfl rfl) (cell_of_blk (i := 0) (NewB.blk n6) rfl) (w0 rfl) (s_field (off := 1) (o' := 1) F_f46_1 (ej rfl rfl) rfl (w0 rfl) (s_load (v := .slice A x.args.length c) F_o44 (ej rfl rfl) (cell_of_blk (i := 1) (NewB.blk n6) rfl) (w0 rfl) (s_lenL F_l44 (ej rfl rfl) (w0 rfl) (s_makeFunc (vf := #[]) (vc := #[.pointer (some ⟨g1,0,none⟩),.pointer (some ⟨g4,0,none⟩)]) m0 (m2 (ej rfl rfl) (ej rfl rfl)) (w0 rfl) (s_call F_e39 (w0 rfl) ev_f (m4 (ej rfl rfl) (ej rfl rfl) (ej rfl rfl) (ej rfl rfl)) (args := #[.pointer (some ⟨g,0,none⟩),.string x.p,.int .i64 (x.args.length : Int),.func (.func 85) #[] #[.pointer (some ⟨g1,0,none⟩),.pointer (some ⟨g4,0,none⟩)]]) rfl (p_columnsA x.p _ (x.args.map termW) g g1 g4 (s0) wz _ (Ext.trans (Ext.trans x0 (NewB.ext n3)) (NewB.ext n6)) tb (BW.ext (BW.ext hb (NewB.ext n3)) (NewB.ext n6)) (by rw [List.length_map]) (by rw [List.length_map]; exact hn_) (fun i_ hi_ => by rw [List.length_map] at hi_; rw [termW_at hi_]; have z_ := termW_size (hq_ i_ hi_) (RT_wf hr hi_); omega) (by omega) (fun i_ w_ s_ hi_ x_ bl_ hb_ hs_ => by rw [List.length_map] at hi_; rw [termW_at hi_]; exact p_atom1 i_ x A c g g1 g4 s_ wz w_ x_ tb hb_ hr (Bld.blk bl_ (Ext.blk (NewB.ext n6) (NewB.blk n3)) (Or.inl (by decide)) ne_g1) (Bld.blk bl_ (NewB.blk n6) (Or.inl (by decide)) ne_g4) hi_ (hq_ i_ hi_) hs_)) ?_))))))))))
  rintro _ w7 ⟨rfl,wr8⟩
  refine c_done (ret0 rfl ?_)
  exact ⟨_,rfl,rfl,Wr.cast (Wr.then_ (Wr.of_ext hb (Ext.trans (NewB.ext n3) (NewB.ext n6)) hB_) wr8) (rfl)⟩
theorem p_toldA (x : At) (A : Option Addr) (c : Nat) (w : World) (ho : x.okc c) (hr : Row RT 4 w A x.args) (tb : Tabs Tryd.prog w) :
    Rt Tryd.prog 54 #[.agg #[.string x.p,.slice A x.args.length c],.func (.func 55) #[] #[],.func (.func 56) #[] #[]] w fun v w' => v = .tuple #[.string (if atB x then atW x else ⟨#[]⟩),.int .i64 (code (atB x))] ∧ Ext w w' := by
  refine enter Tryd.func54 rfl (l := [.agg #[.string x.p,.slice A x.args.length c],.func (.func 55) #[] #[],.func (.func 56) #[] #[]]) rfl Tryd.ntmps54 (Nat.le_of_ble_eq_true rfl) ?_
  have hl_ := At.okc.l ho
  have hc_ := At.okc.c ho
  have hp_ := At.okc.p ho
  refine c_seq (c_reg (s_box (v := .agg #[.string x.p,.slice A x.args.length c]) (cs := #[.string x.p,.slice A x.args.length c]) (w0 rfl) (ej rfl rfl) rfl ?_))
  intro w2 g1 n3
  refine s_assign (v := .string (⟨#[]⟩ : ByteArray)) ev_c (w0 rfl) (s_assign (v := .int .i64 0) ev_c (w0 rfl) (c_done (n_then (c_seq (c_seq (c_reg (s_move (v := .func (.func 55) #[] #[]) (ej rfl rfl) (w0 rfl) (s_loadL (cs := [.string x.p,.slice A x.args.length c]) F_m46 (ej rfl rfl) rfl rfl (blk_cells (NewB.blk n3) 0 rfl) (w0 rfl) (s_call F_e55 (w0 rfl) (ej rfl rfl) (m1 (ej rfl rfl)) (args := #[.agg #[.string x.p,.slice A x.args.length c]]) rfl (t_CheckAtom x A c _ ho (Row.extT hr (NewB.ext n3))) ?_)))))))))
  rintro _ w5 ⟨rfl,x4⟩
  refine s_cmp (r := !(atB x)) (ej rfl rfl) ev_c (ci_tn (b := (atB x)) (by decide)) (w0 rfl) (c_done (n_then ?_))
  rcases Bool.eq_false_or_eq_true (atB x) with h6 | h6
  · refine c_cond0 (vb (ej rfl rfl) (nbt h6)) (c_skip (n_then (c_seq (c_reg (s_alloc (cs := #[.pointer none,.slice none 0 0]) (w0 rfl) F_z85 rfl ?_)))))
    intro w8 g7 n9
    have bw_ : BW 5 85 w.heap.size w8 g7 ⟨#[]⟩ := BW.new n9 rfl (by decide) (Keep.size (Ext.trans (NewB.ext n3) x4))
    have hB_ := Keep.size (Ext.trans (Ext.trans (NewB.ext n3) x4) (NewB.ext n9))
    refine c_done (n_then (c_seq (c_reg (s_move (v := .func (.func 56) #[] #[]) (ej rfl rfl) (w0 rfl) (s_loadL (cs := [.string x.p,.slice A x.args.length c]) F_m46 (ej rfl rfl) rfl rfl (blk_cells (Ext.blk (NewB.ext n9) (Ext.blk x4 (NewB.blk n3))) 0 rfl) (w0 rfl) (s_call F_e56 (w0 rfl) (ej rfl rfl) (m2 (ej rfl rfl) (ej rfl rfl)) (args := #[.pointer (some ⟨g7,0,none⟩),.agg #[.string x.p,.slice A x.args.length c]]) rfl (p_atom x A c g7 ((⟨#[]⟩ : ByteArray)) w _ (Ext.trans (Ext.trans (NewB.ext n3) x4) (NewB.ext n9)) (Tabs.ext tb (Ext.refl _)) bw_ ho hr (by assumption) (by simp only [ByteArray.size_append,z0]; omega)) ?_))))))
    rintro _ w10 ⟨rfl,wr11⟩
    refine c_done (n_then (c_seq (c_reg (s_field (off := 0) (o' := 0) F_f85_0 (ej rfl rfl) rfl (w0 rfl) (s_call F_e36 (w0 rfl) ev_f (m1 (ej rfl rfl)) (args := #[.pointer (some ⟨g7,0,none⟩)]) rfl (b_String 85 _ g7 ((⟨#[]⟩ : ByteArray) ++ (atW x)) _ (Wr.bw wr11) (Nat.le_trans hB_ (Wr.size wr11)) (by rw [nil_app]; exact atW_ne (by assumption))) ?_)))))
    rintro _ w12 ⟨rfl,bl13⟩
    refine s_assign (v := .string ((⟨#[]⟩ : ByteArray) ++ (atW x))) (ej rfl rfl) (w0 rfl) (s_assign (v := .int .i64 0) ev_c (w0 rfl) (c_done (n_then (c_ret (ret2 (v := .string ((⟨#[]⟩ : ByteArray) ++ (atW x))) (v2 := .int .i64 0) rfl rfl rfl rfl rfl ?_)))))
    refine ⟨_,rfl,?_,(ext_bel (Wr.after wr11 (Ext.trans (Ext.trans (NewB.ext n3) x4) (NewB.ext n9)) rfl) bl13)⟩
    (simp [code,nil_app, *])
  refine c_cond1 (vb (ej rfl rfl) (nbf h6)) (c_seq (c_reg (s_assign (v := .string (⟨#[]⟩ : ByteArray)) ev_c (w0 rfl) (s_assign (v := .int .i64 40) ev_c (w0 rfl) (c_done (n_then (c_ret (r_then (ret2 (v := .string (⟨#[]⟩ : ByteArray)) (v2 := .int .i64 40) rfl rfl rfl rfl rfl ?_)))))))))
  refine ⟨_,rfl,?_,(Ext.trans (NewB.ext n3) x4)⟩
  (simp [code,nil_app, *])
theorem p_Atom (x : At) (A : Option Addr) (c : Nat) (w : World) (ho : x.okc c) (hr : Row RT 4 w A x.args) (tb : Tabs Tryd.prog w) :
    Rt Tryd.prog 26 #[.agg #[.string x.p,.slice A x.args.length c]] w fun v w' => v = .tuple #[.string (if atB x then atW x else ⟨#[]⟩),.int .i64 (code (atB x))] ∧ Ext w w' := by
  refine enter Tryd.func26 rfl (l := [.agg #[.string x.p,.slice A x.args.length c]]) rfl Tryd.ntmps26 (Nat.le_of_ble_eq_true rfl) ?_
  have hl_ := At.okc.l ho
  have hc_ := At.okc.c ho
  have hp_ := At.okc.p ho
  refine c_seq (c_reg (s_box (v := .agg #[.string x.p,.slice A x.args.length c]) (cs := #[.string x.p,.slice A x.args.length c]) (w0 rfl) (ej rfl rfl) rfl ?_))
  intro w2 g1 n3
  refine s_assign (v := .string (⟨#[]⟩ : ByteArray)) ev_c (w0 rfl) (s_assign (v := .int .i64 0) ev_c (w0 rfl) (c_done (n_then (c_seq (c_reg (s_loadL (cs := [.string x.p,.slice A x.args.length c]) F_m46 (ej rfl rfl) rfl rfl (blk_cells (NewB.blk n3) 0 rfl) (w0 rfl) (s_call F_e54 (w0 rfl) ev_f (m3 (ej rfl rfl) ev_f ev_f) (args := #[.agg #[.string x.p,.slice A x.args.length c],.func (.func 55) #[] #[],.func (.func 56) #[] #[]]) rfl (p_toldA x A c _ ho (Row.extT hr (NewB.ext n3)) (Tabs.ext tb (NewB.ext n3))) ?_)))))))
  rintro _ w5 ⟨rfl,x4⟩
  refine s_extract (v := .string (if atB x then atW x else ⟨#[]⟩)) (ej rfl rfl) rfl (w0 rfl) (s_extract (v := .int .i64 (code (atB x))) (ej rfl rfl) rfl (w0 rfl) (s_assign (v := .string (if atB x then atW x else ⟨#[]⟩)) (ej rfl rfl) (w0 rfl) (s_assign (v := .int .i64 (code (atB x))) (ej rfl rfl) (w0 rfl) (c_done (n_then (c_ret (ret2 (v := .string (if atB x then atW x else ⟨#[]⟩)) (v2 := .int .i64 (code (atB x))) rfl rfl rfl rfl rfl ?_)))))))
  refine ⟨_,rfl,?_,(Ext.trans (NewB.ext n3) x4)⟩
  rfl
end Go.Proofs.Dw

set_option linter.unusedVariables false
set_option linter.unusedSimpArgs false
namespace Go.Wk
open Go Go.RowKit Go.Lib
section
variable {P : Program} {ops : Array Oper} {Q : Exit → Act → World → Prop} {rest : List Oper} {n d t : Nat} {env : Nat → Value} {ds : List Deferred} {w w' : World} {v u : Value}
  {ty T : TypeId} {pos : String} {af : Array Edge} {gd : Option (Nat × Bool)} {x y z : Operand}
end
/-! ### a block that is filled, element by element -/
def Fill (E : World → Nat → List Value → Prop) (m : Nat) (e : TypeId) (w : World) (b N i : Nat) : Prop :=
  ∃ cs,w.heap[b]? = some (.cells cs e (0,0)) ∧ cs.size = N * m ∧ ∀ j,j < i → ∃ l : List Value,E w j l ∧ l.length = m ∧ ∀ k u,l[k]? = some u → cs[j * m + k]? = some u
section
variable {E : World → Nat → List Value → Prop} {m e b N i : Nat} {w w' : World}
theorem Fill.start {cs : Array Value} (nb : NewB w b (.cells cs e (0,0)) w') (hs : cs.size = N * m) : Fill E m e w' b N 0 :=
  ⟨cs,nb.blk,hs,fun j hj => absurd hj (Nat.not_lt_zero j)⟩
theorem Fill.ext (h : Fill E m e w b N i) (k : Ext w w') (hR : ∀ j l,E w j l → E w' j l) : Fill E m e w' b N i := by
  obtain ⟨cs,h1,h2,h3⟩ := h
  refine ⟨cs,k.blk h1,h2,fun j hj => ?_⟩
  obtain ⟨l,a1,a2,a3⟩ := h3 j hj
  exact ⟨l,hR j l a1,a2,a3⟩
theorem Fill.cells (h : Fill E m e w b N i) (j : Nat) (hj : j < i) : ∃ l : List Value,E w j l ∧ l.length = m ∧ ∀ (k : Nat) (u : Value),l[k]? = some u → w.cell? ⟨b,0 + j * m + k,none⟩ = some u := by
  obtain ⟨cs,h1,h2,h3⟩ := h
  obtain ⟨l,a1,a2,a3⟩ := h3 j hj
  refine ⟨l,a1,a2,fun k u hu => ?_⟩
  rw [Nat.zero_add]
  exact cell_of_blk h1 (a3 k u hu)
theorem Fill.lt (h : Fill E m e w b N i) : b < w.heap.size := by obtain ⟨cs,h1,_⟩ := h; exact lt_of_blk h1
end
section
variable {P : Program} {ops : Array Oper} {Q : Exit → Act → World → Prop} {rest : List Oper} {n d t : Nat} {env : Nat → Value} {ds : List Deferred} {w w' : World} {v u : Value}
  {ty T : TypeId} {pos : String} {af : Array Edge} {gd : Option (Nat × Bool)} {x y z : Operand}
end
/-! ### copies with a mark behind each list -/
def spareW : ByteArray := (⟨#[35]⟩ : ByteArray) ++ itoaB 777777
def markE : List Value := [.int .i8 99,.string spareW,.int .i8 0,.int .i64 0,.string ⟨#[]⟩,.slice none 0 0]
inductive LE (lo : Nat) (w : World) : Ex → List Value → Prop
  | mk (op : Int) (t : Tm) (kids : List Ex) (b : Nat) (f : Nat → List Value) (hlo : lo ≤ b) (hop : -128 ≤ op ∧ op ≤ 127) (ht : t.wf) (hc : kids.length * 80 ≤ 140737488351232)
    (hr : ∀ (j : Nat) (x : Ex),kids[j]? = some x → LE lo w x (f j)) (hcell : ∀ (j : Nat) (x : Ex),kids[j]? = some x → ∀ (i : Nat) (u : Value),(f j)[i]? = some u → w.cell? ⟨b,0 + j * 6 + i,none⟩ = some u)
    (hm : ∀ (i : Nat) (u : Value),markE[i]? = some u → w.cell? ⟨b,0 + kids.length * 6 + i,none⟩ = some u) :
    LE lo w (.mk op t kids) [.int .i8 op,.string t.v,.int .i8 t.l.k,.int .i64 t.l.n,.string t.l.s,.slice (some ⟨b,0,none⟩) kids.length (kids.length + 1)]
/-- A marked row of copies. -/
structure TwE (lo : Nat) (w : World) (b : Nat) (kids : List Ex) : Prop where
  above : lo ≤ b
  row : ∀ (j : Nat) (x : Ex),kids[j]? = some x → ∃ l,LE lo w x l ∧ ∀ (i : Nat) (u : Value),l[i]? = some u → w.cell? ⟨b,0 + j * 6 + i,none⟩ = some u
  mark : ∀ (i : Nat) (u : Value),markE[i]? = some u → w.cell? ⟨b,0 + kids.length * 6 + i,none⟩ = some u
theorem LE.mono {lo lo' : Nat} {w : World} {x : Ex} {cs : List Value} (h : LE lo w x cs) (hl : lo' ≤ lo) : LE lo' w x cs := by
  induction h with
  | mk op t kids b f hlo hop ht hc hr hcell hm ih => exact .mk op t kids b f (Nat.le_trans hl hlo) hop ht hc ih hcell hm
theorem LE.keep {lo : Nat} {w w' : World} {x : Ex} {cs : List Value} {S : Nat → Prop} (h : LE lo w x cs) (k : Keep S w w') (hS : ∀ i,S i → i < lo) : LE lo w' x cs := by
  induction h with
  | mk op t kids b f hlo hop ht hc hr hcell hm ih =>
    have hn : ¬ S b := fun h => by have := hS b h; omega
    exact .mk op t kids b f hlo hop ht hc ih (fun j x hx i u hu => k.cell (hcell j x hx i u hu) hn) (fun i u hu => k.cell (hm i u hu) hn)
theorem LE.ext {lo : Nat} {w w' : World} {x : Ex} {cs : List Value} (h : LE lo w x cs) (k : Ext w w') : LE lo w' x cs := h.keep k (fun _ h => h.elim)
theorem LE.open_ {lo : Nat} {w : World} {x : Ex} {cs : List Value} (h : LE lo w x cs) : ∃ b,cs = [.int .i8 x.op,.string x.t.v,.int .i8 x.t.l.k,.int .i64 x.t.l.n,.string x.t.l.s,.slice (some ⟨b,0,none⟩) x.kids.length (x.kids.length + 1)] ∧ TwE lo w b x.kids := by
  cases h with
  | mk op t kids b f hlo hop ht hc hr hcell hm => exact ⟨b,rfl,hlo,fun j x hx => ⟨f j,hr j x hx,hcell j x hx⟩,hm⟩
theorem LE.mk_ {lo : Nat} {w : World} {x : Ex} {b : Nat} (ho : -128 ≤ x.op ∧ x.op ≤ 127) (ht : x.t.wf) (hc : x.kids.length * 80 ≤ 140737488351232) (h : TwE lo w b x.kids) : LE lo w x [.int .i8 x.op,.string x.t.v,.int .i8 x.t.l.k,.int .i64 x.t.l.n,.string x.t.l.s,.slice (some ⟨b,0,none⟩) x.kids.length (x.kids.length + 1)] := by
  obtain ⟨op,t,kids⟩ := x
  obtain ⟨h1,h2,h3⟩ := h
  have hf : ∃ f : Nat → List Value,∀ (j : Nat) (x : Ex),kids[j]? = some x → LE lo w x (f j) ∧ ∀ (i : Nat) (u : Value),(f j)[i]? = some u → w.cell? ⟨b,0 + j * 6 + i,none⟩ = some u := by
    refine ⟨fun j => if hj : j < kids.length then Classical.choose (h2 j _ (List.getElem?_eq_getElem hj)) else [],fun j x hx => ?_⟩
    have hj : j < kids.length := (List.getElem?_eq_some_iff.1 hx).1
    have hx2 : kids[j] = x := (List.getElem?_eq_some_iff.1 hx).2
    simp only [dif_pos hj]
    have hs := Classical.choose_spec (h2 j _ (List.getElem?_eq_getElem hj))
    exact ⟨hx2 ▸ hs.1,hs.2⟩
  obtain ⟨f,hf⟩ := hf
  exact .mk op t kids b f h1 ho ht hc (fun j x hx => (hf j x hx).1) (fun j x hx => (hf j x hx).2) h3
theorem TwE.ext {lo : Nat} {w w' : World} {b : Nat} {kids : List Ex} (h : TwE lo w b kids) (k : Ext w w') : TwE lo w' b kids :=
  ⟨h.above,fun j x hx => by obtain ⟨l,h1,h2⟩ := h.row j x hx; exact ⟨l,h1.ext k,fun i u hu => k.cell (h2 i u hu)⟩,fun i u hu => k.cell (h.mark i u hu)⟩
/-- A copy is an expression. -/
theorem LE.re {lo : Nat} {w : World} {x : Ex} {cs : List Value} (h : LE lo w x cs) : RE w x cs := by
  induction h with
  | mk op t kids b f hlo hop ht hc hr hcell hm ih => exact .mk op t kids (some ⟨b,0,none⟩) (kids.length + 1) b 0 f hop ht (Nat.le_succ _) hc (.inr rfl) ih hcell
theorem TwE.rows {lo : Nat} {w : World} {b : Nat} {x : Ex} (h : TwE lo w b x.kids) : Row RE 6 w (some ⟨b,0,none⟩) x.kids := .inr ⟨b,0,rfl,fun j y hy => by
  obtain ⟨l,h1,h2⟩ := h.row j y hy; exact ⟨l,h1.re,h2⟩⟩
/-- What a filled block holds, with its mark: a marked row. -/
def EE (lo : Nat) (kids : List Ex) (w : World) (j : Nat) (l : List Value) : Prop := if j < kids.length then ∀ x,kids[j]? = some x → LE lo w x l else l = markE
theorem EE.keep {lo : Nat} {kids : List Ex} {w w' : World} {j : Nat} {l : List Value} {S : Nat → Prop} (h : EE lo kids w j l) (k : Keep S w w') (hS : ∀ i,S i → i < lo) : EE lo kids w' j l := by
  unfold EE at *
  split
  · rename_i hj; rw [if_pos hj] at h; exact fun x hx => (h x hx).keep k hS
  · rename_i hj; rw [if_neg hj] at h; exact h
theorem TwE.keep {lo : Nat} {w w' : World} {b : Nat} {kids : List Ex} {S : Nat → Prop} (h : TwE lo w b kids) (k : Keep S w w') (hS : ∀ i,S i → i < lo) : TwE lo w' b kids := by
  have hn : ¬ S b := fun hb => by have := hS b hb; have := h.above; omega
  exact ⟨h.above,fun j x hx => by obtain ⟨l,h1,h2⟩ := h.row j x hx; exact ⟨l,h1.keep k hS,fun i u hu => k.cell (h2 i u hu) hn⟩,fun i u hu => k.cell (h.mark i u hu) hn⟩
theorem TwE.mono {lo lo' : Nat} {w : World} {b : Nat} {kids : List Ex} (h : TwE lo w b kids) (hl : lo' ≤ lo) : TwE lo' w b kids :=
  ⟨Nat.le_trans hl h.above,fun j x hx => by obtain ⟨l,h1,h2⟩ := h.row j x hx; exact ⟨l,h1.mono hl,h2⟩,h.mark⟩
theorem EE.mark {lo : Nat} {w : World} {kids : List Ex} : EE lo kids w kids.length markE := by unfold EE; rw [if_neg (Nat.lt_irrefl _)]
theorem Fill.cast {E : World → Nat → List Value → Prop} {m e b N i i' : Nat} {w : World} (h : Fill E m e w b N i) (hi : i = i') : Fill E m e w b N i' := hi ▸ h
end Go.Wk

set_option linter.unusedVariables false
set_option linter.unusedSimpArgs false
set_option maxRecDepth 10000
namespace Go.Proofs.Dw
open Go Go.Wk Go.Proofs Go.Lib
attribute [local irreducible] Go.wpList Go.wpStill Go.wpQuiet Go.Code.wp Go.Calls
theorem bd28_0s : ∀ (a0 : ByteArray),∀ w : World,(Instr.build 28 [(0,.string a0)].toArray).run Tryd.prog w = .ok (.agg #[.string a0,.int .i8 0,.int .i64 0,.string (⟨#[]⟩ : ByteArray)]) w := by
  intros
  kernel_rfl
end Go.Proofs.Dw

set_option linter.unusedVariables false
set_option linter.unusedSimpArgs false
set_option maxRecDepth 10000
namespace Go.Proofs.Dw
open Go Go.Wk Go.Proofs Go.Lib
attribute [local irreducible] Go.wpList Go.wpStill Go.wpQuiet Go.Code.wp Go.Calls
theorem F_if31 : (Tryd.prog.info? 31).map (fun i => (i.zero,i.size,i.bytes)) = some (some (.agg #[.int .i8 0,.string (⟨#[]⟩ : ByteArray),.int .i8 0,.int .i64 0,.string (⟨#[]⟩ : ByteArray),.slice none 0 0]),6,80) := by kernel_rfl
theorem F_ul29 : Tryd.prog.underlying 29 = some (.slice 31) := by kernel_rfl
end Go.Proofs.Dw

set_option linter.unusedVariables false
set_option linter.unusedSimpArgs false
set_option maxRecDepth 10000
namespace Go.Proofs.Dw
open Go Go.Wk Go.Proofs Go.Lib
attribute [local irreducible] Go.wpList Go.wpStill Go.wpQuiet Go.Code.wp Go.Calls
end Go.Proofs.Dw

set_option linter.unusedVariables false
set_option linter.unusedSimpArgs false
namespace Go.Wk
open Go Go.RowKit Go.Lib Go.Sort
/-! ### levels: rows of expressions that the call itself makes; the expressions lie where they lay at the start (w0) -/
def OwnE (w0 : World) (B e : Nat) (w : World) (A : Option Addr) (c : Nat) (lv : List Ex) : Prop :=
  ∃ cs,w.ownsRow B e 6 (.slice A lv.length c) lv.length cs ∧ ∀ j y,lv[j]? = some y → ∃ l : List Value,RE w0 y l ∧ l.length = 6 ∧ ∀ k u,l[k]? = some u → cs[j * 6 + k]? = some u
structure Lv (w0 w : World) (A : Option Addr) (lv : List Ex) (N : Nat) : Prop where
  row : Row (fun _ x l => RE w0 x l) 6 w A lv
  lt : lv ≠ [] → ∀ b o,A = some ⟨b,o,none⟩ → b < N
theorem OwnE.nil {w0 w : World} {B e : Nat} : OwnE w0 B e w none 0 [] := ⟨[],own_nil B e 6,fun j y h => by simp at h⟩
theorem OwnE.ext {w0 w w' : World} {B e c : Nat} {A : Option Addr} {lv : List Ex} (h : OwnE w0 B e w A c lv) (k : Ext w w') : OwnE w0 B e w' A c lv := by
  obtain ⟨cs,h1,h2⟩ := h; exact ⟨cs,own_ext k h1,h2⟩
theorem OwnE.lv {w0 w : World} {B e c : Nat} {A : Option Addr} {lv : List Ex} (h : OwnE w0 B e w A c lv) : Lv w0 w A lv w.heap.size := by
  obtain ⟨cs,h1,h2⟩ := h
  by_cases h0 : lv = []
  · exact ⟨.inl h0,fun h => absurd h0 h⟩
  · obtain ⟨b,hA,hc⟩ := own_cells h1 (List.length_pos_iff.2 h0)
    refine ⟨.inr ⟨b,0,hA,fun j y hy => ?_⟩,fun _ b' o' h' => ?_⟩
    · obtain ⟨l,a1,a2,a3⟩ := h2 j y hy
      exact ⟨l,a1,fun i u hu => by rw [Nat.zero_add]; exact hc _ u (a3 i u hu)⟩
    · exact own_lt h1 b' (by rw [h']; rfl)
theorem Lv.ext {w0 w w' : World} {A : Option Addr} {lv : List Ex} {N : Nat} (h : Lv w0 w A lv N) (k : Ext w w') : Lv w0 w' A lv N := ⟨h.row.map (fun _ _ hc => k.cell hc) (fun _ _ _ h => h),h.lt⟩
theorem Lv.up {w0 w : World} {A : Option Addr} {lv : List Ex} {N N' : Nat} (h : Lv w0 w A lv N) (hn : N ≤ N') : Lv w0 w A lv N' := ⟨h.row,fun h0 b o hA => Nat.lt_of_lt_of_le (h.lt h0 b o hA) hn⟩
theorem Lv.keep {w0 w w' : World} {A : Option Addr} {lv : List Ex} {B : Nat} (h : Lv w0 w A lv B) (k : Keep (fun i => B ≤ i) w w') : Lv w0 w' A lv B := by
  refine ⟨?_,h.lt⟩
  by_cases h0 : lv = []
  · exact .inl h0
  · rcases h.row with h1 | ⟨b,o,hA,h1⟩
    · exact .inl h1
    · have hb := h.lt h0 b o hA
      exact .inr ⟨b,o,hA,fun j x hx => by
        obtain ⟨l,a1,a2⟩ := h1 j x hx
        exact ⟨l,a1,fun i u hu => k.cell (a2 i u hu) (by simp only []; omega)⟩⟩
/-- One expression, as a row of its own. -/
theorem Lv.one {w0 w w' : World} {x : Ex} {A : Option Addr} {c g e : Nat} (nb : NewB w g (.cells #[.int .i8 x.op,.string x.t.v,.int .i8 x.t.l.k,.int .i64 x.t.l.n,.string x.t.l.s,.slice A x.kids.length c] e (0,0)) w') (ho : x.okc c) (hr : Row RE 6 w0 A x.kids) : Lv w0 w' (some ⟨g,0,none⟩) [x] w'.heap.size := by
  refine ⟨.inr ⟨g,0,rfl,fun j y hy => ?_⟩,fun _ b o h => ?_⟩
  · have hj : j = 0 := by
      have := (List.getElem?_eq_some_iff.1 hy).1
      simp at this; exact this
    subst hj
    have : y = x := by simpa using hy.symm
    subst this
    refine ⟨_,RE.mk_ ho hr,fun i u hu => ?_⟩
    exact blk_cells nb.blk 0 (cs := [.int .i8 y.op,.string y.t.v,.int .i8 y.t.l.k,.int .i64 y.t.l.n,.string y.t.l.s,.slice A y.kids.length c]) rfl i u hu
  · injection h with h; injection h with h; subst h; exact lt_of_blk nb.blk
section
variable {P : Program} {ops : Array Oper} {Q : Exit → Act → World → Prop} {rest : List Oper} {n d t : Nat} {env : Nat → Value} {ds : List Deferred} {w w' : World} {v u : Value}
  {ty T : TypeId} {pos : String} {af : Array Edge} {gd : Option (Nat × Bool)} {x y z : Operand}
/-- append(next, e) -/
theorem s_appendE {w0 : World} {B e bytes c g c2 : Nat} {zv : Value} {A A2 : Option Addr} {nx : List Ex} {q : Ex} (ht : P.underlying T = some (.slice e)) (hinfo : (P.info? e).map (fun i => (i.zero,i.size,i.bytes)) = some (some zv,6,bytes)) (hzs : zv.cells.size = 6)
    (hs : (mkA n env ds).eval x = .slice A nx.length c) (hown : OwnE w0 B e w A c nx) (hx : (mkA n env ds).eval y = .slice (some ⟨g,0,none⟩) 1 1) (hq : q.okc c2) (hr : Row RE 6 w0 A2 q.kids)
    (hb : w.heap[g]? = some (.cells #[.int .i8 q.op,.string q.t.v,.int .i8 q.t.l.k,.int .i64 q.t.l.n,.string q.t.l.s,.slice A2 q.kids.length c2] e (0,0)))
    (h63 : nx.length + 1 ≤ 9223372036854775807) (hbytes : (nx.length + 1) * bytes ≤ 140737488355328) (hbase : B ≤ w.heap.size) (hw : Region.wanted ⟨some d,.call ⟨.builtin .append,#[x,y],#[T,T]⟩,ty,pos,af,none⟩ (yielded ops (mkA n env ds).tmps) = true)
    (kont : ∀ A' c' w',OwnE w0 B e w' A' c' (nx ++ [q]) → Keep (fun i => B ≤ i) w w' → wpList P ops Q rest (mkA n (upd env d (.slice A' (nx.length + 1) c')) ds) w') :
    wpList P ops Q (⟨some d,.call ⟨.builtin .append,#[x,y],#[T,T]⟩,ty,pos,af,none⟩ :: rest) (mkA n env ds) w := by
  obtain ⟨cs,h1,h2⟩ := hown
  refine s_append (m := 6) (k := 1) (o := 0) (news := [.int .i8 q.op,.string q.t.v,.int .i8 q.t.l.k,.int .i64 q.t.l.n,.string q.t.l.s,.slice A2 q.kids.length c2]) ht hinfo hzs (by decide) hs h1 hx rfl (blk_cells hb 0 rfl) rfl h63 hbytes hbase hw ?_
  intro A' c' w' ow k
  refine kont A' c' w' ⟨cs ++ _,by rw [List.length_append]; exact ow,fun j y hy => ?_⟩ (Keep.mono k fun i _ hi => own_ge h1 i hi)
  have hl : cs.length = nx.length * 6 := h1.1
  rcases Nat.lt_or_ge j nx.length with hj | hj
  · rw [List.getElem?_append_left hj] at hy
    obtain ⟨l,a1,a2,a3⟩ := h2 j y hy
    refine ⟨l,a1,a2,fun k u hu => ?_⟩
    have hk : k < 6 := by rw [← a2]; exact (List.getElem?_eq_some_iff.1 hu).1
    rw [List.getElem?_append_left (by omega)]
    exact a3 k u hu
  · rw [List.getElem?_append_right hj] at hy
    have hj2 : j - nx.length = 0 := by
      have := (List.getElem?_eq_some_iff.1 hy).1
      simp at this; exact this
    rw [hj2] at hy
    have : y = q := by simpa using hy.symm
    subst this
    refine ⟨_,RE.mk_ hq hr,rfl,fun k u hu => ?_⟩
    rw [List.getElem?_append_right (by omega),show j * 6 + k - cs.length = k by omega]
    exact hu
end
def exAt (l : List Ex) (j : Nat) : Ex := l.getD j Ex.none
theorem exAt_of {l : List Ex} {y : Ex} {j : Nat} (h : l[j]? = some y) : exAt l j = y := by simp [exAt,List.getD_eq_getElem?_getD,h]
end Go.Wk

set_option linter.unusedVariables false
set_option linter.unusedSimpArgs false
set_option maxRecDepth 10000
namespace Go.Proofs.Dw
open Go Go.Wk Go.Proofs Go.Lib
attribute [local irreducible] Go.wpList Go.wpStill Go.wpQuiet Go.Code.wp Go.Calls
theorem F_e18 : enterable Tryd.prog 18 = true := by kernel_rfl
theorem bs29_1_0ii8_0s_0ii8_0ii64_0s_0s : ∀ (a0 : Int) (a1 : ByteArray) (a2 : Int) (a3 : Int) (a4 : ByteArray) (a5 : Option Addr) (a5n a5c : Nat),∀ w : World,(Instr.buildSlice 29 1 [(0,.agg #[.int .i8 a0,.string a1,.int .i8 a2,.int .i64 a3,.string a4,.slice a5 a5n a5c])].toArray).run Tryd.prog w = .ok (.slice (some ⟨w.heap.size,0,none⟩) 1 1) (w.alloc (.cells #[.int .i8 a0,.string a1,.int .i8 a2,.int .i64 a3,.string a4,.slice a5 a5n a5c] 31)) := by
  intros
  kernel_rfl
theorem l_ExprParts (x : Ex) (A : Option Addr) (c : Nat) (L : Nat) (w : World) (ho : x.okc c) (hr : Row RE 6 w A x.kids) (hL : L ≤ 1048576) :
    Rt Tryd.prog 18 #[.agg #[.int .i8 x.op,.string x.t.v,.int .i8 x.t.l.k,.int .i64 x.t.l.n,.string x.t.l.s,.slice A x.kids.length c],.int .i64 ((L : Nat) : Int)] w fun v w' => (∃ z : Nat,z ≤ L + 1 ∧ v = .int .i64 ((z : Nat) : Int)) ∧ Ext w w' := by
  refine enter Tryd.func18 rfl (l := [.agg #[.int .i8 x.op,.string x.t.v,.int .i8 x.t.l.k,.int .i64 x.t.l.n,.string x.t.l.s,.slice A x.kids.length c],.int .i64 ((L : Nat) : Int)]) rfl Tryd.ntmps18 (Nat.le_of_ble_eq_true rfl) ?_
  have hl_ := Ex.okc.l ho
  have hc_ := Ex.okc.c ho
  refine c_seq (c_reg (s_box (v := .agg #[.int .i8 x.op,.string x.t.v,.int .i8 x.t.l.k,.int .i64 x.t.l.n,.string x.t.l.s,.slice A x.kids.length c]) (cs := #[.int .i8 x.op,.string x.t.v,.int .i8 x.t.l.k,.int .i64 x.t.l.n,.string x.t.l.s,.slice A x.kids.length c]) (w0 rfl) (ej rfl rfl) rfl ?_))
  intro w2 g1 n3
  refine s_assign (v := .int .i64 0) ev_c (w0 rfl) (c_done (n_then (c_seq (c_reg (s_assign (v := .int .i64 0) ev_c (w0 rfl) (c_done (n_then (c_seq (c_reg (s_loadL (cs := [.int .i8 x.op,.string x.t.v,.int .i8 x.t.l.k,.int .i64 x.t.l.n,.string x.t.l.s,.slice A x.kids.length c]) F_m31 (ej rfl rfl) rfl rfl (blk_cells (NewB.blk n3) 0 rfl) (w0 rfl) (s_bslice (vs := [(0,.agg #[.int .i8 x.op,.string x.t.v,.int .i8 x.t.l.k,.int .i64 x.t.l.n,.string x.t.l.s,.slice A x.kids.length c])]) (cs := #[.int .i8 x.op,.string x.t.v,.int .i8 x.t.l.k,.int .i64 x.t.l.n,.string x.t.l.s,.slice A x.kids.length c]) (b1 (ej rfl rfl)) (bs29_1_0ii8_0s_0ii8_0ii64_0s_0s x.op x.t.v x.t.l.k x.t.l.n x.t.l.s A x.kids.length c) (w0 rfl) ?_)))))))))))
  intro w5 g4 n6
  refine s_assign (v := .slice (some ⟨g4,0,none⟩) 1 1) (ej rfl rfl) (w0 rfl) (c_done (n_then (c_seq (c_seq (c_reg (s_assign (v := .int .i64 0) ev_c (w0 rfl) (c_done (n_then (c_block (c_loop (α := List Ex × Option Addr × Nat × Nat × Nat) (fun x_ env_ w_ => match x_ with | (lv,A1,c1,nn,dp) => Ext w w_ ∧ nn + lv.length ≤ L + 1 ∧ dp ≤ 65536 ∧ Lv w w_ A1 lv w_.heap.size ∧ env_ 1 = .int .i64 ((L : Nat) : Int) ∧ env_ 5 = .int .i64 ((nn : Nat) : Int) ∧ env_ 6 = .slice A1 lv.length c1 ∧ env_ 7 = .int .i64 ((dp : Nat) : Int)) (fun x_ => match x_ with | (lv,A1,c1,nn,dp) => 65536 - dp) ([x],(some ⟨g4,0,none⟩),1,0,0) ⟨(Ext.trans (NewB.ext n3) (NewB.ext n6)),(by simp),Nat.zero_le _,(Lv.one n6 ho hr),rfl,rfl,rfl,rfl⟩ ?_))))))))))
  rintro ⟨lv,A1,c1,nn,dp⟩ env9 w7 ⟨x8,i10,i11,i12,e13,e14,e15,e16⟩
  refine c_seq (c_seq (c_reg (s_move (v := .slice A1 lv.length c1) (ej rfl e15) (w0 rfl) (s_lenL F_l29 (ej rfl rfl) (w0 rfl) (s_cmp (r := decide (0 < (lv.length : Int))) (ej rfl rfl) ev_c rfl (w0 rfl) (c_done (n_then ?_)))))))
  by_cases h17 : 0 < (lv.length : Int)
  · refine c_cond1 (vb (ej rfl rfl) (decide_eq_true h17)) (c_skip (n_then (c_seq (c_block (c_seq (c_reg (s_move (v := .int .i64 ((nn : Nat) : Int)) (ej rfl e14) (w0 rfl) (s_move (v := .slice A1 lv.length c1) (ej rfl e15) (w0 rfl) (s_lenL F_l29 (ej rfl rfl) (w0 rfl) (s_add (r := ((nn + lv.length : Nat) : Int)) (ej rfl rfl) (ej rfl rfl) (by omega) (by omega) (w0 rfl) (s_assign (v := .int .i64 ((nn + lv.length : Nat) : Int)) (ej rfl rfl) (w0 rfl) ?_)))))))))))
    refine c_done (n_then (c_seq (c_seq (c_reg (s_move (v := .int .i64 ((nn + lv.length : Nat) : Int)) (ej rfl rfl) (w0 rfl) (s_move (v := .int .i64 ((L : Nat) : Int)) (ej rfl e13) (w0 rfl) (s_cmp (r := decide (((L : Nat) : Int) < ((nn + lv.length : Nat) : Int))) (ej rfl rfl) (ej rfl rfl) rfl (w0 rfl) ?_)))))))
    by_cases h18 : ((L : Nat) : Int) < ((nn + lv.length : Nat) : Int)
    · refine s_move (v := .bool true) (vb (ej rfl rfl) (decide_eq_true h18)) (w0 rfl) (s_skip (wn rfl rfl rfl rfl rfl) (s_skip (wn rfl rfl rfl rfl rfl) (s_pick1 (v := .bool true) (ej rfl rfl) ev_c (w0 rfl) (c_done (n_then (c_cond1 (ej rfl rfl) (c_seq (c_reg (s_move (v := .int .i64 ((L : Nat) : Int)) (ej rfl e13) (w0 rfl) (s_add (r := ((L + 1 : Nat) : Int)) (ej rfl rfl) ev_c (by omega) (by omega) (w0 rfl) (s_assign (v := .int .i64 ((L + 1 : Nat) : Int)) (ej rfl rfl) (w0 rfl) ?_)))))))))))
      refine c_done (n_then (c_ret (r_then (r_block (r_then (r_then (r_block (r_then (ret1 (v := .int .i64 ((L + 1 : Nat) : Int)) rfl rfl rfl ?_)))))))))
      exact ⟨_,rfl,⟨L + 1,by omega,rfl⟩,x8⟩
    refine s_move (v := .bool false) (vb (ej rfl rfl) (decide_eq_false h18)) (w0 rfl) (s_move (v := .int .i64 ((dp : Nat) : Int)) (ej rfl e16) (wy rfl rfl rfl rfl) (s_cmp (r := decide (65536 ≤ ((dp : Nat) : Int))) (ej rfl rfl) ev_c rfl (wy rfl rfl rfl rfl) (s_pick0 (v := .bool (decide (65536 ≤ ((dp : Nat) : Int)))) (ej rfl rfl) (ej rfl rfl) (w0 rfl) (c_done (n_then ?_)))))
    by_cases h19 : 65536 ≤ ((dp : Nat) : Int)
    · refine c_cond1 (vb (ej rfl rfl) (decide_eq_true h19)) (c_seq (c_reg (s_move (v := .int .i64 ((L : Nat) : Int)) (ej rfl e13) (w0 rfl) (s_add (r := ((L + 1 : Nat) : Int)) (ej rfl rfl) ev_c (by omega) (by omega) (w0 rfl) (s_assign (v := .int .i64 ((L + 1 : Nat) : Int)) (ej rfl rfl) (w0 rfl) (c_done (n_then (c_ret (r_then (r_block (r_then ?_)))))))))))
      refine r_then (r_block (r_then (ret1 (v := .int .i64 ((L + 1 : Nat) : Int)) rfl rfl rfl ?_)))
      exact ⟨_,rfl,⟨L + 1,by omega,rfl⟩,x8⟩
    refine c_cond0 (vb (ej rfl rfl) (decide_eq_false h19)) (c_skip (n_then (c_seq (c_reg (s_assign (v := .slice none 0 0) ev_c (w0 rfl) (c_done (n_then (c_seq (c_seq (c_reg (s_assign (v := .int .i64 0) ev_c (w0 rfl) ?_)))))))))))
    refine c_done (n_then (c_block ?_))
    obtain ⟨B2,hB2e_⟩ : ∃ B,B = w7.heap.size := ⟨_,rfl⟩
    have geB2 : w.heap.size ≤ B2 := by have a_ := Keep.size x8; omega
    have lvB_ : Lv w w7 A1 lv B2 := Lv.up i12 (by have a_ := Keep.size (Ext.refl w7); omega)
    refine c_loop (α := Nat × List Ex × Option Addr × Nat) (fun x_ env_ w_ => match x_ with | (i,nx,A2,c2) => Ext w w_ ∧ i ≤ lv.length ∧ nn + lv.length + nx.length ≤ L ∧ OwnE w B2 31 w_ A2 c2 nx ∧ Lv w w_ A1 lv B2 ∧ B2 ≤ w_.heap.size ∧ env_ 1 = .int .i64 ((L : Nat) : Int) ∧ env_ 5 = .int .i64 ((nn + lv.length : Nat) : Int) ∧ env_ 6 = .slice A1 lv.length c1 ∧ env_ 7 = .int .i64 ((dp : Nat) : Int) ∧ env_ 8 = .slice A2 nx.length c2 ∧ env_ 9 = .int .i64 ((i : Nat) : Int)) (fun x_ => match x_ with | (i,nx,A2,c2) => lv.length - i) (0,[],none,0) ⟨x8,Nat.zero_le _,(by simp; omega),OwnE.nil,lvB_,(by omega),e13,rfl,e15,e16,rfl,rfl⟩ ?_
    rintro ⟨i,nx,A2,c2⟩ env22 w20 ⟨x21,i23,i24,i25,i26,i27,e28,e29,e30,e31,e32,e33⟩
    have hB2 := i27
    refine c_seq (c_seq (c_reg (s_move (v := .int .i64 ((i : Nat) : Int)) (ej rfl e33) (w0 rfl) (s_move (v := .slice A1 lv.length c1) (ej rfl e30) (w0 rfl) (s_lenL F_l29 (ej rfl rfl) (w0 rfl) (s_cmp (r := decide (((i : Nat) : Int) < (lv.length : Int))) (ej rfl rfl) (ej rfl rfl) rfl (w0 rfl) (c_done (n_then ?_))))))))
    by_cases h34 : ((i : Nat) : Int) < (lv.length : Int)
    · refine c_cond1 (vb (ej rfl rfl) (decide_eq_true h34)) (c_skip (n_then (c_seq (c_block (c_seq (c_seq (c_reg (s_move (v := .int .i64 ((nn + lv.length : Nat) : Int)) (ej rfl e29) (w0 rfl) (s_move (v := .slice A2 nx.length c2) (ej rfl e32) (w0 rfl) (s_lenL F_l29 (ej rfl rfl) (w0 rfl) (s_add (r := ((nn + lv.length + nx.length : Nat) : Int)) (ej rfl rfl) (ej rfl rfl) (by omega) (by omega) (w0 rfl) ?_)))))))))))
      refine s_move (v := .slice A1 lv.length c1) (ej rfl e30) (w0 rfl) (s_move (v := .int .i64 ((i : Nat) : Int)) (ej rfl e33) (w0 rfl) ?_)
      obtain ⟨b35,o36,x37,csx37,hA38,hx39,hR40,hc41⟩ := Row.at_ (Lv.row i26) i (by omega)
      obtain rfl := exAt_of hx39
      obtain ⟨A42,c43,rfl,ho44,hr45⟩ := RE.open_ hR40
      have hkc46 := Ex.okc.c ho44
      refine s_indexR (j := i) F_l29 (ej rfl rfl) hA38 (ej rfl rfl) rfl (by omega) (w0 rfl) (s_field (off := 5) (o' := o36 + i * 6 + 5) F_f31_2 (ej rfl rfl) rfl (w0 rfl) (s_load (v := .slice A42 ((exAt lv i).kids.length) c43) F_o29 (ej rfl rfl) (hc41 5 _ rfl) (w0 rfl) (s_lenL F_l29 (ej rfl rfl) (w0 rfl) (s_add (r := ((nn + lv.length + nx.length + (exAt lv i).kids.length : Nat) : Int)) (ej rfl rfl) (ej rfl rfl) (by omega) (by omega) (w0 rfl) (s_move (v := .int .i64 ((L : Nat) : Int)) (ej rfl e28) (w0 rfl) (s_cmp (r := decide (((L : Nat) : Int) < ((nn + lv.length + nx.length + (exAt lv i).kids.length : Nat) : Int))) (ej rfl rfl) (ej rfl rfl) rfl (w0 rfl) (c_done (n_then ?_))))))))
      by_cases h47 : ((L : Nat) : Int) < ((nn + lv.length + nx.length + (exAt lv i).kids.length : Nat) : Int)
      · refine c_cond1 (vb (ej rfl rfl) (decide_eq_true h47)) (c_seq (c_reg (s_move (v := .int .i64 ((L : Nat) : Int)) (ej rfl e28) (w0 rfl) (s_add (r := ((L + 1 : Nat) : Int)) (ej rfl rfl) ev_c (by omega) (by omega) (w0 rfl) (s_assign (v := .int .i64 ((L + 1 : Nat) : Int)) (ej rfl rfl) (w0 rfl) (c_done (n_then (c_ret (r_then (r_block (r_then ?_)))))))))))
        refine r_then (r_block (r_then (r_block (r_then (r_then (r_block (r_then (ret1 (v := .int .i64 ((L + 1 : Nat) : Int)) rfl rfl rfl ?_))))))))
        exact ⟨_,rfl,⟨L + 1,by omega,rfl⟩,x21⟩
      refine c_cond0 (vb (ej rfl rfl) (decide_eq_false h47)) (c_skip (n_then (c_seq (c_reg (s_assign (v := .int .i64 0) ev_c (w0 rfl) (c_done (n_then (c_block (c_loop (α := Nat × List Ex × Option Addr × Nat) (fun x_ env_ w_ => match x_ with | (k,nx,A2,c2) => Ext w w_ ∧ k ≤ (exAt lv i).kids.length ∧ nn + lv.length + nx.length + ((exAt lv i).kids.length - k) ≤ L ∧ OwnE w B2 31 w_ A2 c2 nx ∧ Lv w w_ A1 lv B2 ∧ B2 ≤ w_.heap.size ∧ env_ 1 = .int .i64 ((L : Nat) : Int) ∧ env_ 5 = .int .i64 ((nn + lv.length : Nat) : Int) ∧ env_ 6 = .slice A1 lv.length c1 ∧ env_ 7 = .int .i64 ((dp : Nat) : Int) ∧ env_ 8 = .slice A2 nx.length c2 ∧ env_ 9 = .int .i64 ((i : Nat) : Int) ∧ env_ 10 = .int .i64 ((k : Nat) : Int)) (fun x_ => match x_ with | (k,nx,A2,c2) => (exAt lv i).kids.length - k) (0,nx,A2,c2) ⟨x21,Nat.zero_le _,(by omega),i25,i26,(Nat.le_trans hB2 (Keep.size (Ext.refl _))),e28,e29,e30,e31,e32,e33,rfl⟩ ?_)))))))))
      rintro ⟨k,nx,A2,c2⟩ env50 w48 ⟨x49,i51,i52,i53,i54,i55,e56,e57,e58,e59,e60,e61,e62⟩
      have hB2 := i55
      refine c_seq (c_seq (c_reg (s_move (v := .int .i64 ((k : Nat) : Int)) (ej rfl e62) (w0 rfl) (s_move (v := .slice A1 lv.length c1) (ej rfl e58) (w0 rfl) (s_move (v := .int .i64 ((i : Nat) : Int)) (ej rfl e61) (w0 rfl) ?_)))))
      obtain ⟨b63,o64,x65,csx65,hA66,hx67,hR68,hc69⟩ := Row.at_ (Lv.row i54) i (by omega)
      obtain rfl := exAt_of hx67
      obtain ⟨A70,c71,rfl,ho72,hr73⟩ := RE.open_ hR68
      have hkc74 := Ex.okc.c ho72
      refine s_indexR (j := i) F_l29 (ej rfl rfl) hA66 (ej rfl rfl) rfl (by omega) (w0 rfl) (s_field (off := 5) (o' := o64 + i * 6 + 5) F_f31_2 (ej rfl rfl) rfl (w0 rfl) (s_load (v := .slice A70 ((exAt lv i).kids.length) c71) F_o29 (ej rfl rfl) (hc69 5 _ rfl) (w0 rfl) (s_lenL F_l29 (ej rfl rfl) (w0 rfl) (s_cmp (r := decide (((k : Nat) : Int) < ((exAt lv i).kids.length : Int))) (ej rfl rfl) (ej rfl rfl) rfl (w0 rfl) (c_done (n_then ?_))))))
      by_cases h75 : ((k : Nat) : Int) < ((exAt lv i).kids.length : Int)
      · refine c_cond1 (vb (ej rfl rfl) (decide_eq_true h75)) (c_skip (n_then (c_seq (c_block (c_reg (s_move (v := .slice A2 nx.length c2) (ej rfl e60) (w0 rfl) (s_move (v := .slice A1 lv.length c1) (ej rfl e58) (w0 rfl) (s_move (v := .int .i64 ((i : Nat) : Int)) (ej rfl e61) (w0 rfl) ?_))))))))
        obtain ⟨b76,o77,x78,csx78,hA79,hx80,hR81,hc82⟩ := Row.at_ (Lv.row i54) i (by omega)
        obtain rfl := exAt_of hx80
        obtain ⟨A83,c84,rfl,ho85,hr86⟩ := RE.open_ hR81
        have hkc87 := Ex.okc.c ho85
        refine s_indexR (j := i) F_l29 (ej rfl rfl) hA79 (ej rfl rfl) rfl (by omega) (w0 rfl) (s_field (off := 5) (o' := o77 + i * 6 + 5) F_f31_2 (ej rfl rfl) rfl (w0 rfl) (s_load (v := .slice A83 ((exAt lv i).kids.length) c84) F_o29 (ej rfl rfl) (hc82 5 _ rfl) (w0 rfl) (s_move (v := .int .i64 ((k : Nat) : Int)) (ej rfl e62) (w0 rfl) ?_)))
        obtain ⟨b88,o89,x90,csx90,hA91,hx92,hR93,hc94⟩ := Row.at_ hr86 k (by omega)
        obtain rfl := Ex.kid_of hx92
        obtain ⟨A95,c96,rfl,ho97,hr98⟩ := RE.open_ hR93
        refine s_indexR (j := k) F_l29 (ej rfl rfl) hA91 (ej rfl rfl) rfl (by omega) (w0 rfl) (s_loadL (cs := [.int .i8 (((exAt lv i).kid k).op),.string (((exAt lv i).kid k).t.v),.int .i8 (((exAt lv i).kid k).t.l.k),.int .i64 (((exAt lv i).kid k).t.l.n),.string (((exAt lv i).kid k).t.l.s),.slice A95 (((exAt lv i).kid k).kids.length) c96]) F_m31 (ej rfl rfl) rfl rfl (sub_cells (cells_ext x49 hc94) 0 rfl) (w0 rfl) (s_bslice (vs := [(0,.agg #[.int .i8 (((exAt lv i).kid k).op),.string (((exAt lv i).kid k).t.v),.int .i8 (((exAt lv i).kid k).t.l.k),.int .i64 (((exAt lv i).kid k).t.l.n),.string (((exAt lv i).kid k).t.l.s),.slice A95 (((exAt lv i).kid k).kids.length) c96])]) (cs := #[.int .i8 (((exAt lv i).kid k).op),.string (((exAt lv i).kid k).t.v),.int .i8 (((exAt lv i).kid k).t.l.k),.int .i64 (((exAt lv i).kid k).t.l.n),.string (((exAt lv i).kid k).t.l.s),.slice A95 (((exAt lv i).kid k).kids.length) c96]) (b1 (ej rfl rfl)) (bs29_1_0ii8_0s_0ii8_0ii64_0s_0s (((exAt lv i).kid k).op) (((exAt lv i).kid k).t.v) (((exAt lv i).kid k).t.l.k) (((exAt lv i).kid k).t.l.n) (((exAt lv i).kid k).t.l.s) A95 (((exAt lv i).kid k).kids.length) c96) (w0 rfl) ?_))
        intro w100 g99 n101
        refine s_appendE (q := ((exAt lv i).kid k)) F_ul29 F_if31 rfl (ej rfl rfl) (OwnE.ext i53 (NewB.ext n101)) (ej rfl rfl) ho97 hr98 (NewB.blk n101) (by omega) (by omega) (Nat.le_trans hB2 (Keep.size (NewB.ext n101))) (w0 rfl) ?_
        intro A102 c103 w104 ow105 k106
        refine s_assign (v := .slice A102 (nx.length + 1) c103) (ej rfl rfl) (w0 rfl) (c_done (n_block (n_then (c_reg (s_move (v := .int .i64 ((k : Nat) : Int)) (ej rfl e62) (w0 rfl) (s_add (r := ((k + 1 : Nat) : Int)) (ej rfl rfl) ev_c (by omega) (by omega) (w0 rfl) (s_assign (v := .int .i64 ((k + 1 : Nat) : Int)) (ej rfl rfl) (w0 rfl) (c_done ?_))))))))
        exact ⟨(k + 1,(nx ++ [((exAt lv i).kid k)]),A102,c103),_,rfl,⟨(Keep.then_ (Ext.trans x49 (NewB.ext n101)) k106 (fun i_ hi_ h_ => by have a_ := geB2; omega)),by omega,(by simp only [List.length_append,List.length_singleton]; omega),ow105,(Lv.keep (Lv.ext i54 (NewB.ext n101)) k106),(by have a_ := Keep.size (NewB.ext n101); have b_ := Keep.size k106; omega),e56,e57,e58,e59,(by rw [List.length_append]; rfl),e61,rfl⟩,(show (exAt lv i).kids.length - (k + 1) < (exAt lv i).kids.length - k by omega)⟩
      refine c_cond0 (vb (ej rfl rfl) (decide_eq_false h75)) (c_exit (e_then (e_then (e_hit (n_block (n_then (c_reg (s_move (v := .int .i64 ((i : Nat) : Int)) (ej rfl e61) (w0 rfl) (s_add (r := ((i + 1 : Nat) : Int)) (ej rfl rfl) ev_c (by omega) (by omega) (w0 rfl) (s_assign (v := .int .i64 ((i + 1 : Nat) : Int)) (ej rfl rfl) (w0 rfl) (c_done ?_)))))))))))
      exact ⟨(i + 1,nx,A2,c2),_,rfl,⟨x49,by omega,by omega,i53,i54,(Nat.le_trans hB2 (Keep.size (Ext.refl _))),e56,e57,e58,e59,e60,rfl⟩,(show lv.length - (i + 1) < lv.length - i by omega)⟩
    refine c_cond0 (vb (ej rfl rfl) (decide_eq_false h34)) (c_exit (e_then (e_then (e_hit (n_then (c_reg (s_move (v := .slice A2 nx.length c2) (ej rfl e32) (w0 rfl) (s_assign (v := .slice A2 nx.length c2) (ej rfl rfl) (w0 rfl) (c_done (n_block (n_then ?_)))))))))))
    refine c_reg (s_move (v := .int .i64 ((dp : Nat) : Int)) (ej rfl e31) (w0 rfl) (s_add (r := ((dp + 1 : Nat) : Int)) (ej rfl rfl) ev_c (by omega) (by omega) (w0 rfl) (s_assign (v := .int .i64 ((dp + 1 : Nat) : Int)) (ej rfl rfl) (w0 rfl) (c_done ?_))))
    exact ⟨(nx,A2,c2,nn + lv.length,dp + 1),_,rfl,⟨x21,by omega,by omega,(OwnE.lv i25),e28,e29,rfl,rfl⟩,(show 65536 - (dp + 1) < 65536 - dp by omega)⟩
  refine c_cond0 (vb (ej rfl rfl) (decide_eq_false h17)) (c_exit (e_then (e_then (e_hit (n_then (c_seq (c_reg (s_move (v := .int .i64 ((nn : Nat) : Int)) (ej rfl e14) (w0 rfl) (s_assign (v := .int .i64 ((nn : Nat) : Int)) (ej rfl rfl) (w0 rfl) (c_done (n_then ?_)))))))))))
  refine c_ret (ret1 (v := .int .i64 ((nn : Nat) : Int)) rfl rfl rfl ?_)
  exact ⟨_,rfl,⟨nn,by omega,rfl⟩,x8⟩
end Go.Proofs.Dw

set_option linter.unusedVariables false
set_option linter.unusedSimpArgs false
namespace Go.Wk
open Go Go.RowKit Go.Lib
/-! ### the document's first examples -/
def tmX : Tm := ⟨⟨#[88]⟩,⟨0,0,⟨#[]⟩⟩⟩
def tm5 : Tm := ⟨⟨#[]⟩,⟨1,5,⟨#[]⟩⟩⟩
def exLive : Ex := .mk 3 Tm.none [.mk 0 tmX [],.mk 1 Tm.none [.mk 0 tm5 []]]
def atLive : At := ⟨⟨#[112]⟩,[⟨⟨#[95]⟩,⟨0,0,⟨#[]⟩⟩⟩,⟨⟨#[]⟩,⟨2,0,⟨#[97]⟩⟩⟩]⟩
theorem itoa5 : itoaB 5 = ⟨#[53]⟩ := by
  unfold itoaB itoa
  rw [if_neg (by decide),decDigits,dif_pos (by decide)]
  rfl
theorem live_exB : exB 8 exLive = true := by decide
theorem live_exW : exW 8 exLive = ⟨#[88,32,45,32,45,40,53,41]⟩ := by
  have h5 : termW tm5 = ⟨#[53]⟩ := by
    unfold termW
    rw [if_pos (by decide),if_pos (by decide)]
    unfold showB
    rw [if_pos (by decide)]
    exact itoa5
  have hX : termW tmX = ⟨#[88]⟩ := rfl
  have e5 : exW 6 (.mk 0 tm5 []) = ⟨#[53]⟩ := by rw [exW_pos (by decide),if_pos (by decide)]; exact h5
  have eX : exW 7 (.mk 0 tmX []) = ⟨#[88]⟩ := by rw [exW_pos (by decide),if_pos (by decide)]; exact hX
  have en : exW 7 (.mk 1 Tm.none [.mk 0 tm5 []]) = ⟨#[45,40,53,41]⟩ := by
    rw [exW_pos (by decide),if_neg (by decide),if_neg (by decide),if_pos (by decide)]
    show (⟨#[45]⟩ : ByteArray) ++ inB _ (exW 6 (.mk 0 tm5 [])) = _
    rw [e5]
    rfl
  rw [exW_pos (by decide),if_neg (by decide),if_neg (by decide),if_neg (by decide)]
  show inB _ (exW 7 (.mk 0 tmX [])) ++ _ ++ _ ++ _ ++ inB _ (exW 7 (.mk 1 Tm.none [.mk 0 tm5 []])) = _
  rw [eX,en]
  rfl
theorem live_atB : atB atLive = true := by decide
theorem live_atW : atW atLive = ⟨#[112,40,95,44,32,97,41]⟩ := by rfl
theorem nil_wf : Tm.none.wf := ⟨by decide,⟨by decide,by decide,by decide⟩⟩
theorem RE_leaf (w : World) {t : Tm} (ht : t.wf) : RE w (.mk 0 t []) [.int .i8 0,.string t.v,.int .i8 t.l.k,.int .i64 t.l.n,.string t.l.s,.slice none 0 0] :=
  RE.mk_ (x := .mk 0 t []) (c := 0) ⟨⟨by show (-128 : Int) ≤ 0; decide,by show (0 : Int) ≤ 127; decide⟩,ht,Nat.le_refl _,by show 0 * 80 ≤ 140737488351232; decide⟩ Row.nil
theorem live_row {w : World} {g g2 t : Nat} (h1 : w.heap[g]? = some (.cells #[.int .i8 0,.string ⟨#[88]⟩,.int .i8 0,.int .i64 0,.string ⟨#[]⟩,.slice none 0 0,.int .i8 1,.string ⟨#[]⟩,.int .i8 0,.int .i64 0,.string ⟨#[]⟩,.slice (some ⟨g2,0,none⟩) 1 1] t (0,0)))
    (h2 : w.heap[g2]? = some (.cells #[.int .i8 0,.string ⟨#[]⟩,.int .i8 1,.int .i64 5,.string ⟨#[]⟩,.slice none 0 0] t (0,0))) : Row RE 6 w (some ⟨g,0,none⟩) exLive.kids := by
  have hw5 : tm5.wf := ⟨by decide,⟨by decide,by decide,by decide⟩⟩
  have hwX : tmX.wf := ⟨by decide,⟨by decide,by decide,by decide⟩⟩
  have r5 : Row RE 6 w (some ⟨g2,0,none⟩) [.mk 0 tm5 []] := .inr ⟨g2,0,rfl,fun j x hx => by
    have hj : j = 0 := by have := (List.getElem?_eq_some_iff.1 hx).1; simpa using this
    subst hj
    have : x = .mk 0 tm5 [] := by simpa using hx.symm
    subst this
    exact ⟨_,RE_leaf w hw5,blk_cells h2 0 (cs := [.int .i8 0,.string ⟨#[]⟩,.int .i8 1,.int .i64 5,.string ⟨#[]⟩,.slice none 0 0]) rfl⟩⟩
  refine .inr ⟨g,0,rfl,fun j x hx => ?_⟩
  have hj : j < 2 := by have := (List.getElem?_eq_some_iff.1 hx).1; exact this
  have hj2 : j = 0 ∨ j = 1 := by omega
  rcases hj2 with rfl | rfl
  · have : x = .mk 0 tmX [] := by simpa [exLive,Ex.kids] using hx.symm
    subst this
    exact ⟨_,RE_leaf w hwX,blk_cells h1 0 (cs := [.int .i8 0,.string ⟨#[88]⟩,.int .i8 0,.int .i64 0,.string ⟨#[]⟩,.slice none 0 0]) rfl⟩
  · have : x = .mk 1 Tm.none [.mk 0 tm5 []] := by simpa [exLive,Ex.kids] using hx.symm
    subst this
    exact ⟨_,RE.mk_ (x := .mk 1 Tm.none [.mk 0 tm5 []]) (c := 1) ⟨by decide,nil_wf,by decide,by decide⟩ r5,blk_cells h1 6 (cs := [.int .i8 1,.string ⟨#[]⟩,.int .i8 0,.int .i64 0,.string ⟨#[]⟩,.slice (some ⟨g2,0,none⟩) 1 1]) rfl⟩
theorem live_args {w : World} {g t : Nat} (h1 : w.heap[g]? = some (.cells #[.string ⟨#[95]⟩,.int .i8 0,.int .i64 0,.string ⟨#[]⟩,.string ⟨#[]⟩,.int .i8 2,.int .i64 0,.string ⟨#[97]⟩] t (0,0))) : Row RT 4 w (some ⟨g,0,none⟩) atLive.args := by
  refine .inr ⟨g,0,rfl,fun j x hx => ?_⟩
  have hj : j < 2 := by have := (List.getElem?_eq_some_iff.1 hx).1; exact this
  have hj2 : j = 0 ∨ j = 1 := by omega
  rcases hj2 with rfl | rfl
  · have : x = ⟨⟨#[95]⟩,⟨0,0,⟨#[]⟩⟩⟩ := by simpa [atLive] using hx.symm
    subst this
    exact ⟨_,⟨rfl,⟨by decide,⟨by decide,by decide,by decide⟩⟩⟩,blk_cells h1 0 (cs := [.string ⟨#[95]⟩,.int .i8 0,.int .i64 0,.string ⟨#[]⟩]) rfl⟩
  · have : x = ⟨⟨#[]⟩,⟨2,0,⟨#[97]⟩⟩⟩ := by simpa [atLive] using hx.symm
    subst this
    exact ⟨_,⟨rfl,⟨by decide,⟨by decide,by decide,by decide⟩⟩⟩,blk_cells h1 4 (cs := [.string ⟨#[]⟩,.int .i8 2,.int .i64 0,.string ⟨#[97]⟩]) rfl⟩
theorem cmpS_self (a : ByteArray) : cmpS .eql a a = some true := by simp [cmpS]
end Go.Wk

set_option linter.unusedVariables false
set_option linter.unusedSimpArgs false
set_option maxRecDepth 10000
namespace Go.Proofs.Dw
open Go Go.Wk Go.Proofs Go.Lib
attribute [local irreducible] Go.wpList Go.wpStill Go.wpQuiet Go.Code.wp Go.Calls
theorem F_e11 : enterable Tryd.prog 11 = true := by kernel_rfl
theorem F_e26 : enterable Tryd.prog 26 = true := by kernel_rfl
theorem F_e9 : enterable Tryd.prog 9 = true := by kernel_rfl
theorem bd26_0ii8_1ii64 : ∀ (a0 : Int) (a1 : Int),∀ w : World,(Instr.build 26 [(0,.int .i8 a0),(1,.int .i64 a1)].toArray).run Tryd.prog w = .ok (.agg #[.int .i8 a0,.int .i64 a1,.string (⟨#[]⟩ : ByteArray)]) w := by
  intros
  kernel_rfl
theorem bd26_0ii8_2s : ∀ (a0 : Int) (a1 : ByteArray),∀ w : World,(Instr.build 26 [(0,.int .i8 a0),(2,.string a1)].toArray).run Tryd.prog w = .ok (.agg #[.int .i8 a0,.int .i64 0,.string a1]) w := by
  intros
  kernel_rfl
theorem bd28_1ii8_1ii64_1s : ∀ (a0 : Int) (a1 : Int) (a2 : ByteArray),∀ w : World,(Instr.build 28 [(1,.agg #[.int .i8 a0,.int .i64 a1,.string a2])].toArray).run Tryd.prog w = .ok (.agg #[.string (⟨#[]⟩ : ByteArray),.int .i8 a0,.int .i64 a1,.string a2]) w := by
  intros
  kernel_rfl
theorem bd31_0ii8_2s : ∀ (a0 : Int) (a1 : Option Addr) (a1n a1c : Nat),∀ w : World,(Instr.build 31 [(0,.int .i8 a0),(2,.slice a1 a1n a1c)].toArray).run Tryd.prog w = .ok (.agg #[.int .i8 a0,.string (⟨#[]⟩ : ByteArray),.int .i8 0,.int .i64 0,.string (⟨#[]⟩ : ByteArray),.slice a1 a1n a1c]) w := by
  intros
  kernel_rfl
theorem bd31_1s_1ii8_1ii64_1s : ∀ (a0 : ByteArray) (a1 : Int) (a2 : Int) (a3 : ByteArray),∀ w : World,(Instr.build 31 [(1,.agg #[.string a0,.int .i8 a1,.int .i64 a2,.string a3])].toArray).run Tryd.prog w = .ok (.agg #[.int .i8 0,.string a0,.int .i8 a1,.int .i64 a2,.string a3,.slice none 0 0]) w := by
  intros
  kernel_rfl
theorem bd46_0s_1s : ∀ (a0 : ByteArray) (a1 : Option Addr) (a1n a1c : Nat),∀ w : World,(Instr.build 46 [(0,.string a0),(1,.slice a1 a1n a1c)].toArray).run Tryd.prog w = .ok (.agg #[.string a0,.slice a1 a1n a1c]) w := by
  intros
  kernel_rfl
theorem bs29_2_0ii8_0s_0ii8_0ii64_0s_0s_1ii8_1s_1ii8_1ii64_1s_1s : ∀ (a0 : Int) (a1 : ByteArray) (a2 : Int) (a3 : Int) (a4 : ByteArray) (a5 : Option Addr) (a5n a5c : Nat) (a6 : Int) (a7 : ByteArray) (a8 : Int) (a9 : Int) (a10 : ByteArray) (a11 : Option Addr) (a11n a11c : Nat),∀ w : World,(Instr.buildSlice 29 2 [(0,.agg #[.int .i8 a0,.string a1,.int .i8 a2,.int .i64 a3,.string a4,.slice a5 a5n a5c]),(1,.agg #[.int .i8 a6,.string a7,.int .i8 a8,.int .i64 a9,.string a10,.slice a11 a11n a11c])].toArray).run Tryd.prog w = .ok (.slice (some ⟨w.heap.size,0,none⟩) 2 2) (w.alloc (.cells #[.int .i8 a0,.string a1,.int .i8 a2,.int .i64 a3,.string a4,.slice a5 a5n a5c,.int .i8 a6,.string a7,.int .i8 a8,.int .i64 a9,.string a10,.slice a11 a11n a11c] 31)) := by
  intros
  kernel_rfl
theorem bs44_2_0s_0ii8_0ii64_0s_1s_1ii8_1ii64_1s : ∀ (a0 : ByteArray) (a1 : Int) (a2 : Int) (a3 : ByteArray) (a4 : ByteArray) (a5 : Int) (a6 : Int) (a7 : ByteArray),∀ w : World,(Instr.buildSlice 44 2 [(0,.agg #[.string a0,.int .i8 a1,.int .i64 a2,.string a3]),(1,.agg #[.string a4,.int .i8 a5,.int .i64 a6,.string a7])].toArray).run Tryd.prog w = .ok (.slice (some ⟨w.heap.size,0,none⟩) 2 2) (w.alloc (.cells #[.string a0,.int .i8 a1,.int .i64 a2,.string a3,.string a4,.int .i8 a5,.int .i64 a6,.string a7] 28)) := by
  intros
  kernel_rfl
theorem p_liveE (w : World) (g g2 : Nat) (tb : Tabs Tryd.prog w) (h1 : w.heap[g]? = some (.cells #[.int .i8 0,.string ⟨#[88]⟩,.int .i8 0,.int .i64 0,.string ⟨#[]⟩,.slice none 0 0,.int .i8 1,.string ⟨#[]⟩,.int .i8 0,.int .i64 0,.string ⟨#[]⟩,.slice (some ⟨g2,0,none⟩) 1 1] 31 (0,0)))
    (h2 : w.heap[g2]? = some (.cells #[.int .i8 0,.string ⟨#[]⟩,.int .i8 1,.int .i64 5,.string ⟨#[]⟩,.slice none 0 0] 31 (0,0))) : Rt Tryd.prog 9 #[.agg #[.int .i8 3,.string ⟨#[]⟩,.int .i8 0,.int .i64 0,.string ⟨#[]⟩,.slice (some ⟨g,0,none⟩) 2 2]] w fun v w' => v = .tuple #[.string ⟨#[88,32,45,32,45,40,53,41]⟩,.int .i64 0] ∧ Ext w w' := by
  refine Rt.mono (p_Expr exLive (some ⟨g,0,none⟩) 2 w ⟨by decide,nil_wf,by decide,by decide⟩ (live_row h1 h2) tb) ?_
  rintro v w' ⟨rfl,x⟩
  exact ⟨by rw [live_exB,if_pos rfl,live_exW]; rfl,x⟩
theorem p_liveA (w : World) (g : Nat) (tb : Tabs Tryd.prog w) (h1 : w.heap[g]? = some (.cells #[.string ⟨#[95]⟩,.int .i8 0,.int .i64 0,.string ⟨#[]⟩,.string ⟨#[]⟩,.int .i8 2,.int .i64 0,.string ⟨#[97]⟩] 28 (0,0))) :
    Rt Tryd.prog 26 #[.agg #[.string ⟨#[112]⟩,.slice (some ⟨g,0,none⟩) 2 2]] w fun v w' => v = .tuple #[.string ⟨#[112,40,95,44,32,97,41]⟩,.int .i64 0] ∧ Ext w w' := by
  refine Rt.mono (p_Atom atLive (some ⟨g,0,none⟩) 2 w ⟨by decide,by decide,by decide⟩ (live_args h1) tb) ?_
  rintro v w' ⟨rfl,x⟩
  exact ⟨by rw [live_atB,if_pos rfl,live_atW]; rfl,x⟩
theorem l_lives  (w : World) (tb : Tabs Tryd.prog w) :
    Rt Tryd.prog 11 #[] w fun v w' => v = .bool true ∧ Ext w w' := by
  refine enter Tryd.func11 rfl (l := []) rfl Tryd.ntmps11 (Nat.le_of_ble_eq_true rfl) ?_
  refine c_seq (c_reg (s_assign (v := .bool false) ev_c (w0 rfl) (c_done (n_then (c_seq (c_reg (s_build (v := .agg #[.string (⟨#[88]⟩ : ByteArray),.int .i8 0,.int .i64 0,.string (⟨#[]⟩ : ByteArray)]) (vs := [(0,.string (⟨#[88]⟩ : ByteArray))]) (b1 ev_c) (bd28_0s (⟨#[88]⟩ : ByteArray)) (w0 rfl) (s_build (v := .agg #[.int .i8 0,.string (⟨#[88]⟩ : ByteArray),.int .i8 0,.int .i64 0,.string (⟨#[]⟩ : ByteArray),.slice none 0 0]) (vs := [(1,.agg #[.string (⟨#[88]⟩ : ByteArray),.int .i8 0,.int .i64 0,.string (⟨#[]⟩ : ByteArray)])]) (b1 (ej rfl rfl)) (bd31_1s_1ii8_1ii64_1s (⟨#[88]⟩ : ByteArray) 0 0 (⟨#[]⟩ : ByteArray)) (w0 rfl) (s_build (v := .agg #[.int .i8 1,.int .i64 5,.string (⟨#[]⟩ : ByteArray)]) (vs := [(0,.int .i8 1),(1,.int .i64 5)]) (b2 ev_c ev_c) (bd26_0ii8_1ii64 1 5) (w0 rfl) (s_build (v := .agg #[.string (⟨#[]⟩ : ByteArray),.int .i8 1,.int .i64 5,.string (⟨#[]⟩ : ByteArray)]) (vs := [(1,.agg #[.int .i8 1,.int .i64 5,.string (⟨#[]⟩ : ByteArray)])]) (b1 (ej rfl rfl)) (bd28_1ii8_1ii64_1s 1 5 (⟨#[]⟩ : ByteArray)) (w0 rfl) (s_build (v := .agg #[.int .i8 0,.string (⟨#[]⟩ : ByteArray),.int .i8 1,.int .i64 5,.string (⟨#[]⟩ : ByteArray),.slice none 0 0]) (vs := [(1,.agg #[.string (⟨#[]⟩ : ByteArray),.int .i8 1,.int .i64 5,.string (⟨#[]⟩ : ByteArray)])]) (b1 (ej rfl rfl)) (bd31_1s_1ii8_1ii64_1s (⟨#[]⟩ : ByteArray) 1 5 (⟨#[]⟩ : ByteArray)) (w0 rfl) ?_)))))))))))
  refine s_alloc (cs := #[.int .i8 0,.string (⟨#[]⟩ : ByteArray),.int .i8 0,.int .i64 0,.string (⟨#[]⟩ : ByteArray),.slice none 0 0]) (w0 rfl) F_z31 rfl ?_
  intro w2 g1 n3
  refine s_alloc (cs := #[.int .i8 0,.string (⟨#[]⟩ : ByteArray),.int .i8 0,.int .i64 0,.string (⟨#[]⟩ : ByteArray),.slice none 0 0]) (w0 rfl) F_z31 rfl ?_
  intro w5 g4 n6
  refine s_store (cs' := #[.int .i8 0,.string (⟨#[88]⟩ : ByteArray),.int .i8 0,.int .i64 0,.string (⟨#[]⟩ : ByteArray),.slice none 0 0]) F_sz31 (ej rfl rfl) (ej rfl rfl) (l := [.int .i8 0,.string (⟨#[88]⟩ : ByteArray),.int .i8 0,.int .i64 0,.string (⟨#[]⟩ : ByteArray),.slice none 0 0]) rfl rfl rfl (Ext.blk (NewB.ext n6) (NewB.blk n3)) (Nat.le_of_ble_eq_true rfl) rfl (w0 rfl) ?_
  intro w7 k8
  refine s_store (cs' := #[.int .i8 0,.string (⟨#[]⟩ : ByteArray),.int .i8 1,.int .i64 5,.string (⟨#[]⟩ : ByteArray),.slice none 0 0]) F_sz31 (ej rfl rfl) (ej rfl rfl) (l := [.int .i8 0,.string (⟨#[]⟩ : ByteArray),.int .i8 1,.int .i64 5,.string (⟨#[]⟩ : ByteArray),.slice none 0 0]) rfl rfl rfl (Keep.blk (Wrote.keep k8) (NewB.blk n6) (by have a_ := NewB.eq n6; have b_ := lt_of_blk (NewB.blk n3); omega)) (Nat.le_of_ble_eq_true rfl) rfl (w0 rfl) ?_
  intro w9 k10
  refine c_done (n_then (c_seq (c_reg (s_loadL (cs := [.int .i8 0,.string (⟨#[88]⟩ : ByteArray),.int .i8 0,.int .i64 0,.string (⟨#[]⟩ : ByteArray),.slice none 0 0]) F_m31 (ej rfl rfl) rfl rfl (blk_cells (Keep.blk (Wrote.keep k10) (Wrote.blk k8) (by have a_ := NewB.eq n6; have b_ := lt_of_blk (NewB.blk n3); omega)) 0 rfl) (w0 rfl) (s_loadL (cs := [.int .i8 0,.string (⟨#[]⟩ : ByteArray),.int .i8 1,.int .i64 5,.string (⟨#[]⟩ : ByteArray),.slice none 0 0]) F_m31 (ej rfl rfl) rfl rfl (blk_cells (Wrote.blk k10) 0 rfl) (w0 rfl) (s_bslice (vs := [(0,.agg #[.int .i8 0,.string (⟨#[]⟩ : ByteArray),.int .i8 1,.int .i64 5,.string (⟨#[]⟩ : ByteArray),.slice none 0 0])]) (cs := #[.int .i8 0,.string (⟨#[]⟩ : ByteArray),.int .i8 1,.int .i64 5,.string (⟨#[]⟩ : ByteArray),.slice none 0 0]) (b1 (ej rfl rfl)) (bs29_1_0ii8_0s_0ii8_0ii64_0s_0s 0 (⟨#[]⟩ : ByteArray) 1 5 (⟨#[]⟩ : ByteArray) none 0 0) (w0 rfl) ?_))))))
  intro w12 g11 n13
  refine s_build (v := .agg #[.int .i8 1,.string (⟨#[]⟩ : ByteArray),.int .i8 0,.int .i64 0,.string (⟨#[]⟩ : ByteArray),.slice (some ⟨g11,0,none⟩) 1 1]) (vs := [(0,.int .i8 1),(2,.slice (some ⟨g11,0,none⟩) 1 1)]) (b2 ev_c (ej rfl rfl)) (bd31_0ii8_2s 1 (some ⟨g11,0,none⟩) 1 1) (w0 rfl) (s_bslice (vs := [(0,.agg #[.int .i8 0,.string (⟨#[88]⟩ : ByteArray),.int .i8 0,.int .i64 0,.string (⟨#[]⟩ : ByteArray),.slice none 0 0]),(1,.agg #[.int .i8 1,.string (⟨#[]⟩ : ByteArray),.int .i8 0,.int .i64 0,.string (⟨#[]⟩ : ByteArray),.slice (some ⟨g11,0,none⟩) 1 1])]) (cs := #[.int .i8 0,.string (⟨#[88]⟩ : ByteArray),.int .i8 0,.int .i64 0,.string (⟨#[]⟩ : ByteArray),.slice none 0 0,.int .i8 1,.string (⟨#[]⟩ : ByteArray),.int .i8 0,.int .i64 0,.string (⟨#[]⟩ : ByteArray),.slice (some ⟨g11,0,none⟩) 1 1]) (b2 (ej rfl rfl) (ej rfl rfl)) (bs29_2_0ii8_0s_0ii8_0ii64_0s_0s_1ii8_1s_1ii8_1ii64_1s_1s 0 (⟨#[88]⟩ : ByteArray) 0 0 (⟨#[]⟩ : ByteArray) none 0 0 1 (⟨#[]⟩ : ByteArray) 0 0 (⟨#[]⟩ : ByteArray) (some ⟨g11,0,none⟩) 1 1) (w0 rfl) ?_)
  intro w15 g14 n16
  refine s_build (v := .agg #[.int .i8 3,.string (⟨#[]⟩ : ByteArray),.int .i8 0,.int .i64 0,.string (⟨#[]⟩ : ByteArray),.slice (some ⟨g14,0,none⟩) 2 2]) (vs := [(0,.int .i8 3),(2,.slice (some ⟨g14,0,none⟩) 2 2)]) (b2 ev_c (ej rfl rfl)) (bd31_0ii8_2s 3 (some ⟨g14,0,none⟩) 2 2) (w0 rfl) (s_call F_e9 (w0 rfl) ev_f (m1 (ej rfl rfl)) (args := #[.agg #[.int .i8 3,.string (⟨#[]⟩ : ByteArray),.int .i8 0,.int .i64 0,.string (⟨#[]⟩ : ByteArray),.slice (some ⟨g14,0,none⟩) 2 2]]) rfl (p_liveE _ g14 g11 (Tabs.ext tb (Ext.trans (Ext.trans (Keep.then_ (Keep.then_ (Ext.trans (NewB.ext n3) (NewB.ext n6)) (Wrote.keep k8) (fun i_ hi_ h_ => by have a_ := NewB.eq n3; have b_ := Keep.size (Ext.refl w); omega)) (Wrote.keep k10) (fun i_ hi_ h_ => by have a_ := NewB.eq n6; have b_ := Keep.size (NewB.ext n3); omega)) (NewB.ext n13)) (NewB.ext n16))) (NewB.blk n16) (Ext.blk (NewB.ext n16) (NewB.blk n13))) ?_)
  rintro _ w18 ⟨rfl,x17⟩
  refine s_move (v := .tuple #[.string (⟨#[88,32,45,32,45,40,53,41]⟩ : ByteArray),.int .i64 0]) (ej rfl rfl) (w0 rfl) (s_extract (v := .string (⟨#[88,32,45,32,45,40,53,41]⟩ : ByteArray)) (ej rfl rfl) rfl (w0 rfl) (s_extract (v := .int .i64 0) (ej rfl rfl) rfl (w0 rfl) (s_assign (v := .string (⟨#[88,32,45,32,45,40,53,41]⟩ : ByteArray)) (ej rfl rfl) (w0 rfl) (s_assign (v := .int .i64 0) (ej rfl rfl) (w0 rfl) (c_done (n_then (c_seq (c_reg (s_build (v := .agg #[.string (⟨#[95]⟩ : ByteArray),.int .i8 0,.int .i64 0,.string (⟨#[]⟩ : ByteArray)]) (vs := [(0,.string (⟨#[95]⟩ : ByteArray))]) (b1 ev_c) (bd28_0s (⟨#[95]⟩ : ByteArray)) (w0 rfl) (s_build (v := .agg #[.int .i8 2,.int .i64 0,.string (⟨#[97]⟩ : ByteArray)]) (vs := [(0,.int .i8 2),(2,.string (⟨#[97]⟩ : ByteArray))]) (b2 ev_c ev_c) (bd26_0ii8_2s 2 (⟨#[97]⟩ : ByteArray)) (w0 rfl) (s_build (v := .agg #[.string (⟨#[]⟩ : ByteArray),.int .i8 2,.int .i64 0,.string (⟨#[97]⟩ : ByteArray)]) (vs := [(1,.agg #[.int .i8 2,.int .i64 0,.string (⟨#[97]⟩ : ByteArray)])]) (b1 (ej rfl rfl)) (bd28_1ii8_1ii64_1s 2 0 (⟨#[97]⟩ : ByteArray)) (w0 rfl) ?_)))))))))))
  refine s_bslice (vs := [(0,.agg #[.string (⟨#[95]⟩ : ByteArray),.int .i8 0,.int .i64 0,.string (⟨#[]⟩ : ByteArray)]),(1,.agg #[.string (⟨#[]⟩ : ByteArray),.int .i8 2,.int .i64 0,.string (⟨#[97]⟩ : ByteArray)])]) (cs := #[.string (⟨#[95]⟩ : ByteArray),.int .i8 0,.int .i64 0,.string (⟨#[]⟩ : ByteArray),.string (⟨#[]⟩ : ByteArray),.int .i8 2,.int .i64 0,.string (⟨#[97]⟩ : ByteArray)]) (b2 (ej rfl rfl) (ej rfl rfl)) (bs44_2_0s_0ii8_0ii64_0s_1s_1ii8_1ii64_1s (⟨#[95]⟩ : ByteArray) 0 0 (⟨#[]⟩ : ByteArray) (⟨#[]⟩ : ByteArray) 2 0 (⟨#[97]⟩ : ByteArray)) (w0 rfl) ?_
  intro w20 g19 n21
  refine s_build (v := .agg #[.string (⟨#[112]⟩ : ByteArray),.slice (some ⟨g19,0,none⟩) 2 2]) (vs := [(0,.string (⟨#[112]⟩ : ByteArray)),(1,.slice (some ⟨g19,0,none⟩) 2 2)]) (b2 ev_c (ej rfl rfl)) (bd46_0s_1s (⟨#[112]⟩ : ByteArray) (some ⟨g19,0,none⟩) 2 2) (w0 rfl) (s_call F_e26 (w0 rfl) ev_f (m1 (ej rfl rfl)) (args := #[.agg #[.string (⟨#[112]⟩ : ByteArray),.slice (some ⟨g19,0,none⟩) 2 2]]) rfl (p_liveA _ g19 (Tabs.ext tb (Ext.trans (Ext.trans (Ext.trans (Ext.trans (Keep.then_ (Keep.then_ (Ext.trans (NewB.ext n3) (NewB.ext n6)) (Wrote.keep k8) (fun i_ hi_ h_ => by have a_ := NewB.eq n3; have b_ := Keep.size (Ext.refl w); omega)) (Wrote.keep k10) (fun i_ hi_ h_ => by have a_ := NewB.eq n6; have b_ := Keep.size (NewB.ext n3); omega)) (NewB.ext n13)) (NewB.ext n16)) x17) (NewB.ext n21))) (NewB.blk n21)) ?_)
  rintro _ w23 ⟨rfl,x22⟩
  refine s_move (v := .tuple #[.string (⟨#[112,40,95,44,32,97,41]⟩ : ByteArray),.int .i64 0]) (ej rfl rfl) (w0 rfl) (s_extract (v := .string (⟨#[112,40,95,44,32,97,41]⟩ : ByteArray)) (ej rfl rfl) rfl (w0 rfl) (s_extract (v := .int .i64 0) (ej rfl rfl) rfl (w0 rfl) (s_assign (v := .string (⟨#[112,40,95,44,32,97,41]⟩ : ByteArray)) (ej rfl rfl) (w0 rfl) (s_assign (v := .int .i64 0) (ej rfl rfl) (w0 rfl) (c_done (n_then (c_seq (c_reg (s_move (v := .string (⟨#[88,32,45,32,45,40,53,41]⟩ : ByteArray)) (ej rfl rfl) (w0 rfl) (s_cmpS (r := true) (ej rfl rfl) ev_c (cmpS_self _) (w0 rfl) (s_move (v := .bool true) (ej rfl rfl) (w0 rfl) ?_)))))))))))
  refine s_move (v := .int .i64 0) (ej rfl rfl) (wy rfl rfl rfl rfl) (s_cmp (r := true) (ej rfl rfl) ev_c rfl (wy rfl rfl rfl rfl) (s_pick1 (v := .bool true) (ej rfl rfl) (ej rfl rfl) (w0 rfl) (s_move (v := .bool true) (ej rfl rfl) (w0 rfl) (s_move (v := .string (⟨#[112,40,95,44,32,97,41]⟩ : ByteArray)) (ej rfl rfl) (wy rfl rfl rfl rfl) (s_cmpS (r := true) (ej rfl rfl) ev_c (cmpS_self _) (wy rfl rfl rfl rfl) (s_pick1 (v := .bool true) (ej rfl rfl) (ej rfl rfl) (w0 rfl) (s_move (v := .bool true) (ej rfl rfl) (w0 rfl) (s_move (v := .int .i64 0) (ej rfl rfl) (wy rfl rfl rfl rfl) (s_cmp (r := true) (ej rfl rfl) ev_c rfl (wy rfl rfl rfl rfl) (s_pick1 (v := .bool true) (ej rfl rfl) (ej rfl rfl) (w0 rfl) (s_assign (v := .bool true) (ej rfl rfl) (w0 rfl) ?_)))))))))))
  refine c_done (n_then (c_ret (ret1 (v := .bool true) rfl rfl rfl ?_)))
  refine ⟨_,rfl,?_,(Ext.trans (Ext.trans (Ext.trans (Ext.trans (Ext.trans (Keep.then_ (Keep.then_ (Ext.trans (NewB.ext n3) (NewB.ext n6)) (Wrote.keep k8) (fun i_ hi_ h_ => by have a_ := NewB.eq n3; have b_ := Keep.size (Ext.refl w); omega)) (Wrote.keep k10) (fun i_ hi_ h_ => by have a_ := NewB.eq n6; have b_ := Keep.size (NewB.ext n3); omega)) (NewB.ext n13)) (NewB.ext n16)) x17) (NewB.ext n21)) x22)⟩
  rfl
end Go.Proofs.Dw

set_option linter.unusedVariables false
set_option linter.unusedSimpArgs false
namespace Go.Wk
open Go Go.RowKit Go.Lib
/-! ### rows of texts; columns as the document has them -/
def RS (_ : World) (s : ByteArray) (cs : List Value) : Prop := cs = [.string s]
def sAt (l : List ByteArray) (i : Nat) : ByteArray := l.getD i ⟨#[]⟩
theorem own_rowS {w : World} {base e c n : Nat} {A : Option Addr} {ss : List ByteArray} (h : w.ownsRow base e 1 (.slice A n c) n (ss.map Value.string)) : Row RS 1 w A ss := by
  have hn : ss.length = n := by have := h.1; simpa using this
  by_cases h0 : ss = []
  · exact .inl h0
  · obtain ⟨b,hA,hc⟩ := own_cells h (by have := List.length_pos_iff.2 h0; omega)
    refine .inr ⟨b,0,hA,fun j s hs => ⟨[.string s],rfl,fun i u hu => ?_⟩⟩
    have hi : i = 0 := by have := (List.getElem?_eq_some_iff.1 hu).1; simpa using this
    subst hi
    have hu' : u = .string s := by simpa using hu.symm
    subst hu'
    have := hc j (.string s) (by simp [hs])
    simpa using this
theorem atW_size {x : At} {w : World} {A : Option Addr} (h : atB x = true) (hr : Row RT 4 w A x.args) : (atW x).size ≤ 30000 := by
  obtain ⟨_,hp,hn,hq⟩ := atB_parts h
  unfold atW colW
  split
  · omega
  · have := colP_le (l := x.args.map termW) (M := 1000) (fun i hi => by
      rw [List.length_map] at hi
      rw [termW_at hi]
      have := termW_size (hq i hi) (RT_wf hr hi)
      omega) (x.args.map termW).length (Nat.le_refl _)
    have hl : (x.args.map termW).length = x.args.length := List.length_map _
    rw [hl] at this ⊢
    simp only [ByteArray.size_append,z1]
    omega
end Go.Wk

set_option linter.unusedVariables false
set_option linter.unusedSimpArgs false
set_option maxRecDepth 10000
namespace Go.Proofs.Dw
open Go Go.Wk Go.Proofs Go.Lib
attribute [local irreducible] Go.wpList Go.wpStill Go.wpQuiet Go.Code.wp Go.Calls
theorem p_Query (x : At) (A : Option Addr) (c : Nat) (w : World) (ho : x.okc c) (hr : Row RT 4 w A x.args) (tb : Tabs Tryd.prog w) :
    Rt Tryd.prog 30 #[.agg #[.string x.p,.slice A x.args.length c]] w fun v w' => v = .tuple #[.string (if atB x then atW x ++ ⟨#[63]⟩ else ⟨#[]⟩),.int .i64 (code (atB x))] ∧ Ext w w' := by
  refine enter Tryd.func30 rfl (l := [.agg #[.string x.p,.slice A x.args.length c]]) rfl Tryd.ntmps30 (Nat.le_of_ble_eq_true rfl) ?_
  have hl_ := At.okc.l ho
  have hc_ := At.okc.c ho
  have hp_ := At.okc.p ho
  refine c_seq (c_reg (s_box (v := .agg #[.string x.p,.slice A x.args.length c]) (cs := #[.string x.p,.slice A x.args.length c]) (w0 rfl) (ej rfl rfl) rfl ?_))
  intro w2 g1 n3
  refine s_assign (v := .string (⟨#[]⟩ : ByteArray)) ev_c (w0 rfl) (s_assign (v := .int .i64 0) ev_c (w0 rfl) (c_done (n_then (c_seq (c_reg (s_loadL (cs := [.string x.p,.slice A x.args.length c]) F_m46 (ej rfl rfl) rfl rfl (blk_cells (NewB.blk n3) 0 rfl) (w0 rfl) (s_call F_e26 (w0 rfl) ev_f (m1 (ej rfl rfl)) (args := #[.agg #[.string x.p,.slice A x.args.length c]]) rfl (p_Atom x A c _ ho (Row.extT hr (NewB.ext n3)) (Tabs.ext tb (NewB.ext n3))) ?_)))))))
  rintro _ w5 ⟨rfl,x4⟩
  refine s_move (v := .tuple #[.string (if atB x then atW x else ⟨#[]⟩),.int .i64 (code (atB x))]) (ej rfl rfl) (w0 rfl) (s_extract (v := .string (if atB x then atW x else ⟨#[]⟩)) (ej rfl rfl) rfl (w0 rfl) (s_extract (v := .int .i64 (code (atB x))) (ej rfl rfl) rfl (w0 rfl) (s_assign (v := .string (if atB x then atW x else ⟨#[]⟩)) (ej rfl rfl) (w0 rfl) (s_assign (v := .int .i64 (code (atB x))) (ej rfl rfl) (w0 rfl) (c_done (n_then (c_seq (c_seq (c_reg (s_move (v := .int .i64 (code (atB x))) (ej rfl rfl) (w0 rfl) (s_cmp (r := !(atB x)) (ej rfl rfl) ev_c (ci_tn (b := (atB x)) (by decide)) (w0 rfl) ?_)))))))))))
  refine c_done (n_then ?_)
  rcases Bool.eq_false_or_eq_true (atB x) with h6 | h6
  · refine c_cond0 (vb (ej rfl rfl) (nbt h6)) (c_skip (n_then (c_seq (c_reg (s_move (v := .string (if atB x then atW x else ⟨#[]⟩)) (ej rfl rfl) (w0 rfl) (s_cat (ej rfl rfl) ev_c (by have z_ := atW_size (x := x) (by assumption) hr; (try rw [if_pos (by assumption)]); (try simp only [ByteArray.size_append,z1]); omega) (w0 rfl) (s_assign (v := .string ((if atB x then atW x else ⟨#[]⟩) ++ (⟨#[63]⟩ : ByteArray))) (ej rfl rfl) (w0 rfl) (s_assign (v := .int .i64 0) ev_c (w0 rfl) (c_done (n_then (c_ret ?_)))))))))))
    refine ret2 (v := .string ((if atB x then atW x else ⟨#[]⟩) ++ (⟨#[63]⟩ : ByteArray))) (v2 := .int .i64 0) rfl rfl rfl rfl rfl ?_
    refine ⟨_,rfl,?_,(Ext.trans (NewB.ext n3) x4)⟩
    (simp [code, *])
  refine c_cond1 (vb (ej rfl rfl) (nbf h6)) (c_seq (c_reg (s_move (v := .int .i64 (code (atB x))) (ej rfl rfl) (w0 rfl) (s_assign (v := .string (⟨#[]⟩ : ByteArray)) ev_c (w0 rfl) (s_assign (v := .int .i64 (code (atB x))) (ej rfl rfl) (w0 rfl) (c_done (n_then (c_ret (r_then (ret2 (v := .string (⟨#[]⟩ : ByteArray)) (v2 := .int .i64 (code (atB x))) rfl rfl rfl rfl rfl ?_))))))))))
  refine ⟨_,rfl,?_,(Ext.trans (NewB.ext n3) x4)⟩
  (simp [code, *])
end Go.Proofs.Dw

set_option linter.unusedVariables false
set_option linter.unusedSimpArgs false
namespace Go.Wk
open Go Go.RowKit Go.Lib
/-! ### literals -/
structure Lt where
  k : Int
  a : At
  r : Int
  e1 : Ex
  e2 : Ex
def noE (e : Ex) : Bool := decide (e.op = 0) && zT e.t && decide ((e.kids.length : Int) = 0)
def ltB (x : Lt) : Bool :=
  if x.k = 1 ∨ x.k = 2 then atB x.a && decide (x.r = 0) && noE x.e1 && noE x.e2
  else if x.k = 3 then decide (x.a.p = ⟨#[]⟩) && decide ((x.a.args.length : Int) = 0) && decide (1 ≤ x.r) && decide (x.r ≤ 6) && exB 8 x.e1 && exB 8 x.e2
  else false
def ltW (x : Lt) : ByteArray := if x.k = 1 then atW x.a else if x.k = 2 then (⟨#[110,111,116,32]⟩ : ByteArray) ++ atW x.a else exW 8 x.e1 ++ ⟨#[32]⟩ ++ relW x.r ++ ⟨#[32]⟩ ++ exW 8 x.e2
structure Lt.okc (x : Lt) (ca c1 c2 : Nat) : Prop where
  k : -128 ≤ x.k ∧ x.k ≤ 127
  r : -128 ≤ x.r ∧ x.r ≤ 127
  a : x.a.okc ca
  e1 : x.e1.okc c1
  e2 : x.e2.okc c2
theorem relW_size (r : Int) : (relW r).size ≤ 2 := by unfold relW; (repeat' split) <;> decide
theorem lt_at {x : Lt} (h : ltB x = true) (hk : x.k = 1 ∨ x.k = 2) : atB x.a = true := by
  unfold ltB at h; rw [if_pos hk] at h
  simp only [Bool.and_eq_true] at h; exact h.1.1.1
theorem lt_cmp {x : Lt} (h : ltB x = true) (h1 : ¬ x.k = 1) (h2 : ¬ x.k = 2) : x.k = 3 ∧ 1 ≤ x.r ∧ x.r ≤ 6 ∧ exB 8 x.e1 = true ∧ exB 8 x.e2 = true := by
  unfold ltB at h; rw [if_neg (by omega)] at h
  split at h
  · simp only [Bool.and_eq_true,decide_eq_true_eq] at h
    exact ⟨by assumption,h.1.1.1.2,h.1.1.2,h.1.2,h.2⟩
  · cases h
end Go.Wk

set_option linter.unusedVariables false
set_option linter.unusedSimpArgs false
set_option maxRecDepth 10000
namespace Go.Proofs.Dw
open Go Go.Wk Go.Proofs Go.Lib
attribute [local irreducible] Go.wpList Go.wpStill Go.wpQuiet Go.Code.wp Go.Calls
theorem F_e90 : enterable Tryd.prog 90 = true := by kernel_rfl
theorem F_f120_0 : fieldAt Tryd.prog 120 0 0 = true := by kernel_rfl
theorem F_f120_1 : fieldAt Tryd.prog 120 1 1 = true := by kernel_rfl
theorem F_f120_2 : fieldAt Tryd.prog 120 2 3 = true := by kernel_rfl
theorem F_f120_3 : fieldAt Tryd.prog 120 3 4 = true := by kernel_rfl
theorem F_f120_4 : fieldAt Tryd.prog 120 4 10 = true := by kernel_rfl
theorem F_o117 : one Tryd.prog 117 = true := by kernel_rfl
theorem F_o118 : one Tryd.prog 118 = true := by kernel_rfl
theorem t_empty (x : Ex) (A : Option Addr) (c : Nat) (w : World) (ho : x.okc c) (hr : Row RE 6 w A x.kids) :
    Rt Tryd.prog 90 #[.agg #[.int .i8 x.op,.string x.t.v,.int .i8 x.t.l.k,.int .i64 x.t.l.n,.string x.t.l.s,.slice A x.kids.length c]] w fun v w' => v = .bool (noE x) ∧ Ext w w' := by
  refine enter Tryd.func90 rfl (l := [.agg #[.int .i8 x.op,.string x.t.v,.int .i8 x.t.l.k,.int .i64 x.t.l.n,.string x.t.l.s,.slice A x.kids.length c]]) rfl Tryd.ntmps90 (Nat.le_of_ble_eq_true rfl) ?_
  have hl_ := Ex.okc.l ho
  have hc_ := Ex.okc.c ho
  refine c_seq (c_reg (s_box (v := .agg #[.int .i8 x.op,.string x.t.v,.int .i8 x.t.l.k,.int .i64 x.t.l.n,.string x.t.l.s,.slice A x.kids.length c]) (cs := #[.int .i8 x.op,.string x.t.v,.int .i8 x.t.l.k,.int .i64 x.t.l.n,.string x.t.l.s,.slice A x.kids.length c]) (w0 rfl) (ej rfl rfl) rfl ?_))
  intro w2 g1 n3
  refine s_assign (v := .bool false) ev_c (w0 rfl) (c_done (n_then (c_seq (c_reg (s_field (off := 0) (o' := 0) F_f31_0 (ej rfl rfl) rfl (w0 rfl) (s_load (v := .int .i8 x.op) F_o23 (ej rfl rfl) (cell_of_blk (i := 0) (NewB.blk n3) rfl) (w0 rfl) (s_cmp (r := decide (x.op = 0)) (ej rfl rfl) ev_c rfl (w0 rfl) ?_)))))))
  by_cases h4 : x.op = 0
  · refine s_move (v := .bool true) (vb (ej rfl rfl) (decide_eq_true h4)) (w0 rfl) (s_field (off := 1) (o' := 1) F_f31_1 (ej rfl rfl) rfl (wy rfl rfl rfl rfl) (s_loadL (cs := [.string x.t.v,.int .i8 x.t.l.k,.int .i64 x.t.l.n,.string x.t.l.s]) F_m28 (ej rfl rfl) rfl rfl (blk_cells (NewB.blk n3) 1 rfl) (wy rfl rfl rfl rfl) (s_call F_e78 (wy rfl rfl rfl rfl) ev_f (m1 (ej rfl rfl)) (args := #[.agg #[.string x.t.v,.int .i8 x.t.l.k,.int .i64 x.t.l.n,.string x.t.l.s]]) rfl (t_none x.t _) ?_)))
    rintro _ w6 ⟨rfl,x5⟩
    refine s_pick1 (v := .bool (zT x.t)) (ej rfl rfl) (ej rfl rfl) (w0 rfl) ?_
    rcases Bool.eq_false_or_eq_true (zT x.t) with h7 | h7
    · refine s_move (v := .bool true) (vb (ej rfl rfl) h7) (w0 rfl) (s_field (off := 5) (o' := 5) F_f31_2 (ej rfl rfl) rfl (wy rfl rfl rfl rfl) (s_load (v := .slice A x.kids.length c) F_o29 (ej rfl rfl) (cell_of_blk (i := 5) (Ext.blk x5 (NewB.blk n3)) rfl) (wy rfl rfl rfl rfl) (s_lenL F_l29 (ej rfl rfl) (wy rfl rfl rfl rfl) (s_cmp (r := decide ((x.kids.length : Int) = 0)) (ej rfl rfl) ev_c rfl (wy rfl rfl rfl rfl) (s_pick1 (v := .bool (decide ((x.kids.length : Int) = 0))) (ej rfl rfl) (ej rfl rfl) (w0 rfl) (s_assign (v := .bool (decide ((x.kids.length : Int) = 0))) (ej rfl rfl) (w0 rfl) (c_done (n_then (c_ret (ret1 (v := .bool (decide ((x.kids.length : Int) = 0))) rfl rfl rfl ?_))))))))))
      refine ⟨_,rfl,?_,(Ext.trans (NewB.ext n3) x5)⟩
      (refine congrArg Value.bool ?_; unfold noE; simp only [*,decide_true,decide_false,if_true,if_false,Bool.and_true,Bool.true_and,Bool.false_and,Bool.and_false,Bool.not_true,Bool.not_false,Bool.false_eq_true,reduceIte,not_true_eq_false,not_false_eq_true])
    refine s_move (v := .bool false) (vb (ej rfl rfl) h7) (w0 rfl) (s_skip (wn rfl rfl rfl rfl rfl) (s_skip (wn rfl rfl rfl rfl rfl) (s_skip (wn rfl rfl rfl rfl rfl) (s_skip (wn rfl rfl rfl rfl rfl) (s_pick0 (v := .bool false) (ej rfl rfl) ev_c (w0 rfl) (s_assign (v := .bool false) (ej rfl rfl) (w0 rfl) (c_done (n_then (c_ret (ret1 (v := .bool false) rfl rfl rfl ?_))))))))))
    refine ⟨_,rfl,?_,(Ext.trans (NewB.ext n3) x5)⟩
    (refine congrArg Value.bool ?_; unfold noE; simp only [*,decide_true,decide_false,if_true,if_false,Bool.and_true,Bool.true_and,Bool.false_and,Bool.and_false,Bool.not_true,Bool.not_false,Bool.false_eq_true,reduceIte,not_true_eq_false,not_false_eq_true])
  refine s_move (v := .bool false) (vb (ej rfl rfl) (decide_eq_false h4)) (w0 rfl) (s_skip (wn rfl rfl rfl rfl rfl) (s_skip (wn rfl rfl rfl rfl rfl) (s_skip (wn rfl rfl rfl rfl rfl) (s_pick0 (v := .bool false) (ej rfl rfl) ev_c (w0 rfl) (s_move (v := .bool false) (ej rfl rfl) (w0 rfl) (s_skip (wn rfl rfl rfl rfl rfl) (s_skip (wn rfl rfl rfl rfl rfl) (s_skip (wn rfl rfl rfl rfl rfl) (s_skip (wn rfl rfl rfl rfl rfl) (s_pick0 (v := .bool false) (ej rfl rfl) ev_c (w0 rfl) (s_assign (v := .bool false) (ej rfl rfl) (w0 rfl) ?_)))))))))))
  refine c_done (n_then (c_ret (ret1 (v := .bool false) rfl rfl rfl ?_)))
  refine ⟨_,rfl,?_,(NewB.ext n3)⟩
  (refine congrArg Value.bool ?_; unfold noE; simp only [*,decide_true,decide_false,if_true,if_false,Bool.and_true,Bool.true_and,Bool.false_and,Bool.and_false,Bool.not_true,Bool.not_false,Bool.false_eq_true,reduceIte,not_true_eq_false,not_false_eq_true])
theorem t_CheckLiteral (x : Lt) (Aa A1 A2 : Option Addr) (ca c1 c2 : Nat) (w : World) (ho : x.okc ca c1 c2) (hra : Row RT 4 w Aa x.a.args) (hr1 : Row RE 6 w A1 x.e1.kids) (hr2 : Row RE 6 w A2 x.e2.kids) :
    Rt Tryd.prog 64 #[.agg #[.int .i8 x.k,.string x.a.p,.slice Aa x.a.args.length ca,.int .i8 x.r,.int .i8 x.e1.op,.string x.e1.t.v,.int .i8 x.e1.t.l.k,.int .i64 x.e1.t.l.n,.string x.e1.t.l.s,.slice A1 x.e1.kids.length c1,.int .i8 x.e2.op,.string x.e2.t.v,.int .i8 x.e2.t.l.k,.int .i64 x.e2.t.l.n,.string x.e2.t.l.s,.slice A2 x.e2.kids.length c2]] w fun v w' => v = .int .i64 (code (ltB x)) ∧ Ext w w' := by
  refine enter Tryd.func64 rfl (l := [.agg #[.int .i8 x.k,.string x.a.p,.slice Aa x.a.args.length ca,.int .i8 x.r,.int .i8 x.e1.op,.string x.e1.t.v,.int .i8 x.e1.t.l.k,.int .i64 x.e1.t.l.n,.string x.e1.t.l.s,.slice A1 x.e1.kids.length c1,.int .i8 x.e2.op,.string x.e2.t.v,.int .i8 x.e2.t.l.k,.int .i64 x.e2.t.l.n,.string x.e2.t.l.s,.slice A2 x.e2.kids.length c2]]) rfl Tryd.ntmps64 (Nat.le_of_ble_eq_true rfl) ?_
  have hoa_ := Lt.okc.a ho
  have ho1_ := Lt.okc.e1 ho
  have ho2_ := Lt.okc.e2 ho
  have hl1_ := Ex.okc.l ho1_
  have hl2_ := Ex.okc.l ho2_
  have hc1_ := Ex.okc.c ho1_
  have hc2_ := Ex.okc.c ho2_
  have hla_ := At.okc.l hoa_
  have hca_ := At.okc.c hoa_
  have hpa_ := At.okc.p hoa_
  refine c_seq (c_reg (s_box (v := .agg #[.int .i8 x.k,.string x.a.p,.slice Aa x.a.args.length ca,.int .i8 x.r,.int .i8 x.e1.op,.string x.e1.t.v,.int .i8 x.e1.t.l.k,.int .i64 x.e1.t.l.n,.string x.e1.t.l.s,.slice A1 x.e1.kids.length c1,.int .i8 x.e2.op,.string x.e2.t.v,.int .i8 x.e2.t.l.k,.int .i64 x.e2.t.l.n,.string x.e2.t.l.s,.slice A2 x.e2.kids.length c2]) (cs := #[.int .i8 x.k,.string x.a.p,.slice Aa x.a.args.length ca,.int .i8 x.r,.int .i8 x.e1.op,.string x.e1.t.v,.int .i8 x.e1.t.l.k,.int .i64 x.e1.t.l.n,.string x.e1.t.l.s,.slice A1 x.e1.kids.length c1,.int .i8 x.e2.op,.string x.e2.t.v,.int .i8 x.e2.t.l.k,.int .i64 x.e2.t.l.n,.string x.e2.t.l.s,.slice A2 x.e2.kids.length c2]) (w0 rfl) (ej rfl rfl) rfl ?_))
  intro w2 g1 n3
  refine s_assign (v := .int .i64 0) ev_c (w0 rfl) (c_done (n_then (c_seq (c_seq (c_reg (s_field (off := 0) (o' := 0) F_f120_0 (ej rfl rfl) rfl (w0 rfl) (s_load (v := .int .i8 x.k) F_o117 (ej rfl rfl) (cell_of_blk (i := 0) (NewB.blk n3) rfl) (w0 rfl) (c_done (n_then (c_block (c_seq ?_)))))))))))
  refine c_seq (c_reg (s_cmp (r := decide (x.k = 1)) (ej rfl rfl) ev_c rfl (w0 rfl) (s_assign (v := .bool (decide (x.k = 1))) (ej rfl rfl) (w0 rfl) (c_done (n_then ?_)))))
  by_cases h4 : x.k = 1
  · refine c_cond1 (vb (ej rfl rfl) (decide_eq_true h4)) (c_skip (n_then (c_cond1 (vb (ej rfl rfl) (decide_eq_true h4)) (c_seq (c_seq (c_reg (s_field (off := 3) (o' := 3) F_f120_2 (ej rfl rfl) rfl (w0 rfl) (s_load (v := .int .i8 x.r) F_o118 (ej rfl rfl) (cell_of_blk (i := 3) (NewB.blk n3) rfl) (w0 rfl) (s_cmp (r := !decide (x.r = 0)) (ej rfl rfl) ev_c rfl (w0 rfl) ?_)))))))))
    by_cases h5 : x.r = 0
    · refine s_move (v := .bool false) (vb (ej rfl rfl) (nb0 h5)) (w0 rfl) (s_field (off := 4) (o' := 4) F_f120_3 (ej rfl rfl) rfl (wy rfl rfl rfl rfl) (s_loadL (cs := [.int .i8 x.e1.op,.string x.e1.t.v,.int .i8 x.e1.t.l.k,.int .i64 x.e1.t.l.n,.string x.e1.t.l.s,.slice A1 x.e1.kids.length c1]) F_m31 (ej rfl rfl) rfl rfl (blk_cells (NewB.blk n3) 4 rfl) (wy rfl rfl rfl rfl) (s_call F_e90 (wy rfl rfl rfl rfl) ev_f (m1 (ej rfl rfl)) (args := #[.agg #[.int .i8 x.e1.op,.string x.e1.t.v,.int .i8 x.e1.t.l.k,.int .i64 x.e1.t.l.n,.string x.e1.t.l.s,.slice A1 x.e1.kids.length c1]]) rfl (t_empty x.e1 A1 c1 _ ho1_ (Row.extE hr1 (NewB.ext n3))) ?_)))
      rintro _ w7 ⟨rfl,x6⟩
      refine s_not (b := noE x.e1) (ej rfl rfl) (wy rfl rfl rfl rfl) (s_pick0 (v := .bool (!(noE x.e1))) (ej rfl rfl) (ej rfl rfl) (w0 rfl) ?_)
      rcases Bool.eq_false_or_eq_true (noE x.e1) with h8 | h8
      · refine s_move (v := .bool false) (vb (ej rfl rfl) (nbt h8)) (w0 rfl) (s_field (off := 10) (o' := 10) F_f120_4 (ej rfl rfl) rfl (wy rfl rfl rfl rfl) (s_loadL (cs := [.int .i8 x.e2.op,.string x.e2.t.v,.int .i8 x.e2.t.l.k,.int .i64 x.e2.t.l.n,.string x.e2.t.l.s,.slice A2 x.e2.kids.length c2]) F_m31 (ej rfl rfl) rfl rfl (blk_cells (Ext.blk x6 (NewB.blk n3)) 10 rfl) (wy rfl rfl rfl rfl) (s_call F_e90 (wy rfl rfl rfl rfl) ev_f (m1 (ej rfl rfl)) (args := #[.agg #[.int .i8 x.e2.op,.string x.e2.t.v,.int .i8 x.e2.t.l.k,.int .i64 x.e2.t.l.n,.string x.e2.t.l.s,.slice A2 x.e2.kids.length c2]]) rfl (t_empty x.e2 A2 c2 _ ho2_ (Row.extE (Row.extE hr2 (NewB.ext n3)) x6)) ?_)))
        rintro _ w10 ⟨rfl,x9⟩
        refine s_not (b := noE x.e2) (ej rfl rfl) (wy rfl rfl rfl rfl) (s_pick0 (v := .bool (!(noE x.e2))) (ej rfl rfl) (ej rfl rfl) (w0 rfl) (c_done (n_then ?_)))
        rcases Bool.eq_false_or_eq_true (noE x.e2) with h11 | h11
        · refine c_cond0 (vb (ej rfl rfl) (nbt h11)) (c_skip (n_then (c_seq (c_reg (s_field (off := 1) (o' := 1) F_f120_1 (ej rfl rfl) rfl (w0 rfl) (s_loadL (cs := [.string x.a.p,.slice Aa x.a.args.length ca]) F_m46 (ej rfl rfl) rfl rfl (blk_cells (Ext.blk x9 (Ext.blk x6 (NewB.blk n3))) 1 rfl) (w0 rfl) (s_call F_e55 (w0 rfl) ev_f (m1 (ej rfl rfl)) (args := #[.agg #[.string x.a.p,.slice Aa x.a.args.length ca]]) rfl (t_CheckAtom x.a Aa ca _ hoa_ (Row.extT (Row.extT (Row.extT hra (NewB.ext n3)) x6) x9)) ?_)))))))
          rintro _ w13 ⟨rfl,x12⟩
          refine s_assign (v := .int .i64 (code (atB x.a))) (ej rfl rfl) (w0 rfl) (c_done (n_then (c_ret (r_block (r_then (ret1 (v := .int .i64 (code (atB x.a))) rfl rfl rfl ?_))))))
          refine ⟨_,rfl,?_,(Ext.trans (Ext.trans (Ext.trans (NewB.ext n3) x6) x9) x12)⟩
          (refine congrArg (Value.int .i64) ?_; unfold ltB; first | (rw [if_pos (by omega)]; ((try simp only [*,decide_true,decide_false,if_true,if_false,Bool.and_true,Bool.true_and,Bool.false_and,Bool.and_false,Bool.not_true,Bool.not_false,Bool.false_eq_true,reduceIte,not_true_eq_false,not_false_eq_true]); first | done | rfl); done) | (rw [if_neg (by omega),if_pos (by omega)]; first | (((try simp only [*,decide_true,decide_false,if_true,if_false,Bool.and_true,Bool.true_and,Bool.false_and,Bool.and_false,Bool.not_true,Bool.not_false,Bool.false_eq_true,reduceIte,not_true_eq_false,not_false_eq_true]); first | done | rfl); done) | (rw [show decide (1 ≤ x.r) = false from decide_eq_false (by omega)]; simp only [Bool.and_false,Bool.false_and]; rfl) | (rw [show decide (x.r ≤ 6) = false from decide_eq_false (by omega)]; simp only [Bool.and_false,Bool.false_and]; rfl) | (rw [show decide ((x.a.args.length : Int) = 0) = false from decide_eq_false (by omega)]; simp only [Bool.and_false,Bool.false_and]; rfl) | (rw [show decide (1 ≤ x.r) = true from decide_eq_true (by omega),show decide (x.r ≤ 6) = true from decide_eq_true (by omega),show decide ((x.a.args.length : Int) = 0) = true from decide_eq_true (by omega)]; ((try simp only [*,decide_true,decide_false,if_true,if_false,Bool.and_true,Bool.true_and,Bool.false_and,Bool.and_false,Bool.not_true,Bool.not_false,Bool.false_eq_true,reduceIte,not_true_eq_false,not_false_eq_true]); first | done | rfl))) | (rw [if_neg (by omega),if_neg (by omega)]; rfl))
        refine c_cond1 (vb (ej rfl rfl) (nbf h11)) (c_seq (c_reg (s_assign (v := .int .i64 40) ev_c (w0 rfl) (c_done (n_then (c_ret (r_then (r_block (r_then (ret1 (v := .int .i64 40) rfl rfl rfl ?_))))))))))
        refine ⟨_,rfl,?_,(Ext.trans (Ext.trans (NewB.ext n3) x6) x9)⟩
        (refine congrArg (Value.int .i64) ?_; unfold ltB; first | (rw [if_pos (by omega)]; ((try simp only [*,decide_true,decide_false,if_true,if_false,Bool.and_true,Bool.true_and,Bool.false_and,Bool.and_false,Bool.not_true,Bool.not_false,Bool.false_eq_true,reduceIte,not_true_eq_false,not_false_eq_true]); first | done | rfl); done) | (rw [if_neg (by omega),if_pos (by omega)]; first | (((try simp only [*,decide_true,decide_false,if_true,if_false,Bool.and_true,Bool.true_and,Bool.false_and,Bool.and_false,Bool.not_true,Bool.not_false,Bool.false_eq_true,reduceIte,not_true_eq_false,not_false_eq_true]); first | done | rfl); done) | (rw [show decide (1 ≤ x.r) = false from decide_eq_false (by omega)]; simp only [Bool.and_false,Bool.false_and]; rfl) | (rw [show decide (x.r ≤ 6) = false from decide_eq_false (by omega)]; simp only [Bool.and_false,Bool.false_and]; rfl) | (rw [show decide ((x.a.args.length : Int) = 0) = false from decide_eq_false (by omega)]; simp only [Bool.and_false,Bool.false_and]; rfl) | (rw [show decide (1 ≤ x.r) = true from decide_eq_true (by omega),show decide (x.r ≤ 6) = true from decide_eq_true (by omega),show decide ((x.a.args.length : Int) = 0) = true from decide_eq_true (by omega)]; ((try simp only [*,decide_true,decide_false,if_true,if_false,Bool.and_true,Bool.true_and,Bool.false_and,Bool.and_false,Bool.not_true,Bool.not_false,Bool.false_eq_true,reduceIte,not_true_eq_false,not_false_eq_true]); first | done | rfl))) | (rw [if_neg (by omega),if_neg (by omega)]; rfl))
      refine s_move (v := .bool true) (vb (ej rfl rfl) (nbf h8)) (w0 rfl) (s_skip (wn rfl rfl rfl rfl rfl) (s_skip (wn rfl rfl rfl rfl rfl) (s_skip (wn rfl rfl rfl rfl rfl) (s_skip (wn rfl rfl rfl rfl rfl) (s_pick1 (v := .bool true) (ej rfl rfl) ev_c (w0 rfl) (c_done (n_then (c_cond1 (ej rfl rfl) (c_seq (c_reg (s_assign (v := .int .i64 40) ev_c (w0 rfl) ?_)))))))))))
      refine c_done (n_then (c_ret (r_then (r_block (r_then (ret1 (v := .int .i64 40) rfl rfl rfl ?_))))))
      refine ⟨_,rfl,?_,(Ext.trans (NewB.ext n3) x6)⟩
      (refine congrArg (Value.int .i64) ?_; unfold ltB; first | (rw [if_pos (by omega)]; ((try simp only [*,decide_true,decide_false,if_true,if_false,Bool.and_true,Bool.true_and,Bool.false_and,Bool.and_false,Bool.not_true,Bool.not_false,Bool.false_eq_true,reduceIte,not_true_eq_false,not_false_eq_true]); first | done | rfl); done) | (rw [if_neg (by omega),if_pos (by omega)]; first | (((try simp only [*,decide_true,decide_false,if_true,if_false,Bool.and_true,Bool.true_and,Bool.false_and,Bool.and_false,Bool.not_true,Bool.not_false,Bool.false_eq_true,reduceIte,not_true_eq_false,not_false_eq_true]); first | done | rfl); done) | (rw [show decide (1 ≤ x.r) = false from decide_eq_false (by omega)]; simp only [Bool.and_false,Bool.false_and]; rfl) | (rw [show decide (x.r ≤ 6) = false from decide_eq_false (by omega)]; simp only [Bool.and_false,Bool.false_and]; rfl) | (rw [show decide ((x.a.args.length : Int) = 0) = false from decide_eq_false (by omega)]; simp only [Bool.and_false,Bool.false_and]; rfl) | (rw [show decide (1 ≤ x.r) = true from decide_eq_true (by omega),show decide (x.r ≤ 6) = true from decide_eq_true (by omega),show decide ((x.a.args.length : Int) = 0) = true from decide_eq_true (by omega)]; ((try simp only [*,decide_true,decide_false,if_true,if_false,Bool.and_true,Bool.true_and,Bool.false_and,Bool.and_false,Bool.not_true,Bool.not_false,Bool.false_eq_true,reduceIte,not_true_eq_false,not_false_eq_true]); first | done | rfl))) | (rw [if_neg (by omega),if_neg (by omega)]; rfl))
    refine s_move (v := .bool true) (vb (ej rfl rfl) (nb1 h5)) (w0 rfl) (s_skip (wn rfl rfl rfl rfl rfl) (s_skip (wn rfl rfl rfl rfl rfl) (s_skip (wn rfl rfl rfl rfl rfl) (s_skip (wn rfl rfl rfl rfl rfl) (s_pick1 (v := .bool true) (ej rfl rfl) ev_c (w0 rfl) (s_move (v := .bool true) (ej rfl rfl) (w0 rfl) (s_skip (wn rfl rfl rfl rfl rfl) (s_skip (wn rfl rfl rfl rfl rfl) (s_skip (wn rfl rfl rfl rfl rfl) (s_skip (wn rfl rfl rfl rfl rfl) (s_pick1 (v := .bool true) (ej rfl rfl) ev_c (w0 rfl) ?_)))))))))))
    refine c_done (n_then (c_cond1 (ej rfl rfl) (c_seq (c_reg (s_assign (v := .int .i64 40) ev_c (w0 rfl) (c_done (n_then (c_ret (r_then (r_block (r_then ?_)))))))))))
    refine ret1 (v := .int .i64 40) rfl rfl rfl ?_
    refine ⟨_,rfl,?_,(NewB.ext n3)⟩
    (refine congrArg (Value.int .i64) ?_; unfold ltB; first | (rw [if_pos (by omega)]; ((try simp only [*,decide_true,decide_false,if_true,if_false,Bool.and_true,Bool.true_and,Bool.false_and,Bool.and_false,Bool.not_true,Bool.not_false,Bool.false_eq_true,reduceIte,not_true_eq_false,not_false_eq_true]); first | done | rfl); done) | (rw [if_neg (by omega),if_pos (by omega)]; first | (((try simp only [*,decide_true,decide_false,if_true,if_false,Bool.and_true,Bool.true_and,Bool.false_and,Bool.and_false,Bool.not_true,Bool.not_false,Bool.false_eq_true,reduceIte,not_true_eq_false,not_false_eq_true]); first | done | rfl); done) | (rw [show decide (1 ≤ x.r) = false from decide_eq_false (by omega)]; simp only [Bool.and_false,Bool.false_and]; rfl) | (rw [show decide (x.r ≤ 6) = false from decide_eq_false (by omega)]; simp only [Bool.and_false,Bool.false_and]; rfl) | (rw [show decide ((x.a.args.length : Int) = 0) = false from decide_eq_false (by omega)]; simp only [Bool.and_false,Bool.false_and]; rfl) | (rw [show decide (1 ≤ x.r) = true from decide_eq_true (by omega),show decide (x.r ≤ 6) = true from decide_eq_true (by omega),show decide ((x.a.args.length : Int) = 0) = true from decide_eq_true (by omega)]; ((try simp only [*,decide_true,decide_false,if_true,if_false,Bool.and_true,Bool.true_and,Bool.false_and,Bool.and_false,Bool.not_true,Bool.not_false,Bool.false_eq_true,reduceIte,not_true_eq_false,not_false_eq_true]); first | done | rfl))) | (rw [if_neg (by omega),if_neg (by omega)]; rfl))
  refine c_cond0 (vb (ej rfl rfl) (decide_eq_false h4)) (c_reg (s_cmp (r := decide (x.k = 2)) (ej rfl rfl) ev_c rfl (w0 rfl) (s_assign (v := .bool (decide (x.k = 2))) (ej rfl rfl) (w0 rfl) (c_done (n_then ?_)))))
  by_cases h14 : x.k = 2
  · refine c_cond1 (vb (ej rfl rfl) (decide_eq_true h14)) (c_seq (c_seq (c_reg (s_field (off := 3) (o' := 3) F_f120_2 (ej rfl rfl) rfl (w0 rfl) (s_load (v := .int .i8 x.r) F_o118 (ej rfl rfl) (cell_of_blk (i := 3) (NewB.blk n3) rfl) (w0 rfl) (s_cmp (r := !decide (x.r = 0)) (ej rfl rfl) ev_c rfl (w0 rfl) ?_))))))
    by_cases h15 : x.r = 0
    · refine s_move (v := .bool false) (vb (ej rfl rfl) (nb0 h15)) (w0 rfl) (s_field (off := 4) (o' := 4) F_f120_3 (ej rfl rfl) rfl (wy rfl rfl rfl rfl) (s_loadL (cs := [.int .i8 x.e1.op,.string x.e1.t.v,.int .i8 x.e1.t.l.k,.int .i64 x.e1.t.l.n,.string x.e1.t.l.s,.slice A1 x.e1.kids.length c1]) F_m31 (ej rfl rfl) rfl rfl (blk_cells (NewB.blk n3) 4 rfl) (wy rfl rfl rfl rfl) (s_call F_e90 (wy rfl rfl rfl rfl) ev_f (m1 (ej rfl rfl)) (args := #[.agg #[.int .i8 x.e1.op,.string x.e1.t.v,.int .i8 x.e1.t.l.k,.int .i64 x.e1.t.l.n,.string x.e1.t.l.s,.slice A1 x.e1.kids.length c1]]) rfl (t_empty x.e1 A1 c1 _ ho1_ (Row.extE hr1 (NewB.ext n3))) ?_)))
      rintro _ w17 ⟨rfl,x16⟩
      refine s_not (b := noE x.e1) (ej rfl rfl) (wy rfl rfl rfl rfl) (s_pick0 (v := .bool (!(noE x.e1))) (ej rfl rfl) (ej rfl rfl) (w0 rfl) ?_)
      rcases Bool.eq_false_or_eq_true (noE x.e1) with h18 | h18
      · refine s_move (v := .bool false) (vb (ej rfl rfl) (nbt h18)) (w0 rfl) (s_field (off := 10) (o' := 10) F_f120_4 (ej rfl rfl) rfl (wy rfl rfl rfl rfl) (s_loadL (cs := [.int .i8 x.e2.op,.string x.e2.t.v,.int .i8 x.e2.t.l.k,.int .i64 x.e2.t.l.n,.string x.e2.t.l.s,.slice A2 x.e2.kids.length c2]) F_m31 (ej rfl rfl) rfl rfl (blk_cells (Ext.blk x16 (NewB.blk n3)) 10 rfl) (wy rfl rfl rfl rfl) (s_call F_e90 (wy rfl rfl rfl rfl) ev_f (m1 (ej rfl rfl)) (args := #[.agg #[.int .i8 x.e2.op,.string x.e2.t.v,.int .i8 x.e2.t.l.k,.int .i64 x.e2.t.l.n,.string x.e2.t.l.s,.slice A2 x.e2.kids.length c2]]) rfl (t_empty x.e2 A2 c2 _ ho2_ (Row.extE (Row.extE hr2 (NewB.ext n3)) x16)) ?_)))
        rintro _ w20 ⟨rfl,x19⟩
        refine s_not (b := noE x.e2) (ej rfl rfl) (wy rfl rfl rfl rfl) (s_pick0 (v := .bool (!(noE x.e2))) (ej rfl rfl) (ej rfl rfl) (w0 rfl) (c_done (n_then ?_)))
        rcases Bool.eq_false_or_eq_true (noE x.e2) with h21 | h21
        · refine c_cond0 (vb (ej rfl rfl) (nbt h21)) (c_skip (n_then (c_seq (c_reg (s_field (off := 1) (o' := 1) F_f120_1 (ej rfl rfl) rfl (w0 rfl) (s_loadL (cs := [.string x.a.p,.slice Aa x.a.args.length ca]) F_m46 (ej rfl rfl) rfl rfl (blk_cells (Ext.blk x19 (Ext.blk x16 (NewB.blk n3))) 1 rfl) (w0 rfl) (s_call F_e55 (w0 rfl) ev_f (m1 (ej rfl rfl)) (args := #[.agg #[.string x.a.p,.slice Aa x.a.args.length ca]]) rfl (t_CheckAtom x.a Aa ca _ hoa_ (Row.extT (Row.extT (Row.extT hra (NewB.ext n3)) x16) x19)) ?_)))))))
          rintro _ w23 ⟨rfl,x22⟩
          refine s_assign (v := .int .i64 (code (atB x.a))) (ej rfl rfl) (w0 rfl) (c_done (n_then (c_ret (r_block (r_then (ret1 (v := .int .i64 (code (atB x.a))) rfl rfl rfl ?_))))))
          refine ⟨_,rfl,?_,(Ext.trans (Ext.trans (Ext.trans (NewB.ext n3) x16) x19) x22)⟩
          (refine congrArg (Value.int .i64) ?_; unfold ltB; first | (rw [if_pos (by omega)]; ((try simp only [*,decide_true,decide_false,if_true,if_false,Bool.and_true,Bool.true_and,Bool.false_and,Bool.and_false,Bool.not_true,Bool.not_false,Bool.false_eq_true,reduceIte,not_true_eq_false,not_false_eq_true]); first | done | rfl); done) | (rw [if_neg (by omega),if_pos (by omega)]; first | (((try simp only [*,decide_true,decide_false,if_true,if_false,Bool.and_true,Bool.true_and,Bool.false_and,Bool.and_false,Bool.not_true,Bool.not_false,Bool.false_eq_true,reduceIte,not_true_eq_false,not_false_eq_true]); first | done | rfl); done) | (rw [show decide (1 ≤ x.r) = false from decide_eq_false (by omega)]; simp only [Bool.and_false,Bool.false_and]; rfl) | (rw [show decide (x.r ≤ 6) = false from decide_eq_false (by omega)]; simp only [Bool.and_false,Bool.false_and]; rfl) | (rw [show decide ((x.a.args.length : Int) = 0) = false from decide_eq_false (by omega)]; simp only [Bool.and_false,Bool.false_and]; rfl) | (rw [show decide (1 ≤ x.r) = true from decide_eq_true (by omega),show decide (x.r ≤ 6) = true from decide_eq_true (by omega),show decide ((x.a.args.length : Int) = 0) = true from decide_eq_true (by omega)]; ((try simp only [*,decide_true,decide_false,if_true,if_false,Bool.and_true,Bool.true_and,Bool.false_and,Bool.and_false,Bool.not_true,Bool.not_false,Bool.false_eq_true,reduceIte,not_true_eq_false,not_false_eq_true]); first | done | rfl))) | (rw [if_neg (by omega),if_neg (by omega)]; rfl))
        refine c_cond1 (vb (ej rfl rfl) (nbf h21)) (c_seq (c_reg (s_assign (v := .int .i64 40) ev_c (w0 rfl) (c_done (n_then (c_ret (r_then (r_block (r_then (ret1 (v := .int .i64 40) rfl rfl rfl ?_))))))))))
        refine ⟨_,rfl,?_,(Ext.trans (Ext.trans (NewB.ext n3) x16) x19)⟩
        (refine congrArg (Value.int .i64) ?_; unfold ltB; first | (rw [if_pos (by omega)]; ((try simp only [*,decide_true,decide_false,if_true,if_false,Bool.and_true,Bool.true_and,Bool.false_and,Bool.and_false,Bool.not_true,Bool.not_false,Bool.false_eq_true,reduceIte,not_true_eq_false,not_false_eq_true]); first | done | rfl); done) | (rw [if_neg (by omega),if_pos (by omega)]; first | (((try simp only [*,decide_true,decide_false,if_true,if_false,Bool.and_true,Bool.true_and,Bool.false_and,Bool.and_false,Bool.not_true,Bool.not_false,Bool.false_eq_true,reduceIte,not_true_eq_false,not_false_eq_true]); first | done | rfl); done) | (rw [show decide (1 ≤ x.r) = false from decide_eq_false (by omega)]; simp only [Bool.and_false,Bool.false_and]; rfl) | (rw [show decide (x.r ≤ 6) = false from decide_eq_false (by omega)]; simp only [Bool.and_false,Bool.false_and]; rfl) | (rw [show decide ((x.a.args.length : Int) = 0) = false from decide_eq_false (by omega)]; simp only [Bool.and_false,Bool.false_and]; rfl) | (rw [show decide (1 ≤ x.r) = true from decide_eq_true (by omega),show decide (x.r ≤ 6) = true from decide_eq_true (by omega),show decide ((x.a.args.length : Int) = 0) = true from decide_eq_true (by omega)]; ((try simp only [*,decide_true,decide_false,if_true,if_false,Bool.and_true,Bool.true_and,Bool.false_and,Bool.and_false,Bool.not_true,Bool.not_false,Bool.false_eq_true,reduceIte,not_true_eq_false,not_false_eq_true]); first | done | rfl))) | (rw [if_neg (by omega),if_neg (by omega)]; rfl))
      refine s_move (v := .bool true) (vb (ej rfl rfl) (nbf h18)) (w0 rfl) (s_skip (wn rfl rfl rfl rfl rfl) (s_skip (wn rfl rfl rfl rfl rfl) (s_skip (wn rfl rfl rfl rfl rfl) (s_skip (wn rfl rfl rfl rfl rfl) (s_pick1 (v := .bool true) (ej rfl rfl) ev_c (w0 rfl) (c_done (n_then (c_cond1 (ej rfl rfl) (c_seq (c_reg (s_assign (v := .int .i64 40) ev_c (w0 rfl) ?_)))))))))))
      refine c_done (n_then (c_ret (r_then (r_block (r_then (ret1 (v := .int .i64 40) rfl rfl rfl ?_))))))
      refine ⟨_,rfl,?_,(Ext.trans (NewB.ext n3) x16)⟩
      (refine congrArg (Value.int .i64) ?_; unfold ltB; first | (rw [if_pos (by omega)]; ((try simp only [*,decide_true,decide_false,if_true,if_false,Bool.and_true,Bool.true_and,Bool.false_and,Bool.and_false,Bool.not_true,Bool.not_false,Bool.false_eq_true,reduceIte,not_true_eq_false,not_false_eq_true]); first | done | rfl); done) | (rw [if_neg (by omega),if_pos (by omega)]; first | (((try simp only [*,decide_true,decide_false,if_true,if_false,Bool.and_true,Bool.true_and,Bool.false_and,Bool.and_false,Bool.not_true,Bool.not_false,Bool.false_eq_true,reduceIte,not_true_eq_false,not_false_eq_true]); first | done | rfl); done) | (rw [show decide (1 ≤ x.r) = false from decide_eq_false (by omega)]; simp only [Bool.and_false,Bool.false_and]; rfl) | (rw [show decide (x.r ≤ 6) = false from decide_eq_false (by omega)]; simp only [Bool.and_false,Bool.false_and]; rfl) | (rw [show decide ((x.a.args.length : Int) = 0) = false from decide_eq_false (by omega)]; simp only [Bool.and_false,Bool.false_and]; rfl) | (rw [show decide (1 ≤ x.r) = true from decide_eq_true (by omega),show decide (x.r ≤ 6) = true from decide_eq_true (by omega),show decide ((x.a.args.length : Int) = 0) = true from decide_eq_true (by omega)]; ((try simp only [*,decide_true,decide_false,if_true,if_false,Bool.and_true,Bool.true_and,Bool.false_and,Bool.and_false,Bool.not_true,Bool.not_false,Bool.false_eq_true,reduceIte,not_true_eq_false,not_false_eq_true]); first | done | rfl))) | (rw [if_neg (by omega),if_neg (by omega)]; rfl))
    refine s_move (v := .bool true) (vb (ej rfl rfl) (nb1 h15)) (w0 rfl) (s_skip (wn rfl rfl rfl rfl rfl) (s_skip (wn rfl rfl rfl rfl rfl) (s_skip (wn rfl rfl rfl rfl rfl) (s_skip (wn rfl rfl rfl rfl rfl) (s_pick1 (v := .bool true) (ej rfl rfl) ev_c (w0 rfl) (s_move (v := .bool true) (ej rfl rfl) (w0 rfl) (s_skip (wn rfl rfl rfl rfl rfl) (s_skip (wn rfl rfl rfl rfl rfl) (s_skip (wn rfl rfl rfl rfl rfl) (s_skip (wn rfl rfl rfl rfl rfl) (s_pick1 (v := .bool true) (ej rfl rfl) ev_c (w0 rfl) ?_)))))))))))
    refine c_done (n_then (c_cond1 (ej rfl rfl) (c_seq (c_reg (s_assign (v := .int .i64 40) ev_c (w0 rfl) (c_done (n_then (c_ret (r_then (r_block (r_then ?_)))))))))))
    refine ret1 (v := .int .i64 40) rfl rfl rfl ?_
    refine ⟨_,rfl,?_,(NewB.ext n3)⟩
    (refine congrArg (Value.int .i64) ?_; unfold ltB; first | (rw [if_pos (by omega)]; ((try simp only [*,decide_true,decide_false,if_true,if_false,Bool.and_true,Bool.true_and,Bool.false_and,Bool.and_false,Bool.not_true,Bool.not_false,Bool.false_eq_true,reduceIte,not_true_eq_false,not_false_eq_true]); first | done | rfl); done) | (rw [if_neg (by omega),if_pos (by omega)]; first | (((try simp only [*,decide_true,decide_false,if_true,if_false,Bool.and_true,Bool.true_and,Bool.false_and,Bool.and_false,Bool.not_true,Bool.not_false,Bool.false_eq_true,reduceIte,not_true_eq_false,not_false_eq_true]); first | done | rfl); done) | (rw [show decide (1 ≤ x.r) = false from decide_eq_false (by omega)]; simp only [Bool.and_false,Bool.false_and]; rfl) | (rw [show decide (x.r ≤ 6) = false from decide_eq_false (by omega)]; simp only [Bool.and_false,Bool.false_and]; rfl) | (rw [show decide ((x.a.args.length : Int) = 0) = false from decide_eq_false (by omega)]; simp only [Bool.and_false,Bool.false_and]; rfl) | (rw [show decide (1 ≤ x.r) = true from decide_eq_true (by omega),show decide (x.r ≤ 6) = true from decide_eq_true (by omega),show decide ((x.a.args.length : Int) = 0) = true from decide_eq_true (by omega)]; ((try simp only [*,decide_true,decide_false,if_true,if_false,Bool.and_true,Bool.true_and,Bool.false_and,Bool.and_false,Bool.not_true,Bool.not_false,Bool.false_eq_true,reduceIte,not_true_eq_false,not_false_eq_true]); first | done | rfl))) | (rw [if_neg (by omega),if_neg (by omega)]; rfl))
  refine c_cond0 (vb (ej rfl rfl) (decide_eq_false h14)) (c_seq (c_reg (s_cmp (r := decide (x.k = 3)) (ej rfl rfl) ev_c rfl (w0 rfl) (s_assign (v := .bool (decide (x.k = 3))) (ej rfl rfl) (w0 rfl) (c_done (n_then ?_))))))
  by_cases h24 : x.k = 3
  · refine c_cond1 (vb (ej rfl rfl) (decide_eq_true h24)) (c_seq (c_seq (c_reg (s_field (off := 1) (o' := 1) F_f120_1 (ej rfl rfl) rfl (w0 rfl) (s_field (off := 0) (o' := 1) F_f46_0 (ej rfl rfl) rfl (w0 rfl) (s_load (v := .string x.a.p) F_o9 (ej rfl rfl) (cell_of_blk (i := 1) (NewB.blk n3) rfl) (w0 rfl) (s_cmpS (r := !decide (x.a.p = (⟨#[]⟩ : ByteArray))) (ej rfl rfl) ev_c rfl (w0 rfl) ?_)))))))
    by_cases h25 : x.a.p = (⟨#[]⟩ : ByteArray)
    · refine s_move (v := .bool false) (vb (ej rfl rfl) (nb0 h25)) (w0 rfl) (s_field (off := 1) (o' := 1) F_f120_1 (ej rfl rfl) rfl (wy rfl rfl rfl rfl) (s_field (off := 1) (o' := 2) F_f46_1 (ej rfl rfl) rfl (wy rfl rfl rfl rfl) (s_load (v := .slice Aa x.a.args.length ca) F_o44 (ej rfl rfl) (cell_of_blk (i := 2) (NewB.blk n3) rfl) (wy rfl rfl rfl rfl) (s_lenL F_l44 (ej rfl rfl) (wy rfl rfl rfl rfl) (s_cmp (r := decide (0 < (x.a.args.length : Int))) (ej rfl rfl) ev_c rfl (wy rfl rfl rfl rfl) (s_pick0 (v := .bool (decide (0 < (x.a.args.length : Int)))) (ej rfl rfl) (ej rfl rfl) (w0 rfl) ?_))))))
      by_cases h26 : 0 < (x.a.args.length : Int)
      · refine s_move (v := .bool true) (vb (ej rfl rfl) (decide_eq_true h26)) (w0 rfl) (s_skip (wn rfl rfl rfl rfl rfl) (s_skip (wn rfl rfl rfl rfl rfl) (s_skip (wn rfl rfl rfl rfl rfl) (s_pick1 (v := .bool true) (ej rfl rfl) ev_c (w0 rfl) (s_move (v := .bool true) (ej rfl rfl) (w0 rfl) (s_skip (wn rfl rfl rfl rfl rfl) (s_skip (wn rfl rfl rfl rfl rfl) (s_skip (wn rfl rfl rfl rfl rfl) (s_pick1 (v := .bool true) (ej rfl rfl) ev_c (w0 rfl) (s_move (v := .bool true) (ej rfl rfl) (w0 rfl) (s_skip (wn rfl rfl rfl rfl rfl) ?_)))))))))))
        refine s_skip (wn rfl rfl rfl rfl rfl) (s_skip (wn rfl rfl rfl rfl rfl) (s_skip (wn rfl rfl rfl rfl rfl) (s_pick1 (v := .bool true) (ej rfl rfl) ev_c (w0 rfl) (c_done (n_then (c_cond1 (ej rfl rfl) (c_seq (c_reg (s_assign (v := .int .i64 40) ev_c (w0 rfl) (c_done (n_then ?_)))))))))))
        refine c_ret (r_then (r_block (r_then (ret1 (v := .int .i64 40) rfl rfl rfl ?_))))
        refine ⟨_,rfl,?_,(NewB.ext n3)⟩
        (refine congrArg (Value.int .i64) ?_; unfold ltB; first | (rw [if_pos (by omega)]; ((try simp only [*,decide_true,decide_false,if_true,if_false,Bool.and_true,Bool.true_and,Bool.false_and,Bool.and_false,Bool.not_true,Bool.not_false,Bool.false_eq_true,reduceIte,not_true_eq_false,not_false_eq_true]); first | done | rfl); done) | (rw [if_neg (by omega),if_pos (by omega)]; first | (((try simp only [*,decide_true,decide_false,if_true,if_false,Bool.and_true,Bool.true_and,Bool.false_and,Bool.and_false,Bool.not_true,Bool.not_false,Bool.false_eq_true,reduceIte,not_true_eq_false,not_false_eq_true]); first | done | rfl); done) | (rw [show decide (1 ≤ x.r) = false from decide_eq_false (by omega)]; simp only [Bool.and_false,Bool.false_and]; rfl) | (rw [show decide (x.r ≤ 6) = false from decide_eq_false (by omega)]; simp only [Bool.and_false,Bool.false_and]; rfl) | (rw [show decide ((x.a.args.length : Int) = 0) = false from decide_eq_false (by omega)]; simp only [Bool.and_false,Bool.false_and]; rfl) | (rw [show decide (1 ≤ x.r) = true from decide_eq_true (by omega),show decide (x.r ≤ 6) = true from decide_eq_true (by omega),show decide ((x.a.args.length : Int) = 0) = true from decide_eq_true (by omega)]; ((try simp only [*,decide_true,decide_false,if_true,if_false,Bool.and_true,Bool.true_and,Bool.false_and,Bool.and_false,Bool.not_true,Bool.not_false,Bool.false_eq_true,reduceIte,not_true_eq_false,not_false_eq_true]); first | done | rfl))) | (rw [if_neg (by omega),if_neg (by omega)]; rfl))
      refine s_move (v := .bool false) (vb (ej rfl rfl) (decide_eq_false h26)) (w0 rfl) (s_field (off := 3) (o' := 3) F_f120_2 (ej rfl rfl) rfl (wy rfl rfl rfl rfl) (s_load (v := .int .i8 x.r) F_o118 (ej rfl rfl) (cell_of_blk (i := 3) (NewB.blk n3) rfl) (wy rfl rfl rfl rfl) (s_cmp (r := decide (x.r < 1)) (ej rfl rfl) ev_c rfl (wy rfl rfl rfl rfl) (s_pick0 (v := .bool (decide (x.r < 1))) (ej rfl rfl) (ej rfl rfl) (w0 rfl) ?_))))
      by_cases h27 : x.r < 1
      · refine s_move (v := .bool true) (vb (ej rfl rfl) (decide_eq_true h27)) (w0 rfl) (s_skip (wn rfl rfl rfl rfl rfl) (s_skip (wn rfl rfl rfl rfl rfl) (s_skip (wn rfl rfl rfl rfl rfl) (s_pick1 (v := .bool true) (ej rfl rfl) ev_c (w0 rfl) (s_move (v := .bool true) (ej rfl rfl) (w0 rfl) (s_skip (wn rfl rfl rfl rfl rfl) (s_skip (wn rfl rfl rfl rfl rfl) (s_skip (wn rfl rfl rfl rfl rfl) (s_skip (wn rfl rfl rfl rfl rfl) (s_pick1 (v := .bool true) (ej rfl rfl) ev_c (w0 rfl) (c_done ?_)))))))))))
        refine n_then (c_cond1 (ej rfl rfl) (c_seq (c_reg (s_assign (v := .int .i64 40) ev_c (w0 rfl) (c_done (n_then (c_ret (r_then (r_block (r_then (ret1 (v := .int .i64 40) rfl rfl rfl ?_)))))))))))
        refine ⟨_,rfl,?_,(NewB.ext n3)⟩
        (refine congrArg (Value.int .i64) ?_; unfold ltB; first | (rw [if_pos (by omega)]; ((try simp only [*,decide_true,decide_false,if_true,if_false,Bool.and_true,Bool.true_and,Bool.false_and,Bool.and_false,Bool.not_true,Bool.not_false,Bool.false_eq_true,reduceIte,not_true_eq_false,not_false_eq_true]); first | done | rfl); done) | (rw [if_neg (by omega),if_pos (by omega)]; first | (((try simp only [*,decide_true,decide_false,if_true,if_false,Bool.and_true,Bool.true_and,Bool.false_and,Bool.and_false,Bool.not_true,Bool.not_false,Bool.false_eq_true,reduceIte,not_true_eq_false,not_false_eq_true]); first | done | rfl); done) | (rw [show decide (1 ≤ x.r) = false from decide_eq_false (by omega)]; simp only [Bool.and_false,Bool.false_and]; rfl) | (rw [show decide (x.r ≤ 6) = false from decide_eq_false (by omega)]; simp only [Bool.and_false,Bool.false_and]; rfl) | (rw [show decide ((x.a.args.length : Int) = 0) = false from decide_eq_false (by omega)]; simp only [Bool.and_false,Bool.false_and]; rfl) | (rw [show decide (1 ≤ x.r) = true from decide_eq_true (by omega),show decide (x.r ≤ 6) = true from decide_eq_true (by omega),show decide ((x.a.args.length : Int) = 0) = true from decide_eq_true (by omega)]; ((try simp only [*,decide_true,decide_false,if_true,if_false,Bool.and_true,Bool.true_and,Bool.false_and,Bool.and_false,Bool.not_true,Bool.not_false,Bool.false_eq_true,reduceIte,not_true_eq_false,not_false_eq_true]); first | done | rfl))) | (rw [if_neg (by omega),if_neg (by omega)]; rfl))
      refine s_move (v := .bool false) (vb (ej rfl rfl) (decide_eq_false h27)) (w0 rfl) (s_field (off := 3) (o' := 3) F_f120_2 (ej rfl rfl) rfl (wy rfl rfl rfl rfl) (s_load (v := .int .i8 x.r) F_o118 (ej rfl rfl) (cell_of_blk (i := 3) (NewB.blk n3) rfl) (wy rfl rfl rfl rfl) (s_cmp (r := decide (6 < x.r)) (ej rfl rfl) ev_c rfl (wy rfl rfl rfl rfl) (s_pick0 (v := .bool (decide (6 < x.r))) (ej rfl rfl) (ej rfl rfl) (w0 rfl) ?_))))
      by_cases h28 : 6 < x.r
      · refine s_move (v := .bool true) (vb (ej rfl rfl) (decide_eq_true h28)) (w0 rfl) (s_skip (wn rfl rfl rfl rfl rfl) (s_skip (wn rfl rfl rfl rfl rfl) (s_skip (wn rfl rfl rfl rfl rfl) (s_skip (wn rfl rfl rfl rfl rfl) (s_pick1 (v := .bool true) (ej rfl rfl) ev_c (w0 rfl) (c_done (n_then (c_cond1 (ej rfl rfl) (c_seq (c_reg (s_assign (v := .int .i64 40) ev_c (w0 rfl) ?_)))))))))))
        refine c_done (n_then (c_ret (r_then (r_block (r_then (ret1 (v := .int .i64 40) rfl rfl rfl ?_))))))
        refine ⟨_,rfl,?_,(NewB.ext n3)⟩
        (refine congrArg (Value.int .i64) ?_; unfold ltB; first | (rw [if_pos (by omega)]; ((try simp only [*,decide_true,decide_false,if_true,if_false,Bool.and_true,Bool.true_and,Bool.false_and,Bool.and_false,Bool.not_true,Bool.not_false,Bool.false_eq_true,reduceIte,not_true_eq_false,not_false_eq_true]); first | done | rfl); done) | (rw [if_neg (by omega),if_pos (by omega)]; first | (((try simp only [*,decide_true,decide_false,if_true,if_false,Bool.and_true,Bool.true_and,Bool.false_and,Bool.and_false,Bool.not_true,Bool.not_false,Bool.false_eq_true,reduceIte,not_true_eq_false,not_false_eq_true]); first | done | rfl); done) | (rw [show decide (1 ≤ x.r) = false from decide_eq_false (by omega)]; simp only [Bool.and_false,Bool.false_and]; rfl) | (rw [show decide (x.r ≤ 6) = false from decide_eq_false (by omega)]; simp only [Bool.and_false,Bool.false_and]; rfl) | (rw [show decide ((x.a.args.length : Int) = 0) = false from decide_eq_false (by omega)]; simp only [Bool.and_false,Bool.false_and]; rfl) | (rw [show decide (1 ≤ x.r) = true from decide_eq_true (by omega),show decide (x.r ≤ 6) = true from decide_eq_true (by omega),show decide ((x.a.args.length : Int) = 0) = true from decide_eq_true (by omega)]; ((try simp only [*,decide_true,decide_false,if_true,if_false,Bool.and_true,Bool.true_and,Bool.false_and,Bool.and_false,Bool.not_true,Bool.not_false,Bool.false_eq_true,reduceIte,not_true_eq_false,not_false_eq_true]); first | done | rfl))) | (rw [if_neg (by omega),if_neg (by omega)]; rfl))
      refine s_move (v := .bool false) (vb (ej rfl rfl) (decide_eq_false h28)) (w0 rfl) (s_field (off := 4) (o' := 4) F_f120_3 (ej rfl rfl) rfl (wy rfl rfl rfl rfl) (s_loadL (cs := [.int .i8 x.e1.op,.string x.e1.t.v,.int .i8 x.e1.t.l.k,.int .i64 x.e1.t.l.n,.string x.e1.t.l.s,.slice A1 x.e1.kids.length c1]) F_m31 (ej rfl rfl) rfl rfl (blk_cells (NewB.blk n3) 4 rfl) (wy rfl rfl rfl rfl) (s_call F_e23 (wy rfl rfl rfl rfl) ev_f (m1 (ej rfl rfl)) (args := #[.agg #[.int .i8 x.e1.op,.string x.e1.t.v,.int .i8 x.e1.t.l.k,.int .i64 x.e1.t.l.n,.string x.e1.t.l.s,.slice A1 x.e1.kids.length c1]]) rfl (t_CheckExpr x.e1 A1 c1 _ ho1_ (Row.extE hr1 (NewB.ext n3))) ?_)))
      rintro _ w30 ⟨rfl,x29⟩
      refine s_cmp (r := !(exB 8 x.e1)) (ej rfl rfl) ev_c (ci_tn (b := (exB 8 x.e1)) (by decide)) (wy rfl rfl rfl rfl) (s_pick0 (v := .bool (!(exB 8 x.e1))) (ej rfl rfl) (ej rfl rfl) (w0 rfl) (c_done (n_then ?_)))
      rcases Bool.eq_false_or_eq_true (exB 8 x.e1) with h31 | h31
      · refine c_cond0 (vb (ej rfl rfl) (nbt h31)) (c_skip (n_then (c_seq (c_reg (s_field (off := 10) (o' := 10) F_f120_4 (ej rfl rfl) rfl (w0 rfl) (s_loadL (cs := [.int .i8 x.e2.op,.string x.e2.t.v,.int .i8 x.e2.t.l.k,.int .i64 x.e2.t.l.n,.string x.e2.t.l.s,.slice A2 x.e2.kids.length c2]) F_m31 (ej rfl rfl) rfl rfl (blk_cells (Ext.blk x29 (NewB.blk n3)) 10 rfl) (w0 rfl) (s_call F_e23 (w0 rfl) ev_f (m1 (ej rfl rfl)) (args := #[.agg #[.int .i8 x.e2.op,.string x.e2.t.v,.int .i8 x.e2.t.l.k,.int .i64 x.e2.t.l.n,.string x.e2.t.l.s,.slice A2 x.e2.kids.length c2]]) rfl (t_CheckExpr x.e2 A2 c2 _ ho2_ (Row.extE (Row.extE hr2 (NewB.ext n3)) x29)) ?_)))))))
        rintro _ w33 ⟨rfl,x32⟩
        refine s_assign (v := .int .i64 (code (exB 8 x.e2))) (ej rfl rfl) (w0 rfl) (c_done (n_then (c_ret (r_block (r_then (ret1 (v := .int .i64 (code (exB 8 x.e2))) rfl rfl rfl ?_))))))
        refine ⟨_,rfl,?_,(Ext.trans (Ext.trans (NewB.ext n3) x29) x32)⟩
        (refine congrArg (Value.int .i64) ?_; unfold ltB; first | (rw [if_pos (by omega)]; ((try simp only [*,decide_true,decide_false,if_true,if_false,Bool.and_true,Bool.true_and,Bool.false_and,Bool.and_false,Bool.not_true,Bool.not_false,Bool.false_eq_true,reduceIte,not_true_eq_false,not_false_eq_true]); first | done | rfl); done) | (rw [if_neg (by omega),if_pos (by omega)]; first | (((try simp only [*,decide_true,decide_false,if_true,if_false,Bool.and_true,Bool.true_and,Bool.false_and,Bool.and_false,Bool.not_true,Bool.not_false,Bool.false_eq_true,reduceIte,not_true_eq_false,not_false_eq_true]); first | done | rfl); done) | (rw [show decide (1 ≤ x.r) = false from decide_eq_false (by omega)]; simp only [Bool.and_false,Bool.false_and]; rfl) | (rw [show decide (x.r ≤ 6) = false from decide_eq_false (by omega)]; simp only [Bool.and_false,Bool.false_and]; rfl) | (rw [show decide ((x.a.args.length : Int) = 0) = false from decide_eq_false (by omega)]; simp only [Bool.and_false,Bool.false_and]; rfl) | (rw [show decide (1 ≤ x.r) = true from decide_eq_true (by omega),show decide (x.r ≤ 6) = true from decide_eq_true (by omega),show decide ((x.a.args.length : Int) = 0) = true from decide_eq_true (by omega)]; ((try simp only [*,decide_true,decide_false,if_true,if_false,Bool.and_true,Bool.true_and,Bool.false_and,Bool.and_false,Bool.not_true,Bool.not_false,Bool.false_eq_true,reduceIte,not_true_eq_false,not_false_eq_true]); first | done | rfl))) | (rw [if_neg (by omega),if_neg (by omega)]; rfl))
      refine c_cond1 (vb (ej rfl rfl) (nbf h31)) (c_seq (c_reg (s_assign (v := .int .i64 40) ev_c (w0 rfl) (c_done (n_then (c_ret (r_then (r_block (r_then (ret1 (v := .int .i64 40) rfl rfl rfl ?_))))))))))
      refine ⟨_,rfl,?_,(Ext.trans (NewB.ext n3) x29)⟩
      (refine congrArg (Value.int .i64) ?_; unfold ltB; first | (rw [if_pos (by omega)]; ((try simp only [*,decide_true,decide_false,if_true,if_false,Bool.and_true,Bool.true_and,Bool.false_and,Bool.and_false,Bool.not_true,Bool.not_false,Bool.false_eq_true,reduceIte,not_true_eq_false,not_false_eq_true]); first | done | rfl); done) | (rw [if_neg (by omega),if_pos (by omega)]; first | (((try simp only [*,decide_true,decide_false,if_true,if_false,Bool.and_true,Bool.true_and,Bool.false_and,Bool.and_false,Bool.not_true,Bool.not_false,Bool.false_eq_true,reduceIte,not_true_eq_false,not_false_eq_true]); first | done | rfl); done) | (rw [show decide (1 ≤ x.r) = false from decide_eq_false (by omega)]; simp only [Bool.and_false,Bool.false_and]; rfl) | (rw [show decide (x.r ≤ 6) = false from decide_eq_false (by omega)]; simp only [Bool.and_false,Bool.false_and]; rfl) | (rw [show decide ((x.a.args.length : Int) = 0) = false from decide_eq_false (by omega)]; simp only [Bool.and_false,Bool.false_and]; rfl) | (rw [show decide (1 ≤ x.r) = true from decide_eq_true (by omega),show decide (x.r ≤ 6) = true from decide_eq_true (by omega),show decide ((x.a.args.length : Int) = 0) = true from decide_eq_true (by omega)]; ((try simp only [*,decide_true,decide_false,if_true,if_false,Bool.and_true,Bool.true_and,Bool.false_and,Bool.and_false,Bool.not_true,Bool.not_false,Bool.false_eq_true,reduceIte,not_true_eq_false,not_false_eq_true]); first | done | rfl))) | (rw [if_neg (by omega),if_neg (by omega)]; rfl))
    refine s_move (v := .bool true) (vb (ej rfl rfl) (nb1 h25)) (w0 rfl) (s_skip (wn rfl rfl rfl rfl rfl) (s_skip (wn rfl rfl rfl rfl rfl) (s_skip (wn rfl rfl rfl rfl rfl) (s_skip (wn rfl rfl rfl rfl rfl) (s_skip (wn rfl rfl rfl rfl rfl) (s_pick1 (v := .bool true) (ej rfl rfl) ev_c (w0 rfl) (s_move (v := .bool true) (ej rfl rfl) (w0 rfl) (s_skip (wn rfl rfl rfl rfl rfl) (s_skip (wn rfl rfl rfl rfl rfl) (s_skip (wn rfl rfl rfl rfl rfl) (s_pick1 (v := .bool true) (ej rfl rfl) ev_c (w0 rfl) ?_)))))))))))
    refine s_move (v := .bool true) (ej rfl rfl) (w0 rfl) (s_skip (wn rfl rfl rfl rfl rfl) (s_skip (wn rfl rfl rfl rfl rfl) (s_skip (wn rfl rfl rfl rfl rfl) (s_pick1 (v := .bool true) (ej rfl rfl) ev_c (w0 rfl) (s_move (v := .bool true) (ej rfl rfl) (w0 rfl) (s_skip (wn rfl rfl rfl rfl rfl) (s_skip (wn rfl rfl rfl rfl rfl) (s_skip (wn rfl rfl rfl rfl rfl) (s_skip (wn rfl rfl rfl rfl rfl) (s_pick1 (v := .bool true) (ej rfl rfl) ev_c (w0 rfl) (c_done ?_)))))))))))
    refine n_then (c_cond1 (ej rfl rfl) (c_seq (c_reg (s_assign (v := .int .i64 40) ev_c (w0 rfl) (c_done (n_then (c_ret (r_then (r_block (r_then (ret1 (v := .int .i64 40) rfl rfl rfl ?_)))))))))))
    refine ⟨_,rfl,?_,(NewB.ext n3)⟩
    (refine congrArg (Value.int .i64) ?_; unfold ltB; first | (rw [if_pos (by omega)]; ((try simp only [*,decide_true,decide_false,if_true,if_false,Bool.and_true,Bool.true_and,Bool.false_and,Bool.and_false,Bool.not_true,Bool.not_false,Bool.false_eq_true,reduceIte,not_true_eq_false,not_false_eq_true]); first | done | rfl); done) | (rw [if_neg (by omega),if_pos (by omega)]; first | (((try simp only [*,decide_true,decide_false,if_true,if_false,Bool.and_true,Bool.true_and,Bool.false_and,Bool.and_false,Bool.not_true,Bool.not_false,Bool.false_eq_true,reduceIte,not_true_eq_false,not_false_eq_true]); first | done | rfl); done) | (rw [show decide (1 ≤ x.r) = false from decide_eq_false (by omega)]; simp only [Bool.and_false,Bool.false_and]; rfl) | (rw [show decide (x.r ≤ 6) = false from decide_eq_false (by omega)]; simp only [Bool.and_false,Bool.false_and]; rfl) | (rw [show decide ((x.a.args.length : Int) = 0) = false from decide_eq_false (by omega)]; simp only [Bool.and_false,Bool.false_and]; rfl) | (rw [show decide (1 ≤ x.r) = true from decide_eq_true (by omega),show decide (x.r ≤ 6) = true from decide_eq_true (by omega),show decide ((x.a.args.length : Int) = 0) = true from decide_eq_true (by omega)]; ((try simp only [*,decide_true,decide_false,if_true,if_false,Bool.and_true,Bool.true_and,Bool.false_and,Bool.and_false,Bool.not_true,Bool.not_false,Bool.false_eq_true,reduceIte,not_true_eq_false,not_false_eq_true]); first | done | rfl))) | (rw [if_neg (by omega),if_neg (by omega)]; rfl))
  refine c_cond0 (vb (ej rfl rfl) (decide_eq_false h24)) (c_skip (n_block (n_then (c_seq (c_reg (s_assign (v := .int .i64 40) ev_c (w0 rfl) (c_done (n_then (c_ret (ret1 (v := .int .i64 40) rfl rfl rfl ?_))))))))))
  refine ⟨_,rfl,?_,(NewB.ext n3)⟩
  (refine congrArg (Value.int .i64) ?_; unfold ltB; first | (rw [if_pos (by omega)]; ((try simp only [*,decide_true,decide_false,if_true,if_false,Bool.and_true,Bool.true_and,Bool.false_and,Bool.and_false,Bool.not_true,Bool.not_false,Bool.false_eq_true,reduceIte,not_true_eq_false,not_false_eq_true]); first | done | rfl); done) | (rw [if_neg (by omega),if_pos (by omega)]; first | (((try simp only [*,decide_true,decide_false,if_true,if_false,Bool.and_true,Bool.true_and,Bool.false_and,Bool.and_false,Bool.not_true,Bool.not_false,Bool.false_eq_true,reduceIte,not_true_eq_false,not_false_eq_true]); first | done | rfl); done) | (rw [show decide (1 ≤ x.r) = false from decide_eq_false (by omega)]; simp only [Bool.and_false,Bool.false_and]; rfl) | (rw [show decide (x.r ≤ 6) = false from decide_eq_false (by omega)]; simp only [Bool.and_false,Bool.false_and]; rfl) | (rw [show decide ((x.a.args.length : Int) = 0) = false from decide_eq_false (by omega)]; simp only [Bool.and_false,Bool.false_and]; rfl) | (rw [show decide (1 ≤ x.r) = true from decide_eq_true (by omega),show decide (x.r ≤ 6) = true from decide_eq_true (by omega),show decide ((x.a.args.length : Int) = 0) = true from decide_eq_true (by omega)]; ((try simp only [*,decide_true,decide_false,if_true,if_false,Bool.and_true,Bool.true_and,Bool.false_and,Bool.and_false,Bool.not_true,Bool.not_false,Bool.false_eq_true,reduceIte,not_true_eq_false,not_false_eq_true]); first | done | rfl))) | (rw [if_neg (by omega),if_neg (by omega)]; rfl))
end Go.Proofs.Dw

set_option linter.unusedVariables false
set_option linter.unusedSimpArgs false
set_option maxRecDepth 10000
namespace Go.Proofs.Dw
open Go Go.Wk Go.Proofs Go.Lib
attribute [local irreducible] Go.wpList Go.wpStill Go.wpQuiet Go.Code.wp Go.Calls
end Go.Proofs.Dw

set_option linter.unusedVariables false
set_option linter.unusedSimpArgs false
namespace Go.Wk
open Go Go.RowKit Go.Lib
/-- The table of comparisons. -/
def RelT (P : Program) (w : World) : Prop := w.var? P "pedigree/print.rels" = some #[.string ⟨#[]⟩, .string ⟨#[61]⟩, .string ⟨#[33, 61]⟩, .string ⟨#[60]⟩, .string ⟨#[60, 61]⟩, .string ⟨#[62]⟩, .string ⟨#[62, 61]⟩]
theorem RelT.ext {P : Program} {w w' : World} (h : RelT P w) (k : Ext w w') : RelT P w' := var_ext h k
theorem RelT.at_ {P : Program} {w : World} {g : Nat} {op : Int} (h : RelT P w) (hg : P.globalNamed "pedigree/print.rels" = some g) (ho : 1 ≤ op ∧ op ≤ 6) : w.cell? ⟨g, 0 + op.toNat * 1, none⟩ = some (.string (relW op)) := by
  refine var_cell h hg ?_
  have : op = 1 ∨ op = 2 ∨ op = 3 ∨ op = 4 ∨ op = 5 ∨ op = 6 := by omega
  rcases this with rfl | rfl | rfl | rfl | rfl | rfl <;> rfl
end Go.Wk

set_option linter.unusedVariables false
set_option linter.unusedSimpArgs false
set_option maxRecDepth 10000
namespace Go.Proofs.Dw
open Go Go.Wk Go.Proofs Go.Lib
attribute [local irreducible] Go.wpList Go.wpStill Go.wpQuiet Go.Code.wp Go.Calls
theorem F_ar158 : arrayT Tryd.prog 158 7 1 = true := by kernel_rfl
theorem F_gn4 : Tryd.prog.globalNamed "pedigree/print.rels" = some 4 := by kernel_rfl
theorem p_pos (x : Lt) (Aa A1 A2 : Option Addr) (ca c1 c2 : Nat) (g : Nat) (s0 : ByteArray) (wz : World) (w : World) (x0 : Ext wz w) (tb : Tabs Tryd.prog wz) (hb : BW 5 85 wz.heap.size w g s0) (ho : x.okc ca c1 c2) (hra : Row RT 4 wz Aa x.a.args) (hr1 : Row RE 6 wz A1 x.e1.kids) (hr2 : Row RE 6 wz A2 x.e2.kids) (hlt : ltB x = true) (tr : RelT Tryd.prog wz) (hs : s0.size + 1000000 ≤ 100000000000000) (hk : x.k = 1) :
    Rt Tryd.prog 92 #[.pointer (some ⟨g,0,none⟩),.agg #[.int .i8 x.k,.string x.a.p,.slice Aa x.a.args.length ca,.int .i8 x.r,.int .i8 x.e1.op,.string x.e1.t.v,.int .i8 x.e1.t.l.k,.int .i64 x.e1.t.l.n,.string x.e1.t.l.s,.slice A1 x.e1.kids.length c1,.int .i8 x.e2.op,.string x.e2.t.v,.int .i8 x.e2.t.l.k,.int .i64 x.e2.t.l.n,.string x.e2.t.l.s,.slice A2 x.e2.kids.length c2]] w fun v w' => v = .tuple #[] ∧ Wr 5 85 wz.heap.size g (s0 ++ ltW x) w w' := by
  refine enter Tryd.func92 rfl (l := [.pointer (some ⟨g,0,none⟩),.agg #[.int .i8 x.k,.string x.a.p,.slice Aa x.a.args.length ca,.int .i8 x.r,.int .i8 x.e1.op,.string x.e1.t.v,.int .i8 x.e1.t.l.k,.int .i64 x.e1.t.l.n,.string x.e1.t.l.s,.slice A1 x.e1.kids.length c1,.int .i8 x.e2.op,.string x.e2.t.v,.int .i8 x.e2.t.l.k,.int .i64 x.e2.t.l.n,.string x.e2.t.l.s,.slice A2 x.e2.kids.length c2]]) rfl Tryd.ntmps92 (Nat.le_of_ble_eq_true rfl) ?_
  have hB_ := Keep.size x0
  have hoa_ := Lt.okc.a ho
  have ho1_ := Lt.okc.e1 ho
  have ho2_ := Lt.okc.e2 ho
  have hl1_ := Ex.okc.l ho1_
  have hl2_ := Ex.okc.l ho2_
  have hc1_ := Ex.okc.c ho1_
  have hc2_ := Ex.okc.c ho2_
  have hla_ := At.okc.l hoa_
  have hca_ := At.okc.c hoa_
  have hpa_ := At.okc.p hoa_
  have hrz_ := relW_size x.r
  refine c_seq (c_reg (s_box (v := .agg #[.int .i8 x.k,.string x.a.p,.slice Aa x.a.args.length ca,.int .i8 x.r,.int .i8 x.e1.op,.string x.e1.t.v,.int .i8 x.e1.t.l.k,.int .i64 x.e1.t.l.n,.string x.e1.t.l.s,.slice A1 x.e1.kids.length c1,.int .i8 x.e2.op,.string x.e2.t.v,.int .i8 x.e2.t.l.k,.int .i64 x.e2.t.l.n,.string x.e2.t.l.s,.slice A2 x.e2.kids.length c2]) (cs := #[.int .i8 x.k,.string x.a.p,.slice Aa x.a.args.length ca,.int .i8 x.r,.int .i8 x.e1.op,.string x.e1.t.v,.int .i8 x.e1.t.l.k,.int .i64 x.e1.t.l.n,.string x.e1.t.l.s,.slice A1 x.e1.kids.length c1,.int .i8 x.e2.op,.string x.e2.t.v,.int .i8 x.e2.t.l.k,.int .i64 x.e2.t.l.n,.string x.e2.t.l.s,.slice A2 x.e2.kids.length c2]) (w0 rfl) (ej rfl rfl) rfl ?_))
  intro w2 g1 n3
  have ne_g1 : g1 ≠ g := by have a_ := NewB.eq n3; have b_ := BW.lt hb; omega
  refine c_done (n_then (c_reg (s_move (v := .pointer (some ⟨g,0,none⟩)) (ej rfl rfl) (w0 rfl) (s_field (off := 1) (o' := 1) F_f120_1 (ej rfl rfl) rfl (w0 rfl) (s_loadL (cs := [.string x.a.p,.slice Aa x.a.args.length ca]) F_m46 (ej rfl rfl) rfl rfl (blk_cells (NewB.blk n3) 1 rfl) (w0 rfl) (s_call F_e56 (w0 rfl) ev_f (m2 (ej rfl rfl) (ej rfl rfl)) (args := #[.pointer (some ⟨g,0,none⟩),.agg #[.string x.a.p,.slice Aa x.a.args.length ca]]) rfl (p_atom x.a Aa ca g (s0) wz _ (Ext.trans x0 (NewB.ext n3)) tb (BW.ext hb (NewB.ext n3)) hoa_ hra (lt_at hlt (by omega)) (by (try simp only [catL,ByteArray.size_append,z0,z4]); omega)) ?_))))))
  rintro _ w4 ⟨rfl,wr5⟩
  refine c_done (ret0 rfl ?_)
  exact ⟨_,rfl,rfl,Wr.cast (Wr.then_ (Wr.of_ext hb (NewB.ext n3) hB_) wr5) (by unfold ltW; first | (rw [if_pos (by omega)]; done) | (rw [if_neg (by omega),if_pos (by omega)]; simp only [catL,app_nil,app_assoc]; done) | (rw [if_neg (by omega),if_neg (by omega)]; simp only [catL,app_nil,app_assoc]; done))⟩
theorem p_not (x : Lt) (Aa A1 A2 : Option Addr) (ca c1 c2 : Nat) (g : Nat) (s0 : ByteArray) (wz : World) (w : World) (x0 : Ext wz w) (tb : Tabs Tryd.prog wz) (hb : BW 5 85 wz.heap.size w g s0) (ho : x.okc ca c1 c2) (hra : Row RT 4 wz Aa x.a.args) (hr1 : Row RE 6 wz A1 x.e1.kids) (hr2 : Row RE 6 wz A2 x.e2.kids) (hlt : ltB x = true) (tr : RelT Tryd.prog wz) (hs : s0.size + 1000000 ≤ 100000000000000) (hk : x.k = 2) :
    Rt Tryd.prog 93 #[.pointer (some ⟨g,0,none⟩),.agg #[.int .i8 x.k,.string x.a.p,.slice Aa x.a.args.length ca,.int .i8 x.r,.int .i8 x.e1.op,.string x.e1.t.v,.int .i8 x.e1.t.l.k,.int .i64 x.e1.t.l.n,.string x.e1.t.l.s,.slice A1 x.e1.kids.length c1,.int .i8 x.e2.op,.string x.e2.t.v,.int .i8 x.e2.t.l.k,.int .i64 x.e2.t.l.n,.string x.e2.t.l.s,.slice A2 x.e2.kids.length c2]] w fun v w' => v = .tuple #[] ∧ Wr 5 85 wz.heap.size g (s0 ++ ltW x) w w' := by
  refine enter Tryd.func93 rfl (l := [.pointer (some ⟨g,0,none⟩),.agg #[.int .i8 x.k,.string x.a.p,.slice Aa x.a.args.length ca,.int .i8 x.r,.int .i8 x.e1.op,.string x.e1.t.v,.int .i8 x.e1.t.l.k,.int .i64 x.e1.t.l.n,.string x.e1.t.l.s,.slice A1 x.e1.kids.length c1,.int .i8 x.e2.op,.string x.e2.t.v,.int .i8 x.e2.t.l.k,.int .i64 x.e2.t.l.n,.string x.e2.t.l.s,.slice A2 x.e2.kids.length c2]]) rfl Tryd.ntmps93 (Nat.le_of_ble_eq_true rfl) ?_
  have hB_ := Keep.size x0
  have hoa_ := Lt.okc.a ho
  have ho1_ := Lt.okc.e1 ho
  have ho2_ := Lt.okc.e2 ho
  have hl1_ := Ex.okc.l ho1_
  have hl2_ := Ex.okc.l ho2_
  have hc1_ := Ex.okc.c ho1_
  have hc2_ := Ex.okc.c ho2_
  have hla_ := At.okc.l hoa_
  have hca_ := At.okc.c hoa_
  have hpa_ := At.okc.p hoa_
  have hrz_ := relW_size x.r
  refine c_seq (c_reg (s_box (v := .agg #[.int .i8 x.k,.string x.a.p,.slice Aa x.a.args.length ca,.int .i8 x.r,.int .i8 x.e1.op,.string x.e1.t.v,.int .i8 x.e1.t.l.k,.int .i64 x.e1.t.l.n,.string x.e1.t.l.s,.slice A1 x.e1.kids.length c1,.int .i8 x.e2.op,.string x.e2.t.v,.int .i8 x.e2.t.l.k,.int .i64 x.e2.t.l.n,.string x.e2.t.l.s,.slice A2 x.e2.kids.length c2]) (cs := #[.int .i8 x.k,.string x.a.p,.slice Aa x.a.args.length ca,.int .i8 x.r,.int .i8 x.e1.op,.string x.e1.t.v,.int .i8 x.e1.t.l.k,.int .i64 x.e1.t.l.n,.string x.e1.t.l.s,.slice A1 x.e1.kids.length c1,.int .i8 x.e2.op,.string x.e2.t.v,.int .i8 x.e2.t.l.k,.int .i64 x.e2.t.l.n,.string x.e2.t.l.s,.slice A2 x.e2.kids.length c2]) (w0 rfl) (ej rfl rfl) rfl ?_))
  intro w2 g1 n3
  have ne_g1 : g1 ≠ g := by have a_ := NewB.eq n3; have b_ := BW.lt hb; omega
  refine c_done (n_then (c_seq (c_reg (s_move (v := .pointer (some ⟨g,0,none⟩)) (ej rfl rfl) (w0 rfl) (s_bslice (vs := [(0,.string (⟨#[110,111,116,32]⟩ : ByteArray))]) (cs := #[.string (⟨#[110,111,116,32]⟩ : ByteArray)]) (b1 ev_c) (bs122_1_0s (⟨#[110,111,116,32]⟩ : ByteArray)) (w0 rfl) ?_)))))
  intro w5 g4 n6
  have ne_g4 : g4 ≠ g := by have a_ := NewB.eq n6; have b_ := BW.lt (BW.ext hb (NewB.ext n3)); omega
  refine s_call F_e35 (w0 rfl) ev_f (m2 (ej rfl rfl) (ej rfl rfl)) (args := #[.pointer (some ⟨g,0,none⟩),.slice (some ⟨g4,0,none⟩) 1 1]) rfl (p_put 85 _ g g4 (s0) [(⟨#[110,111,116,32]⟩ : ByteArray)] _ (BW.ext (BW.ext hb (NewB.ext n3)) (NewB.ext n6)) (Nat.le_trans (Nat.le_trans hB_ (Keep.size (NewB.ext n3))) (Keep.size (NewB.ext n6))) (by decide) F_lies85 (NewB.blk n6) (by simp only [catL,ByteArray.size_append,z0,z1,z2,z3,z4,z5,z6]; omega) (by simp)) ?_
  rintro _ w7 ⟨rfl,wr8⟩
  refine c_done (n_then (c_reg (s_move (v := .pointer (some ⟨g,0,none⟩)) (ej rfl rfl) (w0 rfl) (s_field (off := 1) (o' := 1) F_f120_1 (ej rfl rfl) rfl (w0 rfl) (s_loadL (cs := [.string x.a.p,.slice Aa x.a.args.length ca]) F_m46 (ej rfl rfl) rfl rfl (blk_cells (Wr.blk wr8 (Ext.blk (NewB.ext n6) (NewB.blk n3)) (Or.inl (by decide)) ne_g1) 1 rfl) (w0 rfl) (s_call F_e56 (w0 rfl) ev_f (m2 (ej rfl rfl) (ej rfl rfl)) (args := #[.pointer (some ⟨g,0,none⟩),.agg #[.string x.a.p,.slice Aa x.a.args.length ca]]) rfl (p_atom x.a Aa ca g (s0 ++ (catL [(⟨#[110,111,116,32]⟩ : ByteArray)])) wz _ (Wr.after wr8 (Ext.trans (Ext.trans x0 (NewB.ext n3)) (NewB.ext n6)) rfl) tb (Wr.bw wr8) hoa_ hra (lt_at hlt (by omega)) (by (try simp only [catL,ByteArray.size_append,z0,z4]); omega)) ?_))))))
  rintro _ w9 ⟨rfl,wr10⟩
  refine c_done (ret0 rfl ?_)
  exact ⟨_,rfl,rfl,Wr.cast (Wr.then_ (Wr.then_ (Wr.of_ext hb (Ext.trans (NewB.ext n3) (NewB.ext n6)) hB_) wr8) wr10) (by unfold ltW; first | (rw [if_pos (by omega)]; done) | (rw [if_neg (by omega),if_pos (by omega)]; simp only [catL,app_nil,app_assoc]; done) | (rw [if_neg (by omega),if_neg (by omega)]; simp only [catL,app_nil,app_assoc]; done))⟩
theorem p_cmp (x : Lt) (Aa A1 A2 : Option Addr) (ca c1 c2 : Nat) (g : Nat) (s0 : ByteArray) (wz : World) (w : World) (x0 : Ext wz w) (tb : Tabs Tryd.prog wz) (hb : BW 5 85 wz.heap.size w g s0) (ho : x.okc ca c1 c2) (hra : Row RT 4 wz Aa x.a.args) (hr1 : Row RE 6 wz A1 x.e1.kids) (hr2 : Row RE 6 wz A2 x.e2.kids) (hlt : ltB x = true) (tr : RelT Tryd.prog wz) (hs : s0.size + 1000000 ≤ 100000000000000) (hk : x.k = 3) :
    Rt Tryd.prog 94 #[.pointer (some ⟨g,0,none⟩),.agg #[.int .i8 x.k,.string x.a.p,.slice Aa x.a.args.length ca,.int .i8 x.r,.int .i8 x.e1.op,.string x.e1.t.v,.int .i8 x.e1.t.l.k,.int .i64 x.e1.t.l.n,.string x.e1.t.l.s,.slice A1 x.e1.kids.length c1,.int .i8 x.e2.op,.string x.e2.t.v,.int .i8 x.e2.t.l.k,.int .i64 x.e2.t.l.n,.string x.e2.t.l.s,.slice A2 x.e2.kids.length c2]] w fun v w' => v = .tuple #[] ∧ Wr 5 85 wz.heap.size g (s0 ++ ltW x) w w' := by
  refine enter Tryd.func94 rfl (l := [.pointer (some ⟨g,0,none⟩),.agg #[.int .i8 x.k,.string x.a.p,.slice Aa x.a.args.length ca,.int .i8 x.r,.int .i8 x.e1.op,.string x.e1.t.v,.int .i8 x.e1.t.l.k,.int .i64 x.e1.t.l.n,.string x.e1.t.l.s,.slice A1 x.e1.kids.length c1,.int .i8 x.e2.op,.string x.e2.t.v,.int .i8 x.e2.t.l.k,.int .i64 x.e2.t.l.n,.string x.e2.t.l.s,.slice A2 x.e2.kids.length c2]]) rfl Tryd.ntmps94 (Nat.le_of_ble_eq_true rfl) ?_
  have hB_ := Keep.size x0
  have hoa_ := Lt.okc.a ho
  have ho1_ := Lt.okc.e1 ho
  have ho2_ := Lt.okc.e2 ho
  have hl1_ := Ex.okc.l ho1_
  have hl2_ := Ex.okc.l ho2_
  have hc1_ := Ex.okc.c ho1_
  have hc2_ := Ex.okc.c ho2_
  have hla_ := At.okc.l hoa_
  have hca_ := At.okc.c hoa_
  have hpa_ := At.okc.p hoa_
  have hrz_ := relW_size x.r
  have hcm_ := lt_cmp hlt (by omega) (by omega)
  obtain ⟨_,hr1_,hr6_,he1_,he2_⟩ := hcm_
  have hz1_ := exW_le (d := 8) (by decide) he1_ (Go.Wk.Row.ok hr1 (Ex.okc.t ho1_))
  have hz2_ := exW_le (d := 8) (by decide) he2_ (Go.Wk.Row.ok hr2 (Ex.okc.t ho2_))
  refine c_seq (c_reg (s_box (v := .agg #[.int .i8 x.k,.string x.a.p,.slice Aa x.a.args.length ca,.int .i8 x.r,.int .i8 x.e1.op,.string x.e1.t.v,.int .i8 x.e1.t.l.k,.int .i64 x.e1.t.l.n,.string x.e1.t.l.s,.slice A1 x.e1.kids.length c1,.int .i8 x.e2.op,.string x.e2.t.v,.int .i8 x.e2.t.l.k,.int .i64 x.e2.t.l.n,.string x.e2.t.l.s,.slice A2 x.e2.kids.length c2]) (cs := #[.int .i8 x.k,.string x.a.p,.slice Aa x.a.args.length ca,.int .i8 x.r,.int .i8 x.e1.op,.string x.e1.t.v,.int .i8 x.e1.t.l.k,.int .i64 x.e1.t.l.n,.string x.e1.t.l.s,.slice A1 x.e1.kids.length c1,.int .i8 x.e2.op,.string x.e2.t.v,.int .i8 x.e2.t.l.k,.int .i64 x.e2.t.l.n,.string x.e2.t.l.s,.slice A2 x.e2.kids.length c2]) (w0 rfl) (ej rfl rfl) rfl ?_))
  intro w2 g1 n3
  have ne_g1 : g1 ≠ g := by have a_ := NewB.eq n3; have b_ := BW.lt hb; omega
  refine c_done (n_then (c_seq (c_reg (s_move (v := .pointer (some ⟨g,0,none⟩)) (ej rfl rfl) (w0 rfl) (s_field (off := 4) (o' := 4) F_f120_3 (ej rfl rfl) rfl (w0 rfl) (s_loadL (cs := [.int .i8 x.e1.op,.string x.e1.t.v,.int .i8 x.e1.t.l.k,.int .i64 x.e1.t.l.n,.string x.e1.t.l.s,.slice A1 x.e1.kids.length c1]) F_m31 (ej rfl rfl) rfl rfl (blk_cells (NewB.blk n3) 4 rfl) (w0 rfl) (s_call F_e24 (w0 rfl) ev_f (m2 (ej rfl rfl) (ej rfl rfl)) (args := #[.pointer (some ⟨g,0,none⟩),.agg #[.int .i8 x.e1.op,.string x.e1.t.v,.int .i8 x.e1.t.l.k,.int .i64 x.e1.t.l.n,.string x.e1.t.l.s,.slice A1 x.e1.kids.length c1]]) rfl (p_expr g wz tb 8 x.e1 A1 c1 _ (s0) (by decide) (by assumption) ho1_ hr1 (Ext.trans x0 (NewB.ext n3)) (BW.ext hb (NewB.ext n3)) (by (try simp only [catL,ByteArray.size_append,z0,z1]); omega)) ?_)))))))
  rintro _ w4 ⟨rfl,wr5⟩
  refine c_done (n_then (c_seq (c_reg (s_move (v := .pointer (some ⟨g,0,none⟩)) (ej rfl rfl) (w0 rfl) (s_field (off := 3) (o' := 3) F_f120_2 (ej rfl rfl) rfl (w0 rfl) (s_load (v := .int .i8 x.r) F_o118 (ej rfl rfl) (cell_of_blk (i := 3) (Wr.blk wr5 (NewB.blk n3) (Or.inl (by decide)) ne_g1) rfl) (w0 rfl) (s_indexA (j := x.r.toNat) F_ar158 ev_g (ej rfl rfl) (by omega) (by omega) (w0 rfl) (s_load (v := .string (relW x.r)) F_o9 (ej rfl rfl) (RelT.at_ (RelT.ext tr (Wr.after wr5 (Ext.trans x0 (NewB.ext n3)) rfl)) F_gn4 (by omega)) (w0 rfl) (s_bslice (vs := [(0,.string (⟨#[32]⟩ : ByteArray)),(1,.string (relW x.r)),(2,.string (⟨#[32]⟩ : ByteArray))]) (cs := #[.string (⟨#[32]⟩ : ByteArray),.string (relW x.r),.string (⟨#[32]⟩ : ByteArray)]) (b3 ev_c (ej rfl rfl) ev_c) (bs122_3_0s_1s_2s (⟨#[32]⟩ : ByteArray) (relW x.r) (⟨#[32]⟩ : ByteArray)) (w0 rfl) ?_)))))))))
  intro w7 g6 n8
  have ne_g6 : g6 ≠ g := by have a_ := NewB.eq n8; have b_ := BW.lt (Wr.bw wr5); omega
  refine s_call F_e35 (w0 rfl) ev_f (m2 (ej rfl rfl) (ej rfl rfl)) (args := #[.pointer (some ⟨g,0,none⟩),.slice (some ⟨g6,0,none⟩) 3 3]) rfl (p_put 85 _ g g6 (s0 ++ (exW 8 x.e1)) [(⟨#[32]⟩ : ByteArray),relW x.r,(⟨#[32]⟩ : ByteArray)] _ (BW.ext (Wr.bw wr5) (NewB.ext n8)) (Nat.le_trans (Nat.le_trans (Nat.le_trans hB_ (Keep.size (NewB.ext n3))) (Wr.size wr5)) (Keep.size (NewB.ext n8))) (by decide) F_lies85 (NewB.blk n8) (by simp only [catL,ByteArray.size_append,z0,z1,z2,z3,z4,z5,z6]; omega) (by simp)) ?_
  rintro _ w9 ⟨rfl,wr10⟩
  refine c_done (n_then (c_reg (s_move (v := .pointer (some ⟨g,0,none⟩)) (ej rfl rfl) (w0 rfl) (s_field (off := 10) (o' := 10) F_f120_4 (ej rfl rfl) rfl (w0 rfl) (s_loadL (cs := [.int .i8 x.e2.op,.string x.e2.t.v,.int .i8 x.e2.t.l.k,.int .i64 x.e2.t.l.n,.string x.e2.t.l.s,.slice A2 x.e2.kids.length c2]) F_m31 (ej rfl rfl) rfl rfl (blk_cells (Wr.blk wr10 (Ext.blk (NewB.ext n8) (Wr.blk wr5 (NewB.blk n3) (Or.inl (by decide)) ne_g1)) (Or.inl (by decide)) ne_g1) 10 rfl) (w0 rfl) (s_call F_e24 (w0 rfl) ev_f (m2 (ej rfl rfl) (ej rfl rfl)) (args := #[.pointer (some ⟨g,0,none⟩),.agg #[.int .i8 x.e2.op,.string x.e2.t.v,.int .i8 x.e2.t.l.k,.int .i64 x.e2.t.l.n,.string x.e2.t.l.s,.slice A2 x.e2.kids.length c2]]) rfl (p_expr g wz tb 8 x.e2 A2 c2 _ (s0 ++ (exW 8 x.e1) ++ (catL [(⟨#[32]⟩ : ByteArray),relW x.r,(⟨#[32]⟩ : ByteArray)])) (by decide) (by assumption) ho2_ hr2 (Wr.after wr10 (Ext.trans (Wr.after wr5 (Ext.trans x0 (NewB.ext n3)) rfl) (NewB.ext n8)) rfl) (Wr.bw wr10) (by (try simp only [catL,ByteArray.size_append,z0,z1]); omega)) ?_))))))
  rintro _ w11 ⟨rfl,wr12⟩
  refine c_done (ret0 rfl ?_)
  exact ⟨_,rfl,rfl,Wr.cast (Wr.then_ (Wr.then_ (Wr.ext (Wr.then_ (Wr.of_ext hb (NewB.ext n3) hB_) wr5) (NewB.ext n8) hB_) wr10) wr12) (by unfold ltW; first | (rw [if_pos (by omega)]; done) | (rw [if_neg (by omega),if_pos (by omega)]; simp only [catL,app_nil,app_assoc]; done) | (rw [if_neg (by omega),if_neg (by omega)]; simp only [catL,app_nil,app_assoc]; done))⟩
end Go.Proofs.Dw

set_option linter.unusedVariables false
set_option linter.unusedSimpArgs false
set_option maxRecDepth 10000
namespace Go.Proofs.Dw
open Go Go.Wk Go.Proofs Go.Lib
attribute [local irreducible] Go.wpList Go.wpStill Go.wpQuiet Go.Code.wp Go.Calls
theorem F_ar147 : arrayT Tryd.prog 147 4 1 = true := by kernel_rfl
theorem F_e92 : enterable Tryd.prog 92 = true := by kernel_rfl
theorem F_e93 : enterable Tryd.prog 93 = true := by kernel_rfl
theorem F_e94 : enterable Tryd.prog 94 = true := by kernel_rfl
theorem F_m120 : many Tryd.prog 120 16 = true := by kernel_rfl
theorem F_o146 : one Tryd.prog 146 = true := by kernel_rfl
theorem F_sz147 : (Tryd.prog.info? 147).map (·.size) = some 4 := by kernel_rfl
theorem F_z147 : (Tryd.prog.info? 147).bind (·.zero) = some (.agg #[.nilFunc,.nilFunc,.nilFunc,.nilFunc]) := by kernel_rfl
theorem bd147_1f92_2f93_3f94 : ∀ w : World,(Instr.build 147 [(1,.func (.func 92) #[] #[]),(2,.func (.func 93) #[] #[]),(3,.func (.func 94) #[] #[])].toArray).run Tryd.prog w = .ok (.agg #[.nilFunc,.func (.func 92) #[] #[],.func (.func 93) #[] #[],.func (.func 94) #[] #[]]) w := by
  intros
  kernel_rfl
theorem p_literal1 (x : Lt) (Aa A1 A2 : Option Addr) (ca c1 c2 : Nat) (g : Nat) (s0 : ByteArray) (wz : World) (w : World) (x0 : Ext wz w) (tb : Tabs Tryd.prog wz) (hb : BW 5 85 wz.heap.size w g s0) (ho : x.okc ca c1 c2) (hra : Row RT 4 wz Aa x.a.args) (hr1 : Row RE 6 wz A1 x.e1.kids) (hr2 : Row RE 6 wz A2 x.e2.kids) (hlt : ltB x = true) (tr : RelT Tryd.prog wz) (hs : s0.size + 1000000 ≤ 100000000000000) (hk : x.k = 1) :
    Rt Tryd.prog 68 #[.pointer (some ⟨g,0,none⟩),.agg #[.int .i8 x.k,.string x.a.p,.slice Aa x.a.args.length ca,.int .i8 x.r,.int .i8 x.e1.op,.string x.e1.t.v,.int .i8 x.e1.t.l.k,.int .i64 x.e1.t.l.n,.string x.e1.t.l.s,.slice A1 x.e1.kids.length c1,.int .i8 x.e2.op,.string x.e2.t.v,.int .i8 x.e2.t.l.k,.int .i64 x.e2.t.l.n,.string x.e2.t.l.s,.slice A2 x.e2.kids.length c2]] w fun v w' => v = .tuple #[] ∧ Wr 5 85 wz.heap.size g (s0 ++ ltW x) w w' := by
  refine enter Tryd.func68 rfl (l := [.pointer (some ⟨g,0,none⟩),.agg #[.int .i8 x.k,.string x.a.p,.slice Aa x.a.args.length ca,.int .i8 x.r,.int .i8 x.e1.op,.string x.e1.t.v,.int .i8 x.e1.t.l.k,.int .i64 x.e1.t.l.n,.string x.e1.t.l.s,.slice A1 x.e1.kids.length c1,.int .i8 x.e2.op,.string x.e2.t.v,.int .i8 x.e2.t.l.k,.int .i64 x.e2.t.l.n,.string x.e2.t.l.s,.slice A2 x.e2.kids.length c2]]) rfl Tryd.ntmps68 (Nat.le_of_ble_eq_true rfl) ?_
  have hB_ := Keep.size x0
  have hoa_ := Lt.okc.a ho
  have ho1_ := Lt.okc.e1 ho
  have ho2_ := Lt.okc.e2 ho
  have hl1_ := Ex.okc.l ho1_
  have hl2_ := Ex.okc.l ho2_
  have hc1_ := Ex.okc.c ho1_
  have hc2_ := Ex.okc.c ho2_
  have hla_ := At.okc.l hoa_
  have hca_ := At.okc.c hoa_
  have hpa_ := At.okc.p hoa_
  refine c_seq (c_reg (s_box (v := .agg #[.int .i8 x.k,.string x.a.p,.slice Aa x.a.args.length ca,.int .i8 x.r,.int .i8 x.e1.op,.string x.e1.t.v,.int .i8 x.e1.t.l.k,.int .i64 x.e1.t.l.n,.string x.e1.t.l.s,.slice A1 x.e1.kids.length c1,.int .i8 x.e2.op,.string x.e2.t.v,.int .i8 x.e2.t.l.k,.int .i64 x.e2.t.l.n,.string x.e2.t.l.s,.slice A2 x.e2.kids.length c2]) (cs := #[.int .i8 x.k,.string x.a.p,.slice Aa x.a.args.length ca,.int .i8 x.r,.int .i8 x.e1.op,.string x.e1.t.v,.int .i8 x.e1.t.l.k,.int .i64 x.e1.t.l.n,.string x.e1.t.l.s,.slice A1 x.e1.kids.length c1,.int .i8 x.e2.op,.string x.e2.t.v,.int .i8 x.e2.t.l.k,.int .i64 x.e2.t.l.n,.string x.e2.t.l.s,.slice A2 x.e2.kids.length c2]) (w0 rfl) (ej rfl rfl) rfl ?_))
  intro w2 g1 n3
  have ne_g1 : g1 ≠ g := by have a_ := NewB.eq n3; have b_ := BW.lt hb; omega
  refine c_done (n_then (c_seq (c_reg (s_build (v := .agg #[.nilFunc,.func (.func 92) #[] #[],.func (.func 93) #[] #[],.func (.func 94) #[] #[]]) (vs := [(1,.func (.func 92) #[] #[]),(2,.func (.func 93) #[] #[]),(3,.func (.func 94) #[] #[])]) (b3 ev_f ev_f ev_f) (bd147_1f92_2f93_3f94) (w0 rfl) (s_alloc (cs := #[.nilFunc,.nilFunc,.nilFunc,.nilFunc]) (w0 rfl) F_z147 rfl ?_)))))
  intro w5 g4 n6
  have ne_g4 : g4 ≠ g := by have a_ := NewB.eq n6; have b_ := BW.lt (BW.ext hb (NewB.ext n3)); omega
  refine s_store (cs' := #[.nilFunc,.func (.func 92) #[] #[],.func (.func 93) #[] #[],.func (.func 94) #[] #[]]) F_sz147 (ej rfl rfl) (ej rfl rfl) (l := [.nilFunc,.func (.func 92) #[] #[],.func (.func 93) #[] #[],.func (.func 94) #[] #[]]) rfl rfl rfl (NewB.blk n6) (Nat.le_of_ble_eq_true rfl) rfl (w0 rfl) ?_
  intro w7 k8
  refine c_done (n_then (c_tail 6 mixed (by kernel_rfl) rfl rfl ?_))
  intro w9 x10
  refine t_val (v := .pointer (some ⟨g1,0,none⟩)) (w0 rfl) (r_field (off := 0) (o' := 0) F_f120_0 (ej rfl rfl) rfl) (t_val (v := .int .i8 x.k) (w0 rfl) (r_load (v := .int .i8 x.k) F_o117 (ej rfl rfl) (cell_of_blk (i := 0) (Ext.blk (Ext.trans (Keep.then_ (NewB.ext n6) (Wrote.keep k8) (fun i_ hi_ h_ => by have a_ := NewB.eq n6; have b_ := Keep.size (Ext.refl w2); omega)) x10) (NewB.blk n3)) rfl)) (t_val (v := .pointer (some ⟨g4,1,none⟩)) (w0 rfl) (r_indexA (j := 1) F_ar147 (ej rfl rfl) (ej rfl rfl) (by omega) (by decide)) (t_val (v := .func (.func 92) #[] #[]) (w0 rfl) (r_load (v := .func (.func 92) #[] #[]) F_o146 (ej rfl rfl) (cell_of_blk (i := 1) (Ext.blk x10 (Wrote.blk k8)) rfl)) (t_val (v := .pointer (some ⟨g,0,none⟩)) (w0 rfl) (r_move (v := .pointer (some ⟨g,0,none⟩)) (ej rfl rfl)) (t_val (v := .agg #[.int .i8 x.k,.string x.a.p,.slice Aa x.a.args.length ca,.int .i8 x.r,.int .i8 x.e1.op,.string x.e1.t.v,.int .i8 x.e1.t.l.k,.int .i64 x.e1.t.l.n,.string x.e1.t.l.s,.slice A1 x.e1.kids.length c1,.int .i8 x.e2.op,.string x.e2.t.v,.int .i8 x.e2.t.l.k,.int .i64 x.e2.t.l.n,.string x.e2.t.l.s,.slice A2 x.e2.kids.length c2]) (w0 rfl) (r_loadL (cs := [.int .i8 x.k,.string x.a.p,.slice Aa x.a.args.length ca,.int .i8 x.r,.int .i8 x.e1.op,.string x.e1.t.v,.int .i8 x.e1.t.l.k,.int .i64 x.e1.t.l.n,.string x.e1.t.l.s,.slice A1 x.e1.kids.length c1,.int .i8 x.e2.op,.string x.e2.t.v,.int .i8 x.e2.t.l.k,.int .i64 x.e2.t.l.n,.string x.e2.t.l.s,.slice A2 x.e2.kids.length c2]) F_m120 (ej rfl rfl) rfl rfl (blk_cells (Ext.blk (Ext.trans (Keep.then_ (NewB.ext n6) (Wrote.keep k8) (fun i_ hi_ h_ => by have a_ := NewB.eq n6; have b_ := Keep.size (Ext.refl w2); omega)) x10) (NewB.blk n3)) 0 rfl)) (t_done (s_call F_e92 (w0 rfl) (ej rfl rfl) (m2 (ej rfl rfl) (ej rfl rfl)) (args := #[.pointer (some ⟨g,0,none⟩),.agg #[.int .i8 x.k,.string x.a.p,.slice Aa x.a.args.length ca,.int .i8 x.r,.int .i8 x.e1.op,.string x.e1.t.v,.int .i8 x.e1.t.l.k,.int .i64 x.e1.t.l.n,.string x.e1.t.l.s,.slice A1 x.e1.kids.length c1,.int .i8 x.e2.op,.string x.e2.t.v,.int .i8 x.e2.t.l.k,.int .i64 x.e2.t.l.n,.string x.e2.t.l.s,.slice A2 x.e2.kids.length c2]]) rfl (p_pos x Aa A1 A2 ca c1 c2 g (s0) wz _ (Ext.trans (Keep.then_ (Ext.trans (Ext.trans x0 (NewB.ext n3)) (NewB.ext n6)) (Wrote.keep k8) (fun i_ hi_ h_ => by have a_ := NewB.eq n6; have b_ := Keep.size (Ext.trans x0 (NewB.ext n3)); omega)) x10) tb (BW.ext hb (Ext.trans (Keep.then_ (Ext.trans (NewB.ext n3) (NewB.ext n6)) (Wrote.keep k8) (fun i_ hi_ h_ => by have a_ := NewB.eq n6; have b_ := Keep.size (NewB.ext n3); omega)) x10)) ho hra hr1 hr2 (by assumption) tr (by (try simp only [ByteArray.size_append,z0]); omega) hk) ?_)))))))
  rintro _ w11 ⟨rfl,wr12⟩
  refine c_done (ret0 rfl ?_)
  exact ⟨_,rfl,rfl,Wr.cast (Wr.then_ (Wr.of_ext hb (Ext.trans (Keep.then_ (Ext.trans (NewB.ext n3) (NewB.ext n6)) (Wrote.keep k8) (fun i_ hi_ h_ => by have a_ := NewB.eq n6; have b_ := Keep.size (NewB.ext n3); omega)) x10) hB_) wr12) (rfl)⟩
theorem p_literal2 (x : Lt) (Aa A1 A2 : Option Addr) (ca c1 c2 : Nat) (g : Nat) (s0 : ByteArray) (wz : World) (w : World) (x0 : Ext wz w) (tb : Tabs Tryd.prog wz) (hb : BW 5 85 wz.heap.size w g s0) (ho : x.okc ca c1 c2) (hra : Row RT 4 wz Aa x.a.args) (hr1 : Row RE 6 wz A1 x.e1.kids) (hr2 : Row RE 6 wz A2 x.e2.kids) (hlt : ltB x = true) (tr : RelT Tryd.prog wz) (hs : s0.size + 1000000 ≤ 100000000000000) (hk : x.k = 2) :
    Rt Tryd.prog 68 #[.pointer (some ⟨g,0,none⟩),.agg #[.int .i8 x.k,.string x.a.p,.slice Aa x.a.args.length ca,.int .i8 x.r,.int .i8 x.e1.op,.string x.e1.t.v,.int .i8 x.e1.t.l.k,.int .i64 x.e1.t.l.n,.string x.e1.t.l.s,.slice A1 x.e1.kids.length c1,.int .i8 x.e2.op,.string x.e2.t.v,.int .i8 x.e2.t.l.k,.int .i64 x.e2.t.l.n,.string x.e2.t.l.s,.slice A2 x.e2.kids.length c2]] w fun v w' => v = .tuple #[] ∧ Wr 5 85 wz.heap.size g (s0 ++ ltW x) w w' := by
  refine enter Tryd.func68 rfl (l := [.pointer (some ⟨g,0,none⟩),.agg #[.int .i8 x.k,.string x.a.p,.slice Aa x.a.args.length ca,.int .i8 x.r,.int .i8 x.e1.op,.string x.e1.t.v,.int .i8 x.e1.t.l.k,.int .i64 x.e1.t.l.n,.string x.e1.t.l.s,.slice A1 x.e1.kids.length c1,.int .i8 x.e2.op,.string x.e2.t.v,.int .i8 x.e2.t.l.k,.int .i64 x.e2.t.l.n,.string x.e2.t.l.s,.slice A2 x.e2.kids.length c2]]) rfl Tryd.ntmps68 (Nat.le_of_ble_eq_true rfl) ?_
  have hB_ := Keep.size x0
  have hoa_ := Lt.okc.a ho
  have ho1_ := Lt.okc.e1 ho
  have ho2_ := Lt.okc.e2 ho
  have hl1_ := Ex.okc.l ho1_
  have hl2_ := Ex.okc.l ho2_
  have hc1_ := Ex.okc.c ho1_
  have hc2_ := Ex.okc.c ho2_
  have hla_ := At.okc.l hoa_
  have hca_ := At.okc.c hoa_
  have hpa_ := At.okc.p hoa_
  refine c_seq (c_reg (s_box (v := .agg #[.int .i8 x.k,.string x.a.p,.slice Aa x.a.args.length ca,.int .i8 x.r,.int .i8 x.e1.op,.string x.e1.t.v,.int .i8 x.e1.t.l.k,.int .i64 x.e1.t.l.n,.string x.e1.t.l.s,.slice A1 x.e1.kids.length c1,.int .i8 x.e2.op,.string x.e2.t.v,.int .i8 x.e2.t.l.k,.int .i64 x.e2.t.l.n,.string x.e2.t.l.s,.slice A2 x.e2.kids.length c2]) (cs := #[.int .i8 x.k,.string x.a.p,.slice Aa x.a.args.length ca,.int .i8 x.r,.int .i8 x.e1.op,.string x.e1.t.v,.int .i8 x.e1.t.l.k,.int .i64 x.e1.t.l.n,.string x.e1.t.l.s,.slice A1 x.e1.kids.length c1,.int .i8 x.e2.op,.string x.e2.t.v,.int .i8 x.e2.t.l.k,.int .i64 x.e2.t.l.n,.string x.e2.t.l.s,.slice A2 x.e2.kids.length c2]) (w0 rfl) (ej rfl rfl) rfl ?_))
  intro w2 g1 n3
  have ne_g1 : g1 ≠ g := by have a_ := NewB.eq n3; have b_ := BW.lt hb; omega
  refine c_done (n_then (c_seq (c_reg (s_build (v := .agg #[.nilFunc,.func (.func 92) #[] #[],.func (.func 93) #[] #[],.func (.func 94) #[] #[]]) (vs := [(1,.func (.func 92) #[] #[]),(2,.func (.func 93) #[] #[]),(3,.func (.func 94) #[] #[])]) (b3 ev_f ev_f ev_f) (bd147_1f92_2f93_3f94) (w0 rfl) (s_alloc (cs := #[.nilFunc,.nilFunc,.nilFunc,.nilFunc]) (w0 rfl) F_z147 rfl ?_)))))
  intro w5 g4 n6
  have ne_g4 : g4 ≠ g := by have a_ := NewB.eq n6; have b_ := BW.lt (BW.ext hb (NewB.ext n3)); omega
  refine s_store (cs' := #[.nilFunc,.func (.func 92) #[] #[],.func (.func 93) #[] #[],.func (.func 94) #[] #[]]) F_sz147 (ej rfl rfl) (ej rfl rfl) (l := [.nilFunc,.func (.func 92) #[] #[],.func (.func 93) #[] #[],.func (.func 94) #[] #[]]) rfl rfl rfl (NewB.blk n6) (Nat.le_of_ble_eq_true rfl) rfl (w0 rfl) ?_
  intro w7 k8
  refine c_done (n_then (c_tail 6 mixed (by kernel_rfl) rfl rfl ?_))
  intro w9 x10
  refine t_val (v := .pointer (some ⟨g1,0,none⟩)) (w0 rfl) (r_field (off := 0) (o' := 0) F_f120_0 (ej rfl rfl) rfl) (t_val (v := .int .i8 x.k) (w0 rfl) (r_load (v := .int .i8 x.k) F_o117 (ej rfl rfl) (cell_of_blk (i := 0) (Ext.blk (Ext.trans (Keep.then_ (NewB.ext n6) (Wrote.keep k8) (fun i_ hi_ h_ => by have a_ := NewB.eq n6; have b_ := Keep.size (Ext.refl w2); omega)) x10) (NewB.blk n3)) rfl)) (t_val (v := .pointer (some ⟨g4,2,none⟩)) (w0 rfl) (r_indexA (j := 2) F_ar147 (ej rfl rfl) (ej rfl rfl) (by omega) (by decide)) (t_val (v := .func (.func 93) #[] #[]) (w0 rfl) (r_load (v := .func (.func 93) #[] #[]) F_o146 (ej rfl rfl) (cell_of_blk (i := 2) (Ext.blk x10 (Wrote.blk k8)) rfl)) (t_val (v := .pointer (some ⟨g,0,none⟩)) (w0 rfl) (r_move (v := .pointer (some ⟨g,0,none⟩)) (ej rfl rfl)) (t_val (v := .agg #[.int .i8 x.k,.string x.a.p,.slice Aa x.a.args.length ca,.int .i8 x.r,.int .i8 x.e1.op,.string x.e1.t.v,.int .i8 x.e1.t.l.k,.int .i64 x.e1.t.l.n,.string x.e1.t.l.s,.slice A1 x.e1.kids.length c1,.int .i8 x.e2.op,.string x.e2.t.v,.int .i8 x.e2.t.l.k,.int .i64 x.e2.t.l.n,.string x.e2.t.l.s,.slice A2 x.e2.kids.length c2]) (w0 rfl) (r_loadL (cs := [.int .i8 x.k,.string x.a.p,.slice Aa x.a.args.length ca,.int .i8 x.r,.int .i8 x.e1.op,.string x.e1.t.v,.int .i8 x.e1.t.l.k,.int .i64 x.e1.t.l.n,.string x.e1.t.l.s,.slice A1 x.e1.kids.length c1,.int .i8 x.e2.op,.string x.e2.t.v,.int .i8 x.e2.t.l.k,.int .i64 x.e2.t.l.n,.string x.e2.t.l.s,.slice A2 x.e2.kids.length c2]) F_m120 (ej rfl rfl) rfl rfl (blk_cells (Ext.blk (Ext.trans (Keep.then_ (NewB.ext n6) (Wrote.keep k8) (fun i_ hi_ h_ => by have a_ := NewB.eq n6; have b_ := Keep.size (Ext.refl w2); omega)) x10) (NewB.blk n3)) 0 rfl)) (t_done (s_call F_e93 (w0 rfl) (ej rfl rfl) (m2 (ej rfl rfl) (ej rfl rfl)) (args := #[.pointer (some ⟨g,0,none⟩),.agg #[.int .i8 x.k,.string x.a.p,.slice Aa x.a.args.length ca,.int .i8 x.r,.int .i8 x.e1.op,.string x.e1.t.v,.int .i8 x.e1.t.l.k,.int .i64 x.e1.t.l.n,.string x.e1.t.l.s,.slice A1 x.e1.kids.length c1,.int .i8 x.e2.op,.string x.e2.t.v,.int .i8 x.e2.t.l.k,.int .i64 x.e2.t.l.n,.string x.e2.t.l.s,.slice A2 x.e2.kids.length c2]]) rfl (p_not x Aa A1 A2 ca c1 c2 g (s0) wz _ (Ext.trans (Keep.then_ (Ext.trans (Ext.trans x0 (NewB.ext n3)) (NewB.ext n6)) (Wrote.keep k8) (fun i_ hi_ h_ => by have a_ := NewB.eq n6; have b_ := Keep.size (Ext.trans x0 (NewB.ext n3)); omega)) x10) tb (BW.ext hb (Ext.trans (Keep.then_ (Ext.trans (NewB.ext n3) (NewB.ext n6)) (Wrote.keep k8) (fun i_ hi_ h_ => by have a_ := NewB.eq n6; have b_ := Keep.size (NewB.ext n3); omega)) x10)) ho hra hr1 hr2 (by assumption) tr (by (try simp only [ByteArray.size_append,z0]); omega) hk) ?_)))))))
  rintro _ w11 ⟨rfl,wr12⟩
  refine c_done (ret0 rfl ?_)
  exact ⟨_,rfl,rfl,Wr.cast (Wr.then_ (Wr.of_ext hb (Ext.trans (Keep.then_ (Ext.trans (NewB.ext n3) (NewB.ext n6)) (Wrote.keep k8) (fun i_ hi_ h_ => by have a_ := NewB.eq n6; have b_ := Keep.size (NewB.ext n3); omega)) x10) hB_) wr12) (rfl)⟩
theorem p_literal3 (x : Lt) (Aa A1 A2 : Option Addr) (ca c1 c2 : Nat) (g : Nat) (s0 : ByteArray) (wz : World) (w : World) (x0 : Ext wz w) (tb : Tabs Tryd.prog wz) (hb : BW 5 85 wz.heap.size w g s0) (ho : x.okc ca c1 c2) (hra : Row RT 4 wz Aa x.a.args) (hr1 : Row RE 6 wz A1 x.e1.kids) (hr2 : Row RE 6 wz A2 x.e2.kids) (hlt : ltB x = true) (tr : RelT Tryd.prog wz) (hs : s0.size + 1000000 ≤ 100000000000000) (hk : x.k = 3) :
    Rt Tryd.prog 68 #[.pointer (some ⟨g,0,none⟩),.agg #[.int .i8 x.k,.string x.a.p,.slice Aa x.a.args.length ca,.int .i8 x.r,.int .i8 x.e1.op,.string x.e1.t.v,.int .i8 x.e1.t.l.k,.int .i64 x.e1.t.l.n,.string x.e1.t.l.s,.slice A1 x.e1.kids.length c1,.int .i8 x.e2.op,.string x.e2.t.v,.int .i8 x.e2.t.l.k,.int .i64 x.e2.t.l.n,.string x.e2.t.l.s,.slice A2 x.e2.kids.length c2]] w fun v w' => v = .tuple #[] ∧ Wr 5 85 wz.heap.size g (s0 ++ ltW x) w w' := by
  refine enter Tryd.func68 rfl (l := [.pointer (some ⟨g,0,none⟩),.agg #[.int .i8 x.k,.string x.a.p,.slice Aa x.a.args.length ca,.int .i8 x.r,.int .i8 x.e1.op,.string x.e1.t.v,.int .i8 x.e1.t.l.k,.int .i64 x.e1.t.l.n,.string x.e1.t.l.s,.slice A1 x.e1.kids.length c1,.int .i8 x.e2.op,.string x.e2.t.v,.int .i8 x.e2.t.l.k,.int .i64 x.e2.t.l.n,.string x.e2.t.l.s,.slice A2 x.e2.kids.length c2]]) rfl Tryd.ntmps68 (Nat.le_of_ble_eq_true rfl) ?_
  have hB_ := Keep.size x0
  have hoa_ := Lt.okc.a ho
  have ho1_ := Lt.okc.e1 ho
  have ho2_ := Lt.okc.e2 ho
  have hl1_ := Ex.okc.l ho1_
  have hl2_ := Ex.okc.l ho2_
  have hc1_ := Ex.okc.c ho1_
  have hc2_ := Ex.okc.c ho2_
  have hla_ := At.okc.l hoa_
  have hca_ := At.okc.c hoa_
  have hpa_ := At.okc.p hoa_
  refine c_seq (c_reg (s_box (v := .agg #[.int .i8 x.k,.string x.a.p,.slice Aa x.a.args.length ca,.int .i8 x.r,.int .i8 x.e1.op,.string x.e1.t.v,.int .i8 x.e1.t.l.k,.int .i64 x.e1.t.l.n,.string x.e1.t.l.s,.slice A1 x.e1.kids.length c1,.int .i8 x.e2.op,.string x.e2.t.v,.int .i8 x.e2.t.l.k,.int .i64 x.e2.t.l.n,.string x.e2.t.l.s,.slice A2 x.e2.kids.length c2]) (cs := #[.int .i8 x.k,.string x.a.p,.slice Aa x.a.args.length ca,.int .i8 x.r,.int .i8 x.e1.op,.string x.e1.t.v,.int .i8 x.e1.t.l.k,.int .i64 x.e1.t.l.n,.string x.e1.t.l.s,.slice A1 x.e1.kids.length c1,.int .i8 x.e2.op,.string x.e2.t.v,.int .i8 x.e2.t.l.k,.int .i64 x.e2.t.l.n,.string x.e2.t.l.s,.slice A2 x.e2.kids.length c2]) (w0 rfl) (ej rfl rfl) rfl ?_))
  intro w2 g1 n3
  have ne_g1 : g1 ≠ g := by have a_ := NewB.eq n3; have b_ := BW.lt hb; omega
  refine c_done (n_then (c_seq (c_reg (s_build (v := .agg #[.nilFunc,.func (.func 92) #[] #[],.func (.func 93) #[] #[],.func (.func 94) #[] #[]]) (vs := [(1,.func (.func 92) #[] #[]),(2,.func (.func 93) #[] #[]),(3,.func (.func 94) #[] #[])]) (b3 ev_f ev_f ev_f) (bd147_1f92_2f93_3f94) (w0 rfl) (s_alloc (cs := #[.nilFunc,.nilFunc,.nilFunc,.nilFunc]) (w0 rfl) F_z147 rfl ?_)))))
  intro w5 g4 n6
  have ne_g4 : g4 ≠ g := by have a_ := NewB.eq n6; have b_ := BW.lt (BW.ext hb (NewB.ext n3)); omega
  refine s_store (cs' := #[.nilFunc,.func (.func 92) #[] #[],.func (.func 93) #[] #[],.func (.func 94) #[] #[]]) F_sz147 (ej rfl rfl) (ej rfl rfl) (l := [.nilFunc,.func (.func 92) #[] #[],.func (.func 93) #[] #[],.func (.func 94) #[] #[]]) rfl rfl rfl (NewB.blk n6) (Nat.le_of_ble_eq_true rfl) rfl (w0 rfl) ?_
  intro w7 k8
  refine c_done (n_then (c_tail 6 mixed (by kernel_rfl) rfl rfl ?_))
  intro w9 x10
  refine t_val (v := .pointer (some ⟨g1,0,none⟩)) (w0 rfl) (r_field (off := 0) (o' := 0) F_f120_0 (ej rfl rfl) rfl) (t_val (v := .int .i8 x.k) (w0 rfl) (r_load (v := .int .i8 x.k) F_o117 (ej rfl rfl) (cell_of_blk (i := 0) (Ext.blk (Ext.trans (Keep.then_ (NewB.ext n6) (Wrote.keep k8) (fun i_ hi_ h_ => by have a_ := NewB.eq n6; have b_ := Keep.size (Ext.refl w2); omega)) x10) (NewB.blk n3)) rfl)) (t_val (v := .pointer (some ⟨g4,3,none⟩)) (w0 rfl) (r_indexA (j := 3) F_ar147 (ej rfl rfl) (ej rfl rfl) (by omega) (by decide)) (t_val (v := .func (.func 94) #[] #[]) (w0 rfl) (r_load (v := .func (.func 94) #[] #[]) F_o146 (ej rfl rfl) (cell_of_blk (i := 3) (Ext.blk x10 (Wrote.blk k8)) rfl)) (t_val (v := .pointer (some ⟨g,0,none⟩)) (w0 rfl) (r_move (v := .pointer (some ⟨g,0,none⟩)) (ej rfl rfl)) (t_val (v := .agg #[.int .i8 x.k,.string x.a.p,.slice Aa x.a.args.length ca,.int .i8 x.r,.int .i8 x.e1.op,.string x.e1.t.v,.int .i8 x.e1.t.l.k,.int .i64 x.e1.t.l.n,.string x.e1.t.l.s,.slice A1 x.e1.kids.length c1,.int .i8 x.e2.op,.string x.e2.t.v,.int .i8 x.e2.t.l.k,.int .i64 x.e2.t.l.n,.string x.e2.t.l.s,.slice A2 x.e2.kids.length c2]) (w0 rfl) (r_loadL (cs := [.int .i8 x.k,.string x.a.p,.slice Aa x.a.args.length ca,.int .i8 x.r,.int .i8 x.e1.op,.string x.e1.t.v,.int .i8 x.e1.t.l.k,.int .i64 x.e1.t.l.n,.string x.e1.t.l.s,.slice A1 x.e1.kids.length c1,.int .i8 x.e2.op,.string x.e2.t.v,.int .i8 x.e2.t.l.k,.int .i64 x.e2.t.l.n,.string x.e2.t.l.s,.slice A2 x.e2.kids.length c2]) F_m120 (ej rfl rfl) rfl rfl (blk_cells (Ext.blk (Ext.trans (Keep.then_ (NewB.ext n6) (Wrote.keep k8) (fun i_ hi_ h_ => by have a_ := NewB.eq n6; have b_ := Keep.size (Ext.refl w2); omega)) x10) (NewB.blk n3)) 0 rfl)) (t_done (s_call F_e94 (w0 rfl) (ej rfl rfl) (m2 (ej rfl rfl) (ej rfl rfl)) (args := #[.pointer (some ⟨g,0,none⟩),.agg #[.int .i8 x.k,.string x.a.p,.slice Aa x.a.args.length ca,.int .i8 x.r,.int .i8 x.e1.op,.string x.e1.t.v,.int .i8 x.e1.t.l.k,.int .i64 x.e1.t.l.n,.string x.e1.t.l.s,.slice A1 x.e1.kids.length c1,.int .i8 x.e2.op,.string x.e2.t.v,.int .i8 x.e2.t.l.k,.int .i64 x.e2.t.l.n,.string x.e2.t.l.s,.slice A2 x.e2.kids.length c2]]) rfl (p_cmp x Aa A1 A2 ca c1 c2 g (s0) wz _ (Ext.trans (Keep.then_ (Ext.trans (Ext.trans x0 (NewB.ext n3)) (NewB.ext n6)) (Wrote.keep k8) (fun i_ hi_ h_ => by have a_ := NewB.eq n6; have b_ := Keep.size (Ext.trans x0 (NewB.ext n3)); omega)) x10) tb (BW.ext hb (Ext.trans (Keep.then_ (Ext.trans (NewB.ext n3) (NewB.ext n6)) (Wrote.keep k8) (fun i_ hi_ h_ => by have a_ := NewB.eq n6; have b_ := Keep.size (NewB.ext n3); omega)) x10)) ho hra hr1 hr2 (by assumption) tr (by (try simp only [ByteArray.size_append,z0]); omega) hk) ?_)))))))
  rintro _ w11 ⟨rfl,wr12⟩
  refine c_done (ret0 rfl ?_)
  exact ⟨_,rfl,rfl,Wr.cast (Wr.then_ (Wr.of_ext hb (Ext.trans (Keep.then_ (Ext.trans (NewB.ext n3) (NewB.ext n6)) (Wrote.keep k8) (fun i_ hi_ h_ => by have a_ := NewB.eq n6; have b_ := Keep.size (NewB.ext n3); omega)) x10) hB_) wr12) (rfl)⟩
theorem p_literal (x : Lt) (Aa A1 A2 : Option Addr) (ca c1 c2 : Nat) (g : Nat) (s0 : ByteArray) (wz : World) (w : World) (x0 : Ext wz w) (tb : Tabs Tryd.prog wz) (hb : BW 5 85 wz.heap.size w g s0) (ho : x.okc ca c1 c2) (hra : Row RT 4 wz Aa x.a.args) (hr1 : Row RE 6 wz A1 x.e1.kids) (hr2 : Row RE 6 wz A2 x.e2.kids) (hlt : ltB x = true) (tr : RelT Tryd.prog wz) (hs : s0.size + 1000000 ≤ 100000000000000) : Rt Tryd.prog 68 #[.pointer (some ⟨g,0,none⟩),.agg #[.int .i8 x.k,.string x.a.p,.slice Aa x.a.args.length ca,.int .i8 x.r,.int .i8 x.e1.op,.string x.e1.t.v,.int .i8 x.e1.t.l.k,.int .i64 x.e1.t.l.n,.string x.e1.t.l.s,.slice A1 x.e1.kids.length c1,.int .i8 x.e2.op,.string x.e2.t.v,.int .i8 x.e2.t.l.k,.int .i64 x.e2.t.l.n,.string x.e2.t.l.s,.slice A2 x.e2.kids.length c2]] w fun v w' => v = .tuple #[] ∧ Wr 5 85 wz.heap.size g (s0 ++ ltW x) w w' := by
  by_cases h1 : x.k = 1
  · exact p_literal1 x Aa A1 A2 ca c1 c2 g s0 wz w x0 tb hb ho hra hr1 hr2 hlt tr hs h1
  by_cases h2 : x.k = 2
  · exact p_literal2 x Aa A1 A2 ca c1 c2 g s0 wz w x0 tb hb ho hra hr1 hr2 hlt tr hs h2
  exact p_literal3 x Aa A1 A2 ca c1 c2 g s0 wz w x0 tb hb ho hra hr1 hr2 hlt tr hs (lt_cmp hlt h1 h2).1
end Go.Proofs.Dw

set_option linter.unusedVariables false
set_option linter.unusedSimpArgs false
set_option maxRecDepth 10000
namespace Go.Proofs.Dw
open Go Go.Wk Go.Proofs Go.Lib
attribute [local irreducible] Go.wpList Go.wpStill Go.wpQuiet Go.Code.wp Go.Calls
end Go.Proofs.Dw

set_option linter.unusedVariables false
set_option linter.unusedSimpArgs false
set_option maxRecDepth 10000
namespace Go.Proofs.Dw
open Go Go.Wk Go.Proofs Go.Lib
attribute [local irreducible] Go.wpList Go.wpStill Go.wpQuiet Go.Code.wp Go.Calls
theorem l_literalParts (x : Lt) (Aa A1 A2 : Option Addr) (ca c1 c2 : Nat) (L : Nat) (w : World) (ho : x.okc ca c1 c2) (hra : Row RT 4 w Aa x.a.args) (hr1 : Row RE 6 w A1 x.e1.kids) (hr2 : Row RE 6 w A2 x.e2.kids) (hL : L ≤ 1048576) :
    Rt Tryd.prog 86 #[.agg #[.int .i8 x.k,.string x.a.p,.slice Aa x.a.args.length ca,.int .i8 x.r,.int .i8 x.e1.op,.string x.e1.t.v,.int .i8 x.e1.t.l.k,.int .i64 x.e1.t.l.n,.string x.e1.t.l.s,.slice A1 x.e1.kids.length c1,.int .i8 x.e2.op,.string x.e2.t.v,.int .i8 x.e2.t.l.k,.int .i64 x.e2.t.l.n,.string x.e2.t.l.s,.slice A2 x.e2.kids.length c2],.int .i64 ((L : Nat) : Int)] w fun v w' => (∃ z : Nat,z ≤ L + 1 ∧ v = .int .i64 ((z : Nat) : Int)) ∧ Ext w w' := by
  refine enter Tryd.func86 rfl (l := [.agg #[.int .i8 x.k,.string x.a.p,.slice Aa x.a.args.length ca,.int .i8 x.r,.int .i8 x.e1.op,.string x.e1.t.v,.int .i8 x.e1.t.l.k,.int .i64 x.e1.t.l.n,.string x.e1.t.l.s,.slice A1 x.e1.kids.length c1,.int .i8 x.e2.op,.string x.e2.t.v,.int .i8 x.e2.t.l.k,.int .i64 x.e2.t.l.n,.string x.e2.t.l.s,.slice A2 x.e2.kids.length c2],.int .i64 ((L : Nat) : Int)]) rfl Tryd.ntmps86 (Nat.le_of_ble_eq_true rfl) ?_
  have hoa_ := Lt.okc.a ho
  have ho1_ := Lt.okc.e1 ho
  have ho2_ := Lt.okc.e2 ho
  have hl1_ := Ex.okc.l ho1_
  have hl2_ := Ex.okc.l ho2_
  have hc1_ := Ex.okc.c ho1_
  have hc2_ := Ex.okc.c ho2_
  have hla_ := At.okc.l hoa_
  have hca_ := At.okc.c hoa_
  have hpa_ := At.okc.p hoa_
  refine c_seq (c_reg (s_box (v := .agg #[.int .i8 x.k,.string x.a.p,.slice Aa x.a.args.length ca,.int .i8 x.r,.int .i8 x.e1.op,.string x.e1.t.v,.int .i8 x.e1.t.l.k,.int .i64 x.e1.t.l.n,.string x.e1.t.l.s,.slice A1 x.e1.kids.length c1,.int .i8 x.e2.op,.string x.e2.t.v,.int .i8 x.e2.t.l.k,.int .i64 x.e2.t.l.n,.string x.e2.t.l.s,.slice A2 x.e2.kids.length c2]) (cs := #[.int .i8 x.k,.string x.a.p,.slice Aa x.a.args.length ca,.int .i8 x.r,.int .i8 x.e1.op,.string x.e1.t.v,.int .i8 x.e1.t.l.k,.int .i64 x.e1.t.l.n,.string x.e1.t.l.s,.slice A1 x.e1.kids.length c1,.int .i8 x.e2.op,.string x.e2.t.v,.int .i8 x.e2.t.l.k,.int .i64 x.e2.t.l.n,.string x.e2.t.l.s,.slice A2 x.e2.kids.length c2]) (w0 rfl) (ej rfl rfl) rfl ?_))
  intro w2 g1 n3
  refine s_assign (v := .int .i64 0) ev_c (w0 rfl) (c_done (n_then (c_seq (c_head (fun w_ => Ext w2 w_) 8 mixed (by kernel_rfl) (fun _ x_ => x_) ?_))))
  intro w4 x5
  refine h_val (v := .pointer (some ⟨g1,1,none⟩)) (w0 rfl) (fun w_ c_ => r_field (off := 1) (o' := 1) F_f120_1 (ej rfl rfl) rfl) (h_val (v := .pointer (some ⟨g1,2,none⟩)) (w0 rfl) (fun w_ c_ => r_field (off := 1) (o' := 2) F_f46_1 (ej rfl rfl) rfl) (h_val (v := .slice Aa x.a.args.length ca) (w0 rfl) (fun w_ c_ => r_load (v := .slice Aa x.a.args.length ca) F_o44 (ej rfl rfl) (cell_of_blk (i := 2) (Ext.blk c_ (NewB.blk n3)) rfl)) (h_val (v := .int .i64 (x.a.args.length : Int)) (w0 rfl) (fun w_ c_ => r_lenL F_l44 (ej rfl rfl)) (h_val (v := .int .i64 ((1 + x.a.args.length : Nat) : Int)) (w0 rfl) (fun w_ c_ => r_add (r := ((1 + x.a.args.length : Nat) : Int)) ev_c (ej rfl rfl) (by omega) (by omega)) (h_val (v := .pointer (some ⟨g1,4,none⟩)) (w0 rfl) (fun w_ c_ => r_field (off := 4) (o' := 4) F_f120_3 (ej rfl rfl) rfl) (h_val (v := .agg #[.int .i8 x.e1.op,.string x.e1.t.v,.int .i8 x.e1.t.l.k,.int .i64 x.e1.t.l.n,.string x.e1.t.l.s,.slice A1 x.e1.kids.length c1]) (w0 rfl) (fun w_ c_ => r_loadL (cs := [.int .i8 x.e1.op,.string x.e1.t.v,.int .i8 x.e1.t.l.k,.int .i64 x.e1.t.l.n,.string x.e1.t.l.s,.slice A1 x.e1.kids.length c1]) F_m31 (ej rfl rfl) rfl rfl (blk_cells (Ext.blk c_ (NewB.blk n3)) 4 rfl)) (h_val (v := .int .i64 ((L : Nat) : Int)) (w0 rfl) (fun w_ c_ => r_move (v := .int .i64 ((L : Nat) : Int)) (ej rfl rfl)) (h_done ?_))))))))
  refine tl_cons ?_
  refine s_call F_e18 (w0 rfl) ev_f (m2 (ej rfl rfl) (ej rfl rfl)) (args := #[.agg #[.int .i8 x.e1.op,.string x.e1.t.v,.int .i8 x.e1.t.l.k,.int .i64 x.e1.t.l.n,.string x.e1.t.l.s,.slice A1 x.e1.kids.length c1],.int .i64 ((L : Nat) : Int)]) rfl (l_ExprParts x.e1 A1 c1 L _ ho1_ (Row.extE (Row.extE hr1 (NewB.ext n3)) x5) (by omega)) ?_
  rintro _ w7 ⟨⟨z6,hz9,rfl⟩,x8⟩
  refine tl_done ⟨(Ext.trans x5 x8),?_⟩
  refine tl_cons ?_
  refine s_add (r := ((1 + x.a.args.length + z6 : Nat) : Int)) (ej rfl rfl) (ej rfl rfl) (by omega) (by omega) (w0 rfl) ?_
  refine tl_done ⟨(Ext.trans x5 x8),?_⟩
  refine tl_cons ?_
  refine s_assign (v := .int .i64 ((1 + x.a.args.length + z6 : Nat) : Int)) (ej rfl rfl) (w0 rfl) ?_
  refine tl_done ⟨(Ext.trans x5 x8),?_⟩
  refine tl_nil ?_
  refine n_then (c_seq (c_seq (c_reg (s_move (v := .int .i64 ((1 + x.a.args.length + z6 : Nat) : Int)) (ej rfl rfl) (w0 rfl) (s_move (v := .int .i64 ((L : Nat) : Int)) (ej rfl rfl) (w0 rfl) (s_cmp (r := decide (((L : Nat) : Int) < ((1 + x.a.args.length + z6 : Nat) : Int))) (ej rfl rfl) (ej rfl rfl) rfl (w0 rfl) (c_done (n_then ?_))))))))
  by_cases h10 : ((L : Nat) : Int) < ((1 + x.a.args.length + z6 : Nat) : Int)
  · refine c_cond1 (vb (ej rfl rfl) (decide_eq_true h10)) (c_seq (c_reg (s_move (v := .int .i64 ((L : Nat) : Int)) (ej rfl rfl) (w0 rfl) (s_add (r := ((L + 1 : Nat) : Int)) (ej rfl rfl) ev_c (by omega) (by omega) (w0 rfl) (s_assign (v := .int .i64 ((L + 1 : Nat) : Int)) (ej rfl rfl) (w0 rfl) (c_done (n_then (c_ret (r_then (ret1 (v := .int .i64 ((L + 1 : Nat) : Int)) rfl rfl rfl ?_))))))))))
    exact ⟨_,rfl,⟨L + 1,by omega,rfl⟩,(Ext.trans (Ext.trans (NewB.ext n3) x5) x8)⟩
  refine c_cond0 (vb (ej rfl rfl) (decide_eq_false h10)) (c_skip (n_then (c_seq (c_reg (s_move (v := .int .i64 ((1 + x.a.args.length + z6 : Nat) : Int)) (ej rfl rfl) (w0 rfl) (s_field (off := 10) (o' := 10) F_f120_4 (ej rfl rfl) rfl (w0 rfl) (s_loadL (cs := [.int .i8 x.e2.op,.string x.e2.t.v,.int .i8 x.e2.t.l.k,.int .i64 x.e2.t.l.n,.string x.e2.t.l.s,.slice A2 x.e2.kids.length c2]) F_m31 (ej rfl rfl) rfl rfl (blk_cells (Ext.blk x8 (Ext.blk x5 (NewB.blk n3))) 10 rfl) (w0 rfl) (s_move (v := .int .i64 ((L : Nat) : Int)) (ej rfl rfl) (w0 rfl) (s_move (v := .int .i64 ((1 + x.a.args.length + z6 : Nat) : Int)) (ej rfl rfl) (w0 rfl) (s_sub (r := ((L - (1 + x.a.args.length + z6) : Nat) : Int)) (ej rfl rfl) (ej rfl rfl) (by omega) (by omega) (w0 rfl) (s_call F_e18 (w0 rfl) ev_f (m2 (ej rfl rfl) (ej rfl rfl)) (args := #[.agg #[.int .i8 x.e2.op,.string x.e2.t.v,.int .i8 x.e2.t.l.k,.int .i64 x.e2.t.l.n,.string x.e2.t.l.s,.slice A2 x.e2.kids.length c2],.int .i64 ((L - (1 + x.a.args.length + z6) : Nat) : Int)]) rfl (l_ExprParts x.e2 A2 c2 (L - (1 + x.a.args.length + z6)) _ ho2_ (Row.extE (Row.extE (Row.extE hr2 (NewB.ext n3)) x5) x8) (by omega)) ?_)))))))))))
  rintro _ w12 ⟨⟨z11,hz14,rfl⟩,x13⟩
  refine s_add (r := ((1 + x.a.args.length + z6 + z11 : Nat) : Int)) (ej rfl rfl) (ej rfl rfl) (by omega) (by omega) (w0 rfl) (s_assign (v := .int .i64 ((1 + x.a.args.length + z6 + z11 : Nat) : Int)) (ej rfl rfl) (w0 rfl) (c_done (n_then (c_ret (ret1 (v := .int .i64 ((1 + x.a.args.length + z6 + z11 : Nat) : Int)) rfl rfl rfl ?_)))))
  exact ⟨_,rfl,⟨1 + x.a.args.length + z6 + z11,by omega,rfl⟩,(Ext.trans (Ext.trans (Ext.trans (NewB.ext n3) x5) x8) x13)⟩
end Go.Proofs.Dw
