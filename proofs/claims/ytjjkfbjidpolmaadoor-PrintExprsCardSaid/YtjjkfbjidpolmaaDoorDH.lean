/- YtjjkfbjidpolmaaDoorDH: part of the proof of this seat, by an AI agent: walks of the functions that the law reaches. No condition of its own but those that its theorems state. -/
import Derived.Test.YtjjkfbjidpolmaaDoorDG
import Derived.Test.YtjjkfbjidpolmaaDoorWkT
set_option linter.unusedVariables false
set_option linter.unusedSimpArgs false
set_option maxRecDepth 10000
namespace Go.Proofs.Dw
open Go Go.Wk Go.Proofs Go.Lib
attribute [local irreducible] Go.wpList Go.wpStill Go.wpQuiet Go.Code.wp Go.Calls
theorem F_e69 : enterable Tryd.prog 69 = true := by kernel_rfl
theorem F_f85_0 : fieldAt Tryd.prog 85 0 0 = true := by kernel_rfl
theorem F_l122 : sliceT Tryd.prog 122 1 = true := by kernel_rfl
set_option maxHeartbeats 4000000 in
theorem p_put (T B g b : Nat) (s0 : ByteArray) (ss : List ByteArray) (w : World) (hb : BW 5 T B w g s0) (hB : B ≤ w.heap.size) (hT : 9 ≠ T) (hlies : liesAt Tryd.prog Tryd.prog.depth T (2 / Tryd.prog.cellsOf T) 0 83 1 = true) (hl : w.heap[b]? = some (.cells (ss.map Value.string).toArray 9 (0, 0))) (hs : s0.size + (catL ss).size ≤ 140737488355328) (hn : ss.length ≤ 1000) :
    Rt Tryd.prog 35 #[.pointer (some ⟨g, 0, none⟩), .slice (some ⟨b, 0, none⟩) ss.length ss.length] w fun v w' => v = .tuple #[] ∧ Wr 5 T B g (s0 ++ catL ss) w w' := by
  refine enter Tryd.func35 rfl (l := [.pointer (some ⟨g, 0, none⟩), .slice (some ⟨b, 0, none⟩) ss.length ss.length]) rfl Tryd.ntmps35 (Nat.le_of_ble_eq_true rfl) ?_
  have hne_ : b ≠ g := ne_blk hl (BW.blk hb).choose_spec hT
  refine c_seq ?_
  refine c_reg ?_
  refine s_move (v := .slice (some ⟨b, 0, none⟩) ss.length ss.length) (ev_t rfl rfl) (w0 rfl) ?_
  refine s_lenL F_l122 (ev_t rfl rfl) (w0 rfl) ?_
  refine s_move (v := .int .i64 0) ev_c (w0 rfl) ?_
  refine c_done ?_
  refine n_then ?_
  refine c_block ?_
  refine c_loop (α := Nat) (fun (i : Nat) env_ w_ => Wr 5 T B g (s0 ++ catL (ss.take i)) w w_ ∧ i ≤ ss.length ∧ env_ 0 = .pointer (some ⟨g, 0, none⟩) ∧ env_ 6 = .slice (some ⟨b, 0, none⟩) ss.length ss.length ∧ env_ 7 = .int .i64 (ss.length : Int) ∧ env_ 8 = .int .i64 ((i : Nat) : Int)) (fun i => ss.length - i) (0) ⟨(Wr.cast (Wr.refl hb) (by simp [catL, app_nil])), Nat.zero_le _, rfl, rfl, rfl, rfl⟩ ?_
  rintro i env3 w1 ⟨x2, i4, e5, e6, e7, e8⟩
  have hlt_ : i < ss.length → (catL (ss.take i)).size + (ss.getD i ⟨#[]⟩).size ≤ (catL ss).size := fun h_ => catL_le ss i h_
  refine c_seq ?_
  refine c_reg ?_
  refine s_cmp (r := decide (((i : Nat) : Int) < (ss.length : Int))) (ev_t rfl e8) (ev_t rfl e7) rfl (w0 rfl) ?_
  refine c_done ?_
  refine n_then ?_
  refine c_seq ?_
  by_cases h9 : ((i : Nat) : Int) < (ss.length : Int)
  · refine c_cond1 (vb (ev_t rfl rfl) (decide_eq_true h9)) ?_
    refine c_skip ?_
    refine n_then ?_
    refine c_seq ?_
    refine c_block ?_
    refine c_seq ?_
    refine c_reg ?_
    refine s_indexR (j := i) F_l122 (ev_t rfl e6) rfl (ev_t rfl e8) rfl (by omega) (w0 rfl) ?_
    refine s_load (v := .string (ss.getD i ⟨#[]⟩)) F_o9 (ev_t rfl rfl) (strs_cell (Wr.blk x2 hl (Or.inl (by decide)) hne_) (by omega)) (w0 rfl) ?_
    refine s_assign (v := .string (ss.getD i ⟨#[]⟩)) (ev_t rfl rfl) (w0 rfl) ?_
    refine c_done ?_
    refine n_then ?_
    refine c_reg ?_
    refine s_move (v := .pointer (some ⟨g, 0, none⟩)) (ev_t rfl e5) (w0 rfl) ?_
    refine s_nilCheck (ev_t rfl rfl) (w0 rfl) ?_
    refine s_field (off := 0) (o' := 0) F_f85_0 (ev_t rfl rfl) rfl (w0 rfl) ?_
    refine s_move (v := .string (ss.getD i ⟨#[]⟩)) (ev_t rfl rfl) (w0 rfl) ?_
    refine s_call F_e69 (w0 rfl) ev_f (m2 (ev_t rfl rfl) (ev_t rfl rfl)) (args := #[.pointer (some ⟨g, 0, none⟩), .string (ss.getD i ⟨#[]⟩)]) rfl (b_WriteString T _ g (s0 ++ catL (ss.take i)) (ss.getD i ⟨#[]⟩) _ (Wr.bw x2) (Nat.le_trans hB (Wr.size x2)) hlies (by simp only [ByteArray.size_append] at *; have := hlt_ (by omega); omega)) ?_
    rintro _ w10 ⟨rfl, wr11⟩
    refine c_done ?_
    refine n_block ?_
    refine n_then ?_
    refine c_reg ?_
    refine s_add (r := ((i + 1 : Nat) : Int)) (ev_t rfl e8) ev_c (by omega) (by omega) (w0 rfl) ?_
    refine s_move (v := .int .i64 ((i + 1 : Nat) : Int)) (ev_t rfl rfl) (w0 rfl) ?_
    refine c_done ?_
    exact ⟨(i + 1), _, rfl, ⟨(Wr.cast (Wr.then_ x2 wr11) (by rw [catL_stepD ss i (by omega), app_assoc])), by omega, e5, e6, e7, rfl⟩, (show ss.length - (i + 1) < ss.length - i by omega)⟩
  · refine c_cond0 (vb (ev_t rfl rfl) (decide_eq_false h9)) ?_
    refine c_exit ?_
    refine e_then ?_
    refine e_then ?_
    refine e_hit ?_
    refine ret0 rfl ?_
    exact ⟨_, rfl, rfl, Wr.cast x2 (by rw [List.take_of_length_le (by omega)])⟩
end Go.Proofs.Dw
