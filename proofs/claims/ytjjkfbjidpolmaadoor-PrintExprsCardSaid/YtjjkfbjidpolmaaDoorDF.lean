/- YtjjkfbjidpolmaaDoorDF: part of the proof of this seat, by an AI agent: walks of the functions that the law reaches. No condition of its own but those that its theorems state. -/
import Derived.Test.YtjjkfbjidpolmaaDoorDE
set_option linter.unusedVariables false
set_option linter.unusedSimpArgs false
set_option maxRecDepth 10000
namespace Go.Proofs.Dw
open Go Go.Wk Go.Proofs Go.Lib
attribute [local irreducible] Go.wpList Go.wpStill Go.wpQuiet Go.Code.wp Go.Calls
theorem F_e107 : enterable Tryd.prog 107 = true := by kernel_rfl
theorem F_e51 : enterable Tryd.prog 51 = true := by kernel_rfl
theorem F_e77 : enterable Tryd.prog 77 = true := by kernel_rfl
theorem F_e78 : enterable Tryd.prog 78 = true := by kernel_rfl
theorem F_e79 : enterable Tryd.prog 79 = true := by kernel_rfl
theorem F_e80 : enterable Tryd.prog 80 = true := by kernel_rfl
theorem F_e81 : enterable Tryd.prog 81 = true := by kernel_rfl
theorem F_o3 : one Tryd.prog 3 = true := by kernel_rfl
set_option maxHeartbeats 4000000 in
theorem s_IndexFuncE (x : Ex) (A : Option Addr) (c : Nat) (g : Nat) (w : World) (p : Ex → Bool) (hl : x.kids.length ≤ 140737488351232) (hr : Row RE 6 w A x.kids) (hp : ∀ (j : Nat) (y : Ex) (A : Option Addr) (c : Nat) (w' : World), x.kids[j]? = some y → Ext w w' → y.okc c → Row RE 6 w' A y.kids → Rt Tryd.prog 81 #[.agg #[.int .i8 y.op, .string y.t.v, .int .i8 y.t.l.k, .int .i64 y.t.l.n, .string y.t.l.s, .slice A y.kids.length c], .pointer (some ⟨g, 0, none⟩)] w' fun v w2 => v = .bool (p y) ∧ Ext w' w2) :
    Rt Tryd.prog 107 #[.slice A x.kids.length c, .func (.func 81) #[] #[.pointer (some ⟨g, 0, none⟩)]] w fun v w' => v = .int .i64 (posB p x.kids) ∧ Ext w w' := by
  refine enter Tryd.func107 rfl (l := [.slice A x.kids.length c, .func (.func 81) #[] #[.pointer (some ⟨g, 0, none⟩)]]) rfl Tryd.ntmps107 (Nat.le_of_ble_eq_true rfl) ?_
  refine c_seq ?_
  refine c_reg ?_
  refine s_assign (v := .int .i64 0) ev_c (w0 rfl) ?_
  refine c_done ?_
  refine n_then ?_
  refine c_seq ?_
  refine c_seq ?_
  refine c_reg ?_
  refine s_move (v := .slice A x.kids.length c) (ev_t rfl rfl) (w0 rfl) ?_
  refine s_lenL F_l29 (ev_t rfl rfl) (w0 rfl) ?_
  refine s_move (v := .int .i64 0) ev_c (w0 rfl) ?_
  refine c_done ?_
  refine n_then ?_
  refine c_block ?_
  refine c_loop (α := Nat) (fun (i : Nat) env_ w_ => Ext w w_ ∧ (∀ j y, j < i → x.kids[j]? = some y → p y = false) ∧ env_ 0 = .slice A x.kids.length c ∧ env_ 1 = .func (.func 81) #[] #[.pointer (some ⟨g, 0, none⟩)] ∧ env_ 7 = .int .i64 (x.kids.length : Int) ∧ env_ 8 = .int .i64 ((i : Nat) : Int)) (fun i => x.kids.length - i) (0) ⟨Ext.refl _, (fun j y h => absurd h (Nat.not_lt_zero j)), rfl, rfl, rfl, rfl⟩ ?_
  rintro i env3 w1 ⟨x2, i4, e5, e6, e7, e8⟩
  refine c_seq ?_
  refine c_reg ?_
  refine s_cmp (r := decide (((i : Nat) : Int) < (x.kids.length : Int))) (ev_t rfl e8) (ev_t rfl e7) rfl (w0 rfl) ?_
  refine c_done ?_
  refine n_then ?_
  refine c_seq ?_
  by_cases h9 : ((i : Nat) : Int) < (x.kids.length : Int)
  · refine c_cond1 (vb (ev_t rfl rfl) (decide_eq_true h9)) ?_
    refine c_skip ?_
    refine n_then ?_
    refine c_seq ?_
    refine c_block ?_
    refine c_seq ?_
    refine c_reg ?_
    refine s_move (v := .int .i64 ((i : Nat) : Int)) (ev_t rfl e8) (w0 rfl) ?_
    refine s_assign (v := .int .i64 ((i : Nat) : Int)) (ev_t rfl rfl) (w0 rfl) ?_
    refine c_done ?_
    refine n_then ?_
    refine c_seq ?_
    refine c_reg ?_
    refine s_move (v := .func (.func 81) #[] #[.pointer (some ⟨g, 0, none⟩)]) (ev_t rfl e6) (w0 rfl) ?_
    refine s_move (v := .slice A x.kids.length c) (ev_t rfl e5) (w0 rfl) ?_
    refine s_move (v := .int .i64 ((i : Nat) : Int)) (ev_t rfl rfl) (w0 rfl) ?_
    obtain ⟨b10, o11, x12, csx12, hA13, hx14, hR15, hc16⟩ := Row.at_ hr i (by omega)
    obtain rfl := Ex.kid_of hx14
    obtain ⟨A17, c18, rfl, ho19, hr20⟩ := RE.open_ hR15
    refine s_indexR (j := i) F_l29 (ev_t rfl rfl) hA13 (ev_t rfl rfl) rfl (by omega) (w0 rfl) ?_
    refine s_loadL (cs := [.int .i8 ((x.kid i).op), .string ((x.kid i).t.v), .int .i8 ((x.kid i).t.l.k), .int .i64 ((x.kid i).t.l.n), .string ((x.kid i).t.l.s), .slice A17 ((x.kid i).kids.length) c18]) (ca := #[.int .i8 ((x.kid i).op), .string ((x.kid i).t.v), .int .i8 ((x.kid i).t.l.k), .int .i64 ((x.kid i).t.l.n), .string ((x.kid i).t.l.s), .slice A17 ((x.kid i).kids.length) c18]) F_m31 (ev_t rfl rfl) rfl rfl (sub_cells (cells_ext x2 hc16) 0 (cs2 := [.int .i8 ((x.kid i).op), .string ((x.kid i).t.v), .int .i8 ((x.kid i).t.l.k), .int .i64 ((x.kid i).t.l.n), .string ((x.kid i).t.l.s), .slice A17 ((x.kid i).kids.length) c18]) rfl) (w0 rfl) ?_
    refine s_call F_e81 (w0 rfl) (ev_t rfl rfl) (m1 (ev_t rfl rfl)) (args := #[.agg #[.int .i8 ((x.kid i).op), .string ((x.kid i).t.v), .int .i8 ((x.kid i).t.l.k), .int .i64 ((x.kid i).t.l.n), .string ((x.kid i).t.l.s), .slice A17 ((x.kid i).kids.length) c18], .pointer (some ⟨g, 0, none⟩)]) rfl (hp i (x.kid i) A17 c18 _ (kid_there (x := x) (j := i) (by omega)) x2 ho19 (Row.extE hr20 x2)) ?_
    rintro _ w22 ⟨rfl, x21⟩
    refine c_done ?_
    refine n_then ?_
    rcases Bool.eq_false_or_eq_true (p (x.kid i)) with h23 | h23
    · refine c_cond1 (vb (ev_t rfl rfl) h23) ?_
      refine c_seq ?_
      refine c_reg ?_
      refine s_move (v := .int .i64 ((i : Nat) : Int)) (ev_t rfl rfl) (w0 rfl) ?_
      refine s_assign (v := .int .i64 ((i : Nat) : Int)) (ev_t rfl rfl) (w0 rfl) ?_
      refine c_done ?_
      refine n_then ?_
      refine c_ret ?_
      refine r_block ?_
      refine r_then ?_
      refine r_then ?_
      refine r_block ?_
      refine r_then ?_
      refine ret1 (v := .int .i64 ((i : Nat) : Int)) rfl rfl rfl ?_
      refine ⟨_, rfl, ?_, (Ext.trans x2 x21)⟩
      (refine congrArg (Value.int .i64) (Eq.symm (posB_at i4 (kid_there (x := x) (j := i) (by omega)) (by assumption))))
    · refine c_cond0 (vb (ev_t rfl rfl) h23) ?_
      refine c_skip ?_
      refine n_block ?_
      refine n_then ?_
      refine c_reg ?_
      refine s_add (r := ((i + 1 : Nat) : Int)) (ev_t rfl e8) ev_c (by omega) (by omega) (w0 rfl) ?_
      refine s_move (v := .int .i64 ((i + 1 : Nat) : Int)) (ev_t rfl rfl) (w0 rfl) ?_
      refine c_done ?_
      exact ⟨(i + 1), _, rfl, ⟨(Ext.trans x2 x21), (kids_stepF i4 (kid_there (by omega)) (by assumption)), e5, e6, e7, rfl⟩, (show x.kids.length - (i + 1) < x.kids.length - i by omega)⟩
  · refine c_cond0 (vb (ev_t rfl rfl) (decide_eq_false h9)) ?_
    refine c_exit ?_
    refine e_then ?_
    refine e_then ?_
    refine e_hit ?_
    refine n_then ?_
    refine c_seq ?_
    refine c_reg ?_
    refine s_assign (v := .int .i64 (-1)) ev_c (w0 rfl) ?_
    refine c_done ?_
    refine n_then ?_
    refine c_ret ?_
    refine ret1 (v := .int .i64 (-1)) rfl rfl rfl ?_
    refine ⟨_, rfl, ?_, x2⟩
    (refine congrArg (Value.int .i64) (Eq.symm (posB_none (by assumption) i4)))
set_option maxHeartbeats 4000000 in
theorem s_ContainsFuncE (x : Ex) (A : Option Addr) (c : Nat) (g : Nat) (w : World) (p : Ex → Bool) (hl : x.kids.length ≤ 140737488351232) (hr : Row RE 6 w A x.kids) (hp : ∀ (j : Nat) (y : Ex) (A : Option Addr) (c : Nat) (w' : World), x.kids[j]? = some y → Ext w w' → y.okc c → Row RE 6 w' A y.kids → Rt Tryd.prog 81 #[.agg #[.int .i8 y.op, .string y.t.v, .int .i8 y.t.l.k, .int .i64 y.t.l.n, .string y.t.l.s, .slice A y.kids.length c], .pointer (some ⟨g, 0, none⟩)] w' fun v w2 => v = .bool (p y) ∧ Ext w' w2) :
    Rt Tryd.prog 80 #[.slice A x.kids.length c, .func (.func 81) #[] #[.pointer (some ⟨g, 0, none⟩)]] w fun v w' => v = .bool (decide (0 ≤ posB p x.kids)) ∧ Ext w w' := by
  refine enter Tryd.func80 rfl (l := [.slice A x.kids.length c, .func (.func 81) #[] #[.pointer (some ⟨g, 0, none⟩)]]) rfl Tryd.ntmps80 (Nat.le_of_ble_eq_true rfl) ?_
  refine c_seq ?_
  refine c_reg ?_
  refine s_assign (v := .bool false) ev_c (w0 rfl) ?_
  refine c_done ?_
  refine n_then ?_
  refine c_seq ?_
  refine c_reg ?_
  refine s_move (v := .slice A x.kids.length c) (ev_t rfl rfl) (w0 rfl) ?_
  refine s_move (v := .func (.func 81) #[] #[.pointer (some ⟨g, 0, none⟩)]) (ev_t rfl rfl) (w0 rfl) ?_
  refine s_call F_e107 (w0 rfl) ev_f (m2 (ev_t rfl rfl) (ev_t rfl rfl)) (args := #[.slice A x.kids.length c, .func (.func 81) #[] #[.pointer (some ⟨g, 0, none⟩)]]) rfl (s_IndexFuncE x A c g _ p hl hr hp) ?_
  rintro _ w2 ⟨rfl, x1⟩
  refine s_cmp (r := decide (0 ≤ posB p x.kids)) (ev_t rfl rfl) ev_c rfl (w0 rfl) ?_
  refine s_assign (v := .bool (decide (0 ≤ posB p x.kids))) (ev_t rfl rfl) (w0 rfl) ?_
  refine c_done ?_
  refine n_then ?_
  refine c_ret ?_
  refine ret1 (v := .bool (decide (0 ≤ posB p x.kids))) rfl rfl rfl ?_
  refine ⟨_, rfl, ?_, x1⟩
  rfl
set_option maxHeartbeats 4000000 in
theorem t_deep1 (d : Nat) (x : Ex) (A : Option Addr) (c : Nat) (g : Nat) (w : World) (ho : x.okc c) (hr : Row RE 6 w A x.kids) (hg : w.heap[g]? = some (.cells #[.int .i64 ((d : Nat) : Int)] 3 (0, 0))) (hd : d ≤ 100) (hd0 : d ≠ 0) (ih : ∀ (x : Ex) (A : Option Addr) (c : Nat) (w : World), x.okc c → Row RE 6 w A x.kids → Rt Tryd.prog 51 #[.agg #[.int .i8 x.op, .string x.t.v, .int .i8 x.t.l.k, .int .i64 x.t.l.n, .string x.t.l.s, .slice A x.kids.length c], .int .i64 ((d - 1 : Nat) : Int)] w fun v w' => v = .bool (exB (d - 1) x) ∧ Ext w w') :
    Rt Tryd.prog 81 #[.agg #[.int .i8 x.op, .string x.t.v, .int .i8 x.t.l.k, .int .i64 x.t.l.n, .string x.t.l.s, .slice A x.kids.length c], .pointer (some ⟨g, 0, none⟩)] w fun v w' => v = .bool (!exB (d - 1) x) ∧ Ext w w' := by
  refine enter Tryd.func81 rfl (l := [.agg #[.int .i8 x.op, .string x.t.v, .int .i8 x.t.l.k, .int .i64 x.t.l.n, .string x.t.l.s, .slice A x.kids.length c], .pointer (some ⟨g, 0, none⟩)]) rfl Tryd.ntmps81 (Nat.le_of_ble_eq_true rfl) ?_
  have hl_ := Ex.okc.l ho
  have hc_ := Ex.okc.c ho
  refine c_seq ?_
  refine c_reg ?_
  refine s_box (v := .agg #[.int .i8 x.op, .string x.t.v, .int .i8 x.t.l.k, .int .i64 x.t.l.n, .string x.t.l.s, .slice A x.kids.length c]) (cs := #[.int .i8 x.op, .string x.t.v, .int .i8 x.t.l.k, .int .i64 x.t.l.n, .string x.t.l.s, .slice A x.kids.length c]) (w0 rfl) (ev_t rfl rfl) rfl ?_
  intro w2 g1 n3
  refine s_assign (v := .bool false) ev_c (w0 rfl) ?_
  refine c_done ?_
  refine n_then ?_
  refine c_seq ?_
  refine c_reg ?_
  refine s_loadL (cs := [.int .i8 x.op, .string x.t.v, .int .i8 x.t.l.k, .int .i64 x.t.l.n, .string x.t.l.s, .slice A x.kids.length c]) (ca := #[.int .i8 x.op, .string x.t.v, .int .i8 x.t.l.k, .int .i64 x.t.l.n, .string x.t.l.s, .slice A x.kids.length c]) F_m31 (ev_t rfl rfl) rfl rfl (blk_cells (NewB.blk n3) 0 (cs := [.int .i8 x.op, .string x.t.v, .int .i8 x.t.l.k, .int .i64 x.t.l.n, .string x.t.l.s, .slice A x.kids.length c]) rfl) (w0 rfl) ?_
  refine s_load (v := .int .i64 ((d : Nat) : Int)) F_o3 (ev_t rfl rfl) (cell_of_blk (i := 0) (Ext.blk (NewB.ext n3) hg) rfl) (w0 rfl) ?_
  refine s_sub (r := ((d - 1 : Nat) : Int)) (ev_t rfl rfl) ev_c (by omega) (by omega) (w0 rfl) ?_
  refine s_call F_e51 (w0 rfl) ev_f (m2 (ev_t rfl rfl) (ev_t rfl rfl)) (args := #[.agg #[.int .i8 x.op, .string x.t.v, .int .i8 x.t.l.k, .int .i64 x.t.l.n, .string x.t.l.s, .slice A x.kids.length c], .int .i64 ((d - 1 : Nat) : Int)]) rfl (ih x A c _ ho (Row.extE hr (NewB.ext n3))) ?_
  rintro _ w5 ⟨rfl, x4⟩
  refine s_not (b := exB (d - 1) x) (ev_t rfl rfl) (w0 rfl) ?_
  refine s_assign (v := .bool (!(exB (d - 1) x))) (ev_t rfl rfl) (w0 rfl) ?_
  refine c_done ?_
  refine n_then ?_
  refine c_ret ?_
  refine ret1 (v := .bool (!(exB (d - 1) x))) rfl rfl rfl ?_
  refine ⟨_, rfl, ?_, (Ext.trans (NewB.ext n3) x4)⟩
  rfl
set_option maxHeartbeats 4000000 in
theorem t_deep_step (d : Nat) (x : Ex) (A : Option Addr) (c : Nat) (w : World) (ho : x.okc c) (hr : Row RE 6 w A x.kids) (hd : d ≤ 100) (ih : d ≠ 0 → ∀ (x : Ex) (A : Option Addr) (c : Nat) (w : World), x.okc c → Row RE 6 w A x.kids → Rt Tryd.prog 51 #[.agg #[.int .i8 x.op, .string x.t.v, .int .i8 x.t.l.k, .int .i64 x.t.l.n, .string x.t.l.s, .slice A x.kids.length c], .int .i64 ((d - 1 : Nat) : Int)] w fun v w' => v = .bool (exB (d - 1) x) ∧ Ext w w') :
    Rt Tryd.prog 51 #[.agg #[.int .i8 x.op, .string x.t.v, .int .i8 x.t.l.k, .int .i64 x.t.l.n, .string x.t.l.s, .slice A x.kids.length c], .int .i64 ((d : Nat) : Int)] w fun v w' => v = .bool (exB d x) ∧ Ext w w' := by
  refine enter Tryd.func51 rfl (l := [.agg #[.int .i8 x.op, .string x.t.v, .int .i8 x.t.l.k, .int .i64 x.t.l.n, .string x.t.l.s, .slice A x.kids.length c], .int .i64 ((d : Nat) : Int)]) rfl Tryd.ntmps51 (Nat.le_of_ble_eq_true rfl) ?_
  have hl_ := Ex.okc.l ho
  have hc_ := Ex.okc.c ho
  refine c_seq ?_
  refine c_reg ?_
  refine s_box (v := .agg #[.int .i8 x.op, .string x.t.v, .int .i8 x.t.l.k, .int .i64 x.t.l.n, .string x.t.l.s, .slice A x.kids.length c]) (cs := #[.int .i8 x.op, .string x.t.v, .int .i8 x.t.l.k, .int .i64 x.t.l.n, .string x.t.l.s, .slice A x.kids.length c]) (w0 rfl) (ev_t rfl rfl) rfl ?_
  intro w2 g1 n3
  refine s_box (v := .int .i64 ((d : Nat) : Int)) (cs := #[.int .i64 ((d : Nat) : Int)]) (w0 rfl) (ev_t rfl rfl) rfl ?_
  intro w5 g4 n6
  refine s_assign (v := .bool false) ev_c (w0 rfl) ?_
  refine c_done ?_
  refine n_then ?_
  refine c_seq ?_
  refine c_seq ?_
  refine c_reg ?_
  refine s_load (v := .int .i64 ((d : Nat) : Int)) F_o3 (ev_t rfl rfl) (cell_of_blk (i := 0) (NewB.blk n6) rfl) (w0 rfl) ?_
  refine s_cmp (r := decide (((d : Nat) : Int) = 0)) (ev_t rfl rfl) ev_c rfl (w0 rfl) ?_
  refine c_done ?_
  refine n_then ?_
  by_cases h7 : ((d : Nat) : Int) = 0
  · refine c_cond1 (vb (ev_t rfl rfl) (decide_eq_true h7)) ?_
    refine c_seq ?_
    refine c_reg ?_
    refine s_assign (v := .bool false) ev_c (w0 rfl) ?_
    refine c_done ?_
    refine n_then ?_
    refine c_ret ?_
    refine r_then ?_
    refine ret1 (v := .bool false) rfl rfl rfl ?_
    refine ⟨_, rfl, ?_, (Ext.trans (NewB.ext n3) (NewB.ext n6))⟩
    (first | (have z_ : d = 0 := by omega); subst z_; rfl | (refine congrArg Value.bool ?_; rw [exB_pos (by omega)]; simp only [*, decide_true, decide_false, if_true, if_false, Bool.and_true, Bool.true_and, Bool.false_and, Bool.and_false, Bool.not_true, Bool.not_false, Bool.false_eq_true, reduceIte, not_true_eq_false, not_false_eq_true]))
  · refine c_cond0 (vb (ev_t rfl rfl) (decide_eq_false h7)) ?_
    refine c_skip ?_
    refine n_then ?_
    refine c_seq ?_
    refine c_seq ?_
    refine c_reg ?_
    refine s_field (off := 0) (o' := 0) F_f31_0 (ev_t rfl rfl) rfl (w0 rfl) ?_
    refine s_load (v := .int .i8 x.op) F_o23 (ev_t rfl rfl) (cell_of_blk (i := 0) (Ext.blk (NewB.ext n6) (NewB.blk n3)) rfl) (w0 rfl) ?_
    refine s_cmp (r := decide (x.op = 0)) (ev_t rfl rfl) ev_c rfl (w0 rfl) ?_
    refine c_done ?_
    refine n_then ?_
    by_cases h8 : x.op = 0
    · refine c_cond1 (vb (ev_t rfl rfl) (decide_eq_true h8)) ?_
      refine c_seq ?_
      refine c_reg ?_
      refine s_field (off := 5) (o' := 5) F_f31_2 (ev_t rfl rfl) rfl (w0 rfl) ?_
      refine s_load (v := .slice A x.kids.length c) F_o29 (ev_t rfl rfl) (cell_of_blk (i := 5) (Ext.blk (NewB.ext n6) (NewB.blk n3)) rfl) (w0 rfl) ?_
      refine s_lenL F_l29 (ev_t rfl rfl) (w0 rfl) ?_
      refine s_cmp (r := decide ((x.kids.length : Int) = 0)) (ev_t rfl rfl) ev_c rfl (w0 rfl) ?_
      by_cases h9 : (x.kids.length : Int) = 0
      · refine s_move (v := .bool true) (vb (ev_t rfl rfl) (decide_eq_true h9)) (w0 rfl) ?_
        refine s_field (off := 1) (o' := 1) F_f31_1 (ev_t rfl rfl) rfl (wy rfl rfl rfl rfl) ?_
        refine s_loadL (cs := [.string x.t.v, .int .i8 x.t.l.k, .int .i64 x.t.l.n, .string x.t.l.s]) (ca := #[.string x.t.v, .int .i8 x.t.l.k, .int .i64 x.t.l.n, .string x.t.l.s]) F_m28 (ev_t rfl rfl) rfl rfl (blk_cells (Ext.blk (NewB.ext n6) (NewB.blk n3)) 1 (cs := [.string x.t.v, .int .i8 x.t.l.k, .int .i64 x.t.l.n, .string x.t.l.s]) rfl) (wy rfl rfl rfl rfl) ?_
        refine s_call F_e77 (wy rfl rfl rfl rfl) ev_f (m1 (ev_t rfl rfl)) (args := #[.agg #[.string x.t.v, .int .i8 x.t.l.k, .int .i64 x.t.l.n, .string x.t.l.s]]) rfl (t_solid x.t _ (Ex.okc.t ho)) ?_
        rintro _ w11 ⟨rfl, x10⟩
        refine s_pick1 (v := .bool (!decide (x.t.v = ⟨#[95]⟩) && tmB x.t)) (ev_t rfl rfl) (ev_t rfl rfl) (w0 rfl) ?_
        refine s_assign (v := .bool (!decide (x.t.v = ⟨#[95]⟩) && tmB x.t)) (ev_t rfl rfl) (w0 rfl) ?_
        refine c_done ?_
        refine n_then ?_
        refine c_ret ?_
        refine r_then ?_
        refine ret1 (v := .bool (!decide (x.t.v = ⟨#[95]⟩) && tmB x.t)) rfl rfl rfl ?_
        refine ⟨_, rfl, ?_, (Ext.trans (Ext.trans (NewB.ext n3) (NewB.ext n6)) x10)⟩
        (first | (have z_ : d = 0 := by omega); subst z_; rfl | (refine congrArg Value.bool ?_; rw [exB_pos (by omega)]; simp only [*, decide_true, decide_false, if_true, if_false, Bool.and_true, Bool.true_and, Bool.false_and, Bool.and_false, Bool.not_true, Bool.not_false, Bool.false_eq_true, reduceIte, not_true_eq_false, not_false_eq_true]))
      · refine s_move (v := .bool false) (vb (ev_t rfl rfl) (decide_eq_false h9)) (w0 rfl) ?_
        refine s_skip (wn rfl rfl rfl rfl rfl) ?_
        refine s_skip (wn rfl rfl rfl rfl rfl) ?_
        refine s_skip (wn rfl rfl rfl rfl rfl) ?_
        refine s_pick0 (v := .bool false) (ev_t rfl rfl) ev_c (w0 rfl) ?_
        refine s_assign (v := .bool false) (ev_t rfl rfl) (w0 rfl) ?_
        refine c_done ?_
        refine n_then ?_
        refine c_ret ?_
        refine r_then ?_
        refine ret1 (v := .bool false) rfl rfl rfl ?_
        refine ⟨_, rfl, ?_, (Ext.trans (NewB.ext n3) (NewB.ext n6))⟩
        (first | (have z_ : d = 0 := by omega); subst z_; rfl | (refine congrArg Value.bool ?_; rw [exB_pos (by omega)]; simp only [*, decide_true, decide_false, if_true, if_false, Bool.and_true, Bool.true_and, Bool.false_and, Bool.and_false, Bool.not_true, Bool.not_false, Bool.false_eq_true, reduceIte, not_true_eq_false, not_false_eq_true]))
    · refine c_cond0 (vb (ev_t rfl rfl) (decide_eq_false h8)) ?_
      refine c_skip ?_
      refine n_then ?_
      refine c_seq ?_
      refine c_seq ?_
      refine c_quiet mixed (by kernel_rfl) ?_
      refine q_val (v := .pointer (some ⟨g1, 1, none⟩)) (w0 rfl) (fun w_ c_ => r_field (off := 1) (o' := 1) F_f31_1 (ev_t rfl rfl) rfl) ?_
      refine q_val (v := .agg #[.string x.t.v, .int .i8 x.t.l.k, .int .i64 x.t.l.n, .string x.t.l.s]) (w0 rfl) (fun w_ c_ => r_loadL (cs := [.string x.t.v, .int .i8 x.t.l.k, .int .i64 x.t.l.n, .string x.t.l.s]) (ca := #[.string x.t.v, .int .i8 x.t.l.k, .int .i64 x.t.l.n, .string x.t.l.s]) F_m28 (ev_t rfl rfl) rfl rfl (blk_cells (Ext.blk c_ (Ext.blk (NewB.ext n6) (NewB.blk n3))) 1 (cs := [.string x.t.v, .int .i8 x.t.l.k, .int .i64 x.t.l.n, .string x.t.l.s]) rfl)) ?_
      refine q_call (v := .bool (zT x.t)) F_e78 (w0 rfl) ev_f (m1 (ev_t rfl rfl)) (args := #[.agg #[.string x.t.v, .int .i8 x.t.l.k, .int .i64 x.t.l.n, .string x.t.l.s]]) rfl (fun w_ c_ => Rt.mono (t_none x.t _) (fun v_ w2_ h_ => ⟨h_.1, Ext.trans c_ h_.2⟩)) ?_
      refine q_val (v := .bool (!(zT x.t))) (w0 rfl) (fun w_ c_ => r_not (b := zT x.t) (ev_t rfl rfl)) ?_
      rcases Bool.eq_false_or_eq_true (zT x.t) with h12 | h12
      · refine q_val (v := .bool false) (w0 rfl) (fun w_ c_ => r_move (v := .bool false) (vb (ev_t rfl rfl) (nbt h12))) ?_
        refine q_val (v := .pointer (some ⟨g1, 5, none⟩)) (wy rfl rfl rfl rfl) (fun w_ c_ => r_field (off := 5) (o' := 5) F_f31_2 (ev_t rfl rfl) rfl) ?_
        refine q_val (v := .slice A x.kids.length c) (wy rfl rfl rfl rfl) (fun w_ c_ => r_load (v := .slice A x.kids.length c) F_o29 (ev_t rfl rfl) (cell_of_blk (i := 5) (Ext.blk c_ (Ext.blk (NewB.ext n6) (NewB.blk n3))) rfl)) ?_
        refine q_val (v := .int .i64 (x.kids.length : Int)) (wy rfl rfl rfl rfl) (fun w_ c_ => r_lenL F_l29 (ev_t rfl rfl)) ?_
        refine q_val (v := .pointer (some ⟨g1, 0, none⟩)) (wy rfl rfl rfl rfl) (fun w_ c_ => r_field (off := 0) (o' := 0) F_f31_0 (ev_t rfl rfl) rfl) ?_
        refine q_val (v := .int .i8 x.op) (wy rfl rfl rfl rfl) (fun w_ c_ => r_load (v := .int .i8 x.op) F_o23 (ev_t rfl rfl) (cell_of_blk (i := 0) (Ext.blk c_ (Ext.blk (NewB.ext n6) (NewB.blk n3))) rfl)) ?_
        refine q_call (v := .int .i64 (kidsN x.op)) F_e79 (wy rfl rfl rfl rfl) ev_f (m1 (ev_t rfl rfl)) (args := #[.int .i8 x.op]) rfl (fun w_ c_ => Rt.mono (t_arity x.op _) (fun v_ w2_ h_ => ⟨h_.1, Ext.trans c_ h_.2⟩)) ?_
        refine q_val (v := .bool (!decide ((x.kids.length : Int) = kidsN x.op))) (wy rfl rfl rfl rfl) (fun w_ c_ => r_cmp (r := !decide ((x.kids.length : Int) = kidsN x.op)) (ev_t rfl rfl) (ev_t rfl rfl) rfl) ?_
        refine q_val (v := .bool (!decide ((x.kids.length : Int) = kidsN x.op))) (w0 rfl) (fun w_ c_ => r_pick0 (v := .bool (!decide ((x.kids.length : Int) = kidsN x.op))) (ev_t rfl rfl) (ev_t rfl rfl)) ?_
        refine q_done ?_
        intro w13 x14
        refine n_then ?_
        by_cases h15 : (x.kids.length : Int) = kidsN x.op
        · refine c_cond0 (vb (ev_t rfl rfl) (nb0 h15)) ?_
          refine c_skip ?_
          refine n_then ?_
          refine c_seq ?_
          refine c_reg ?_
          refine s_field (off := 5) (o' := 5) F_f31_2 (ev_t rfl rfl) rfl (w0 rfl) ?_
          refine s_load (v := .slice A x.kids.length c) F_o29 (ev_t rfl rfl) (cell_of_blk (i := 5) (Ext.blk x14 (Ext.blk (NewB.ext n6) (NewB.blk n3))) rfl) (w0 rfl) ?_
          refine s_makeFunc (vf := #[]) (vc := #[.pointer (some ⟨g4, 0, none⟩)]) m0 (m1 (ev_t rfl rfl)) (w0 rfl) ?_
          refine s_call F_e80 (w0 rfl) ev_f (m2 (ev_t rfl rfl) (ev_t rfl rfl)) (args := #[.slice A x.kids.length c, .func (.func 81) #[] #[.pointer (some ⟨g4, 0, none⟩)]]) rfl (s_ContainsFuncE x A c g4 _ (fun y => !exB (d - 1) y) (by omega) (Row.extE (Row.extE (Row.extE hr (NewB.ext n3)) (NewB.ext n6)) x14) (fun j_ y_ A_ c_ w_ _ x_ ho_ hr_ => t_deep1 d y_ A_ c_ g4 w_ ho_ hr_ (Ext.blk x_ (Ext.blk x14 (NewB.blk n6))) hd (by omega) (ih (by omega)))) ?_
          rintro _ w17 ⟨rfl, x16⟩
          refine s_not (b := decide (0 ≤ posB (fun y => !exB (d - 1) y) x.kids)) (ev_t rfl rfl) (w0 rfl) ?_
          refine s_assign (v := .bool (!(decide (0 ≤ posB (fun y => !exB (d - 1) y) x.kids)))) (ev_t rfl rfl) (w0 rfl) ?_
          refine c_done ?_
          refine n_then ?_
          refine c_ret ?_
          refine ret1 (v := .bool (!(decide (0 ≤ posB (fun y => !exB (d - 1) y) x.kids)))) rfl rfl rfl ?_
          refine ⟨_, rfl, ?_, (Ext.trans (Ext.trans (Ext.trans (NewB.ext n3) (NewB.ext n6)) x14) x16)⟩
          (refine congrArg Value.bool ?_; rw [posB_all, exB_pos (by omega), if_neg (by assumption)]; simp only [*, decide_true, decide_false, if_true, if_false, Bool.and_true, Bool.true_and, Bool.false_and, Bool.and_false, Bool.not_true, Bool.not_false, Bool.false_eq_true, reduceIte, not_true_eq_false, not_false_eq_true])
        · refine c_cond1 (vb (ev_t rfl rfl) (nb1 h15)) ?_
          refine c_seq ?_
          refine c_reg ?_
          refine s_assign (v := .bool false) ev_c (w0 rfl) ?_
          refine c_done ?_
          refine n_then ?_
          refine c_ret ?_
          refine r_then ?_
          refine ret1 (v := .bool false) rfl rfl rfl ?_
          refine ⟨_, rfl, ?_, (Ext.trans (Ext.trans (NewB.ext n3) (NewB.ext n6)) x14)⟩
          (first | (have z_ : d = 0 := by omega); subst z_; rfl | (refine congrArg Value.bool ?_; rw [exB_pos (by omega)]; simp only [*, decide_true, decide_false, if_true, if_false, Bool.and_true, Bool.true_and, Bool.false_and, Bool.and_false, Bool.not_true, Bool.not_false, Bool.false_eq_true, reduceIte, not_true_eq_false, not_false_eq_true]))
      · refine q_val (v := .bool true) (w0 rfl) (fun w_ c_ => r_move (v := .bool true) (vb (ev_t rfl rfl) (nbf h12))) ?_
        refine q_skip (wn rfl rfl rfl rfl rfl) ?_
        refine q_skip (wn rfl rfl rfl rfl rfl) ?_
        refine q_skip (wn rfl rfl rfl rfl rfl) ?_
        refine q_skip (wn rfl rfl rfl rfl rfl) ?_
        refine q_skip (wn rfl rfl rfl rfl rfl) ?_
        refine q_skip (wn rfl rfl rfl rfl rfl) ?_
        refine q_skip (wn rfl rfl rfl rfl rfl) ?_
        refine q_val (v := .bool true) (w0 rfl) (fun w_ c_ => r_pick1 (v := .bool true) (ev_t rfl rfl) ev_c) ?_
        refine q_done ?_
        intro w18 x19
        refine n_then ?_
        refine c_cond1 (ev_t rfl rfl) ?_
        refine c_seq ?_
        refine c_reg ?_
        refine s_assign (v := .bool false) ev_c (w0 rfl) ?_
        refine c_done ?_
        refine n_then ?_
        refine c_ret ?_
        refine r_then ?_
        refine ret1 (v := .bool false) rfl rfl rfl ?_
        refine ⟨_, rfl, ?_, (Ext.trans (Ext.trans (NewB.ext n3) (NewB.ext n6)) x19)⟩
        (first | (have z_ : d = 0 := by omega); subst z_; rfl | (refine congrArg Value.bool ?_; rw [exB_pos (by omega)]; simp only [*, decide_true, decide_false, if_true, if_false, Bool.and_true, Bool.true_and, Bool.false_and, Bool.and_false, Bool.not_true, Bool.not_false, Bool.false_eq_true, reduceIte, not_true_eq_false, not_false_eq_true]))
theorem t_deep : ∀ (d : Nat) (x : Ex) (A : Option Addr) (c : Nat) (w : World), d ≤ 100 → x.okc c → Row RE 6 w A x.kids → Rt Tryd.prog 51 #[.agg #[.int .i8 x.op, .string x.t.v, .int .i8 x.t.l.k, .int .i64 x.t.l.n, .string x.t.l.s, .slice A x.kids.length c], .int .i64 ((d : Nat) : Int)] w fun v w' => v = .bool (exB d x) ∧ Ext w w' := by
  intro d
  induction d with
  | zero =>
    intro x A c w hd ho hr
    exact t_deep_step 0 x A c w ho hr hd (fun h => absurd rfl h)
  | succ d ih =>
    intro x A c w hd ho hr
    exact t_deep_step (d + 1) x A c w ho hr hd (fun _ x A c w ho hr => ih x A c w (by omega) ho hr)
set_option maxHeartbeats 4000000 in
theorem t_CheckExpr (x : Ex) (A : Option Addr) (c : Nat) (w : World) (ho : x.okc c) (hr : Row RE 6 w A x.kids) :
    Rt Tryd.prog 23 #[.agg #[.int .i8 x.op, .string x.t.v, .int .i8 x.t.l.k, .int .i64 x.t.l.n, .string x.t.l.s, .slice A x.kids.length c]] w fun v w' => v = .int .i64 (code (exB 8 x)) ∧ Ext w w' := by
  refine enter Tryd.func23 rfl (l := [.agg #[.int .i8 x.op, .string x.t.v, .int .i8 x.t.l.k, .int .i64 x.t.l.n, .string x.t.l.s, .slice A x.kids.length c]]) rfl Tryd.ntmps23 (Nat.le_of_ble_eq_true rfl) ?_
  have hl_ := Ex.okc.l ho
  have hc_ := Ex.okc.c ho
  refine c_seq ?_
  refine c_reg ?_
  refine s_box (v := .agg #[.int .i8 x.op, .string x.t.v, .int .i8 x.t.l.k, .int .i64 x.t.l.n, .string x.t.l.s, .slice A x.kids.length c]) (cs := #[.int .i8 x.op, .string x.t.v, .int .i8 x.t.l.k, .int .i64 x.t.l.n, .string x.t.l.s, .slice A x.kids.length c]) (w0 rfl) (ev_t rfl rfl) rfl ?_
  intro w2 g1 n3
  refine s_assign (v := .int .i64 0) ev_c (w0 rfl) ?_
  refine c_done ?_
  refine n_then ?_
  refine c_seq ?_
  refine c_reg ?_
  refine s_loadL (cs := [.int .i8 x.op, .string x.t.v, .int .i8 x.t.l.k, .int .i64 x.t.l.n, .string x.t.l.s, .slice A x.kids.length c]) (ca := #[.int .i8 x.op, .string x.t.v, .int .i8 x.t.l.k, .int .i64 x.t.l.n, .string x.t.l.s, .slice A x.kids.length c]) F_m31 (ev_t rfl rfl) rfl rfl (blk_cells (NewB.blk n3) 0 (cs := [.int .i8 x.op, .string x.t.v, .int .i8 x.t.l.k, .int .i64 x.t.l.n, .string x.t.l.s, .slice A x.kids.length c]) rfl) (w0 rfl) ?_
  refine s_call F_e51 (w0 rfl) ev_f (m2 (ev_t rfl rfl) ev_c) (args := #[.agg #[.int .i8 x.op, .string x.t.v, .int .i8 x.t.l.k, .int .i64 x.t.l.n, .string x.t.l.s, .slice A x.kids.length c], .int .i64 8]) rfl (t_deep 8 x A c _ (by decide) ho (Row.extE hr (NewB.ext n3))) ?_
  rintro _ w5 ⟨rfl, x4⟩
  refine s_call F_e50 (w0 rfl) ev_f (m1 (ev_t rfl rfl)) (args := #[.bool (exB 8 x)]) rfl (t_code (exB 8 x) _) ?_
  rintro _ w7 ⟨rfl, x6⟩
  refine s_assign (v := .int .i64 (code (exB 8 x))) (ev_t rfl rfl) (w0 rfl) ?_
  refine c_done ?_
  refine n_then ?_
  refine c_ret ?_
  refine ret1 (v := .int .i64 (code (exB 8 x))) rfl rfl rfl ?_
  refine ⟨_, rfl, ?_, (Ext.trans (Ext.trans (NewB.ext n3) x4) x6)⟩
  rfl
end Go.Proofs.Dw
