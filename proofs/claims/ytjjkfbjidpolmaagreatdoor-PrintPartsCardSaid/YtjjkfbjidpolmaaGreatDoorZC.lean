/- YtjjkfbjidpolmaaGreatDoorZC: part of the proof of this seat, by an AI agent: copies with marks; walks of the functions that the law reaches; walks of the functions that the law reaches. No condition of its own but those that its theorems state. -/
import Derived.Test.YtjjkfbjidpolmaaGreatDoorZB
import Derived.Lib.Builder
import Derived.Laws.Externs
import Derived.Laws.Pointers
import Derived.Test.YtjjkfbjidpolmaaGreatDoorShelf
import Derived.Laws.MakeOwn
import Derived.Laws.Slices
set_option linter.unusedVariables false
set_option linter.unusedSimpArgs false
set_option maxRecDepth 10000
namespace Go.Proofs.Zw
open Go Go.Wk Go.Proofs Go.Lib
attribute [local irreducible] Go.wpList Go.wpStill Go.wpQuiet Go.Code.wp Go.Calls
theorem F_e113 : enterable Tryz.prog 113 = true := by kernel_rfl
theorem F_e114 : enterable Tryz.prog 114 = true := by kernel_rfl
theorem F_e119 : enterable Tryz.prog 119 = true := by kernel_rfl
theorem F_e133 : enterable Tryz.prog 133 = true := by kernel_rfl
theorem F_e134 : enterable Tryz.prog 134 = true := by kernel_rfl
theorem F_e135 : enterable Tryz.prog 135 = true := by kernel_rfl
theorem F_e146 : enterable Tryz.prog 146 = true := by kernel_rfl
theorem F_o3 : one Tryz.prog 3 = true := by kernel_rfl
set_option maxHeartbeats 4000000 in
theorem s_IndexFuncE (x : Ex) (A : Option Addr) (c : Nat) (g : Nat) (w : World) (p : Ex → Bool) (hl : x.kids.length ≤ 140737488351232) (hr : Row RE 6 w A x.kids) (hp : ∀ (j : Nat) (y : Ex) (A : Option Addr) (c : Nat) (w' : World), x.kids[j]? = some y → Ext w w' → y.okc c → Row RE 6 w' A y.kids → Rt Tryz.prog 135 #[.agg #[.int .i8 y.op, .string y.t.v, .int .i8 y.t.l.k, .int .i64 y.t.l.n, .string y.t.l.s, .slice A y.kids.length c], .pointer (some ⟨g, 0, none⟩)] w' fun v w2 => v = .bool (p y) ∧ Ext w' w2) :
    Rt Tryz.prog 146 #[.slice A x.kids.length c, .func (.func 135) #[] #[.pointer (some ⟨g, 0, none⟩)]] w fun v w' => v = .int .i64 (posB p x.kids) ∧ Ext w w' := by
  refine enter Tryz.func146 rfl (l := [.slice A x.kids.length c, .func (.func 135) #[] #[.pointer (some ⟨g, 0, none⟩)]]) rfl Tryz.ntmps146 (Nat.le_of_ble_eq_true rfl) ?_
  refine c_seq (c_reg ?_)
  refine s_assign (v := .int .i64 0) ev_c (w0 rfl) ?_
  refine c_done (n_then (c_seq (c_seq (c_reg ?_))))
  refine s_move (v := .slice A x.kids.length c) (ev_t rfl rfl) (w0 rfl) ?_
  refine s_lenL F_l34 (ev_t rfl rfl) (w0 rfl) ?_
  refine s_move (v := .int .i64 0) ev_c (w0 rfl) ?_
  refine c_done (n_then (c_block ?_))
  refine c_loop (α := Nat) (fun (i : Nat) env_ w_ => Ext w w_ ∧ (∀ j y, j < i → x.kids[j]? = some y → p y = false) ∧ env_ 0 = .slice A x.kids.length c ∧ env_ 1 = .func (.func 135) #[] #[.pointer (some ⟨g, 0, none⟩)] ∧ env_ 7 = .int .i64 (x.kids.length : Int) ∧ env_ 8 = .int .i64 ((i : Nat) : Int)) (fun i => x.kids.length - i) (0) ⟨Ext.refl _, (fun j y h => absurd h (Nat.not_lt_zero j)), rfl, rfl, rfl, rfl⟩ ?_
  rintro i env3 w1 ⟨x2, i4, e5, e6, e7, e8⟩
  refine c_seq (c_reg ?_)
  refine s_cmp (r := decide (((i : Nat) : Int) < (x.kids.length : Int))) (ev_t rfl e8) (ev_t rfl e7) rfl (w0 rfl) ?_
  refine c_done (n_then (c_seq ?_))
  by_cases h9 : ((i : Nat) : Int) < (x.kids.length : Int)
  · refine c_cond1 (vb (ev_t rfl rfl) (decide_eq_true h9)) ?_
    refine c_skip (n_then (c_seq (c_block (c_seq (c_reg ?_)))))
    refine s_move (v := .int .i64 ((i : Nat) : Int)) (ev_t rfl e8) (w0 rfl) ?_
    refine s_assign (v := .int .i64 ((i : Nat) : Int)) (ev_t rfl rfl) (w0 rfl) ?_
    refine c_done (n_then (c_seq (c_reg ?_)))
    refine s_move (v := .func (.func 135) #[] #[.pointer (some ⟨g, 0, none⟩)]) (ev_t rfl e6) (w0 rfl) ?_
    refine s_move (v := .slice A x.kids.length c) (ev_t rfl e5) (w0 rfl) ?_
    refine s_move (v := .int .i64 ((i : Nat) : Int)) (ev_t rfl rfl) (w0 rfl) ?_
    obtain ⟨b10, o11, x12, csx12, hA13, hx14, hR15, hc16⟩ := Row.at_ hr i (by omega)
    obtain rfl := Ex.kid_of hx14
    obtain ⟨A17, c18, rfl, ho19, hr20⟩ := RE.open_ hR15
    refine s_indexR (j := i) F_l34 (ev_t rfl rfl) hA13 (ev_t rfl rfl) rfl (by omega) (w0 rfl) ?_
    refine s_loadL (cs := [.int .i8 ((x.kid i).op), .string ((x.kid i).t.v), .int .i8 ((x.kid i).t.l.k), .int .i64 ((x.kid i).t.l.n), .string ((x.kid i).t.l.s), .slice A17 ((x.kid i).kids.length) c18]) (ca := #[.int .i8 ((x.kid i).op), .string ((x.kid i).t.v), .int .i8 ((x.kid i).t.l.k), .int .i64 ((x.kid i).t.l.n), .string ((x.kid i).t.l.s), .slice A17 ((x.kid i).kids.length) c18]) F_m36 (ev_t rfl rfl) rfl rfl (sub_cells (cells_ext x2 hc16) 0 (cs2 := [.int .i8 ((x.kid i).op), .string ((x.kid i).t.v), .int .i8 ((x.kid i).t.l.k), .int .i64 ((x.kid i).t.l.n), .string ((x.kid i).t.l.s), .slice A17 ((x.kid i).kids.length) c18]) rfl) (w0 rfl) ?_
    refine s_call F_e135 (w0 rfl) (ev_t rfl rfl) (m1 (ev_t rfl rfl)) (args := #[.agg #[.int .i8 ((x.kid i).op), .string ((x.kid i).t.v), .int .i8 ((x.kid i).t.l.k), .int .i64 ((x.kid i).t.l.n), .string ((x.kid i).t.l.s), .slice A17 ((x.kid i).kids.length) c18], .pointer (some ⟨g, 0, none⟩)]) rfl (hp i (x.kid i) A17 c18 _ (kid_there (x := x) (j := i) (by omega)) x2 ho19 (Row.extE hr20 x2)) ?_
    rintro _ w22 ⟨rfl, x21⟩
    refine c_done (n_then ?_)
    rcases Bool.eq_false_or_eq_true (p (x.kid i)) with h23 | h23
    · refine c_cond1 (vb (ev_t rfl rfl) h23) ?_
      refine c_seq (c_reg ?_)
      refine s_move (v := .int .i64 ((i : Nat) : Int)) (ev_t rfl rfl) (w0 rfl) ?_
      refine s_assign (v := .int .i64 ((i : Nat) : Int)) (ev_t rfl rfl) (w0 rfl) ?_
      refine c_done (n_then (c_ret (r_block (r_then (r_then (r_block (r_then ?_)))))))
      refine ret1 (v := .int .i64 ((i : Nat) : Int)) rfl rfl rfl ?_
      refine ⟨_, rfl, ?_, (Ext.trans x2 x21)⟩
      (refine congrArg (Value.int .i64) (Eq.symm (posB_at i4 (kid_there (x := x) (j := i) (by omega)) (by assumption))))
    · refine c_cond0 (vb (ev_t rfl rfl) h23) ?_
      refine c_skip (n_block (n_then (c_reg ?_)))
      refine s_add (r := ((i + 1 : Nat) : Int)) (ev_t rfl e8) ev_c (by omega) (by omega) (w0 rfl) ?_
      refine s_move (v := .int .i64 ((i + 1 : Nat) : Int)) (ev_t rfl rfl) (w0 rfl) ?_
      refine c_done ?_
      exact ⟨(i + 1), _, rfl, ⟨(Ext.trans x2 x21), (kids_stepF i4 (kid_there (by omega)) (by assumption)), e5, e6, e7, rfl⟩, (show x.kids.length - (i + 1) < x.kids.length - i by omega)⟩
  · refine c_cond0 (vb (ev_t rfl rfl) (decide_eq_false h9)) ?_
    refine c_exit (e_then (e_then (e_hit (n_then (c_seq (c_reg ?_))))))
    refine s_assign (v := .int .i64 (-1)) ev_c (w0 rfl) ?_
    refine c_done (n_then (c_ret ?_))
    refine ret1 (v := .int .i64 (-1)) rfl rfl rfl ?_
    refine ⟨_, rfl, ?_, x2⟩
    (refine congrArg (Value.int .i64) (Eq.symm (posB_none (by assumption) i4)))
set_option maxHeartbeats 4000000 in
theorem s_ContainsFuncE (x : Ex) (A : Option Addr) (c : Nat) (g : Nat) (w : World) (p : Ex → Bool) (hl : x.kids.length ≤ 140737488351232) (hr : Row RE 6 w A x.kids) (hp : ∀ (j : Nat) (y : Ex) (A : Option Addr) (c : Nat) (w' : World), x.kids[j]? = some y → Ext w w' → y.okc c → Row RE 6 w' A y.kids → Rt Tryz.prog 135 #[.agg #[.int .i8 y.op, .string y.t.v, .int .i8 y.t.l.k, .int .i64 y.t.l.n, .string y.t.l.s, .slice A y.kids.length c], .pointer (some ⟨g, 0, none⟩)] w' fun v w2 => v = .bool (p y) ∧ Ext w' w2) :
    Rt Tryz.prog 134 #[.slice A x.kids.length c, .func (.func 135) #[] #[.pointer (some ⟨g, 0, none⟩)]] w fun v w' => v = .bool (decide (0 ≤ posB p x.kids)) ∧ Ext w w' := by
  refine enter Tryz.func134 rfl (l := [.slice A x.kids.length c, .func (.func 135) #[] #[.pointer (some ⟨g, 0, none⟩)]]) rfl Tryz.ntmps134 (Nat.le_of_ble_eq_true rfl) ?_
  refine c_seq (c_reg ?_)
  refine s_assign (v := .bool false) ev_c (w0 rfl) ?_
  refine c_done (n_then (c_seq (c_reg ?_)))
  refine s_move (v := .slice A x.kids.length c) (ev_t rfl rfl) (w0 rfl) ?_
  refine s_move (v := .func (.func 135) #[] #[.pointer (some ⟨g, 0, none⟩)]) (ev_t rfl rfl) (w0 rfl) ?_
  refine s_call F_e146 (w0 rfl) ev_f (m2 (ev_t rfl rfl) (ev_t rfl rfl)) (args := #[.slice A x.kids.length c, .func (.func 135) #[] #[.pointer (some ⟨g, 0, none⟩)]]) rfl (s_IndexFuncE x A c g _ p hl hr hp) ?_
  rintro _ w2 ⟨rfl, x1⟩
  refine s_cmp (r := decide (0 ≤ posB p x.kids)) (ev_t rfl rfl) ev_c rfl (w0 rfl) ?_
  refine s_assign (v := .bool (decide (0 ≤ posB p x.kids))) (ev_t rfl rfl) (w0 rfl) ?_
  refine c_done (n_then (c_ret ?_))
  refine ret1 (v := .bool (decide (0 ≤ posB p x.kids))) rfl rfl rfl ?_
  refine ⟨_, rfl, ?_, x1⟩
  rfl
set_option maxHeartbeats 4000000 in
theorem t_deep1 (d : Nat) (x : Ex) (A : Option Addr) (c : Nat) (g : Nat) (w : World) (ho : x.okc c) (hr : Row RE 6 w A x.kids) (hg : w.heap[g]? = some (.cells #[.int .i64 ((d : Nat) : Int)] 3 (0, 0))) (hd : d ≤ 100) (hd0 : d ≠ 0) (ih : ∀ (x : Ex) (A : Option Addr) (c : Nat) (w : World), x.okc c → Row RE 6 w A x.kids → Rt Tryz.prog 114 #[.agg #[.int .i8 x.op, .string x.t.v, .int .i8 x.t.l.k, .int .i64 x.t.l.n, .string x.t.l.s, .slice A x.kids.length c], .int .i64 ((d - 1 : Nat) : Int)] w fun v w' => v = .bool (exB (d - 1) x) ∧ Ext w w') :
    Rt Tryz.prog 135 #[.agg #[.int .i8 x.op, .string x.t.v, .int .i8 x.t.l.k, .int .i64 x.t.l.n, .string x.t.l.s, .slice A x.kids.length c], .pointer (some ⟨g, 0, none⟩)] w fun v w' => v = .bool (!exB (d - 1) x) ∧ Ext w w' := by
  refine enter Tryz.func135 rfl (l := [.agg #[.int .i8 x.op, .string x.t.v, .int .i8 x.t.l.k, .int .i64 x.t.l.n, .string x.t.l.s, .slice A x.kids.length c], .pointer (some ⟨g, 0, none⟩)]) rfl Tryz.ntmps135 (Nat.le_of_ble_eq_true rfl) ?_
  have hl_ := Ex.okc.l ho
  have hc_ := Ex.okc.c ho
  refine c_seq (c_reg ?_)
  refine s_box (v := .agg #[.int .i8 x.op, .string x.t.v, .int .i8 x.t.l.k, .int .i64 x.t.l.n, .string x.t.l.s, .slice A x.kids.length c]) (cs := #[.int .i8 x.op, .string x.t.v, .int .i8 x.t.l.k, .int .i64 x.t.l.n, .string x.t.l.s, .slice A x.kids.length c]) (w0 rfl) (ev_t rfl rfl) rfl ?_
  intro w2 g1 n3
  refine s_assign (v := .bool false) ev_c (w0 rfl) ?_
  refine c_done (n_then (c_seq (c_reg ?_)))
  refine s_loadL (cs := [.int .i8 x.op, .string x.t.v, .int .i8 x.t.l.k, .int .i64 x.t.l.n, .string x.t.l.s, .slice A x.kids.length c]) (ca := #[.int .i8 x.op, .string x.t.v, .int .i8 x.t.l.k, .int .i64 x.t.l.n, .string x.t.l.s, .slice A x.kids.length c]) F_m36 (ev_t rfl rfl) rfl rfl (blk_cells (NewB.blk n3) 0 (cs := [.int .i8 x.op, .string x.t.v, .int .i8 x.t.l.k, .int .i64 x.t.l.n, .string x.t.l.s, .slice A x.kids.length c]) rfl) (w0 rfl) ?_
  refine s_load (v := .int .i64 ((d : Nat) : Int)) F_o3 (ev_t rfl rfl) (cell_of_blk (i := 0) (Ext.blk (NewB.ext n3) hg) rfl) (w0 rfl) ?_
  refine s_sub (r := ((d - 1 : Nat) : Int)) (ev_t rfl rfl) ev_c (by omega) (by omega) (w0 rfl) ?_
  refine s_call F_e114 (w0 rfl) ev_f (m2 (ev_t rfl rfl) (ev_t rfl rfl)) (args := #[.agg #[.int .i8 x.op, .string x.t.v, .int .i8 x.t.l.k, .int .i64 x.t.l.n, .string x.t.l.s, .slice A x.kids.length c], .int .i64 ((d - 1 : Nat) : Int)]) rfl (ih x A c _ ho (Row.extE hr (NewB.ext n3))) ?_
  rintro _ w5 ⟨rfl, x4⟩
  refine s_not (b := exB (d - 1) x) (ev_t rfl rfl) (w0 rfl) ?_
  refine s_assign (v := .bool (!(exB (d - 1) x))) (ev_t rfl rfl) (w0 rfl) ?_
  refine c_done (n_then (c_ret ?_))
  refine ret1 (v := .bool (!(exB (d - 1) x))) rfl rfl rfl ?_
  refine ⟨_, rfl, ?_, (Ext.trans (NewB.ext n3) x4)⟩
  rfl
set_option maxHeartbeats 4000000 in
theorem t_deep_step (d : Nat) (x : Ex) (A : Option Addr) (c : Nat) (w : World) (ho : x.okc c) (hr : Row RE 6 w A x.kids) (hd : d ≤ 100) (ih : d ≠ 0 → ∀ (x : Ex) (A : Option Addr) (c : Nat) (w : World), x.okc c → Row RE 6 w A x.kids → Rt Tryz.prog 114 #[.agg #[.int .i8 x.op, .string x.t.v, .int .i8 x.t.l.k, .int .i64 x.t.l.n, .string x.t.l.s, .slice A x.kids.length c], .int .i64 ((d - 1 : Nat) : Int)] w fun v w' => v = .bool (exB (d - 1) x) ∧ Ext w w') :
    Rt Tryz.prog 114 #[.agg #[.int .i8 x.op, .string x.t.v, .int .i8 x.t.l.k, .int .i64 x.t.l.n, .string x.t.l.s, .slice A x.kids.length c], .int .i64 ((d : Nat) : Int)] w fun v w' => v = .bool (exB d x) ∧ Ext w w' := by
  refine enter Tryz.func114 rfl (l := [.agg #[.int .i8 x.op, .string x.t.v, .int .i8 x.t.l.k, .int .i64 x.t.l.n, .string x.t.l.s, .slice A x.kids.length c], .int .i64 ((d : Nat) : Int)]) rfl Tryz.ntmps114 (Nat.le_of_ble_eq_true rfl) ?_
  have hl_ := Ex.okc.l ho
  have hc_ := Ex.okc.c ho
  refine c_seq (c_reg ?_)
  refine s_box (v := .agg #[.int .i8 x.op, .string x.t.v, .int .i8 x.t.l.k, .int .i64 x.t.l.n, .string x.t.l.s, .slice A x.kids.length c]) (cs := #[.int .i8 x.op, .string x.t.v, .int .i8 x.t.l.k, .int .i64 x.t.l.n, .string x.t.l.s, .slice A x.kids.length c]) (w0 rfl) (ev_t rfl rfl) rfl ?_
  intro w2 g1 n3
  refine s_box (v := .int .i64 ((d : Nat) : Int)) (cs := #[.int .i64 ((d : Nat) : Int)]) (w0 rfl) (ev_t rfl rfl) rfl ?_
  intro w5 g4 n6
  refine s_assign (v := .bool false) ev_c (w0 rfl) ?_
  refine c_done (n_then (c_seq (c_seq (c_reg ?_))))
  refine s_load (v := .int .i64 ((d : Nat) : Int)) F_o3 (ev_t rfl rfl) (cell_of_blk (i := 0) (NewB.blk n6) rfl) (w0 rfl) ?_
  refine s_cmp (r := decide (((d : Nat) : Int) = 0)) (ev_t rfl rfl) ev_c rfl (w0 rfl) ?_
  refine c_done (n_then ?_)
  by_cases h7 : ((d : Nat) : Int) = 0
  · refine c_cond1 (vb (ev_t rfl rfl) (decide_eq_true h7)) ?_
    refine c_seq (c_reg ?_)
    refine s_assign (v := .bool false) ev_c (w0 rfl) ?_
    refine c_done (n_then (c_ret (r_then ?_)))
    refine ret1 (v := .bool false) rfl rfl rfl ?_
    refine ⟨_, rfl, ?_, (Ext.trans (NewB.ext n3) (NewB.ext n6))⟩
    (first | (have z_ : d = 0 := by omega); subst z_; rfl | (refine congrArg Value.bool ?_; rw [exB_pos (by omega)]; simp only [*, decide_true, decide_false, if_true, if_false, Bool.and_true, Bool.true_and, Bool.false_and, Bool.and_false, Bool.not_true, Bool.not_false, Bool.false_eq_true, reduceIte, not_true_eq_false, not_false_eq_true]))
  · refine c_cond0 (vb (ev_t rfl rfl) (decide_eq_false h7)) ?_
    refine c_skip (n_then (c_seq (c_seq (c_reg ?_))))
    refine s_field (off := 0) (o' := 0) F_f36_0 (ev_t rfl rfl) rfl (w0 rfl) ?_
    refine s_load (v := .int .i8 x.op) F_o28 (ev_t rfl rfl) (cell_of_blk (i := 0) (Ext.blk (NewB.ext n6) (NewB.blk n3)) rfl) (w0 rfl) ?_
    refine s_cmp (r := decide (x.op = 0)) (ev_t rfl rfl) ev_c rfl (w0 rfl) ?_
    refine c_done (n_then ?_)
    by_cases h8 : x.op = 0
    · refine c_cond1 (vb (ev_t rfl rfl) (decide_eq_true h8)) ?_
      refine c_seq (c_reg ?_)
      refine s_field (off := 5) (o' := 5) F_f36_2 (ev_t rfl rfl) rfl (w0 rfl) ?_
      refine s_load (v := .slice A x.kids.length c) F_o34 (ev_t rfl rfl) (cell_of_blk (i := 5) (Ext.blk (NewB.ext n6) (NewB.blk n3)) rfl) (w0 rfl) ?_
      refine s_lenL F_l34 (ev_t rfl rfl) (w0 rfl) ?_
      refine s_cmp (r := decide ((x.kids.length : Int) = 0)) (ev_t rfl rfl) ev_c rfl (w0 rfl) ?_
      by_cases h9 : (x.kids.length : Int) = 0
      · refine s_move (v := .bool true) (vb (ev_t rfl rfl) (decide_eq_true h9)) (w0 rfl) ?_
        refine s_field (off := 1) (o' := 1) F_f36_1 (ev_t rfl rfl) rfl (wy rfl rfl rfl rfl) ?_
        refine s_loadL (cs := [.string x.t.v, .int .i8 x.t.l.k, .int .i64 x.t.l.n, .string x.t.l.s]) (ca := #[.string x.t.v, .int .i8 x.t.l.k, .int .i64 x.t.l.n, .string x.t.l.s]) F_m33 (ev_t rfl rfl) rfl rfl (blk_cells (Ext.blk (NewB.ext n6) (NewB.blk n3)) 1 (cs := [.string x.t.v, .int .i8 x.t.l.k, .int .i64 x.t.l.n, .string x.t.l.s]) rfl) (wy rfl rfl rfl rfl) ?_
        refine s_call F_e119 (wy rfl rfl rfl rfl) ev_f (m1 (ev_t rfl rfl)) (args := #[.agg #[.string x.t.v, .int .i8 x.t.l.k, .int .i64 x.t.l.n, .string x.t.l.s]]) rfl (t_solid x.t _ (Ex.okc.t ho)) ?_
        rintro _ w11 ⟨rfl, x10⟩
        refine s_pick1 (v := .bool (!decide (x.t.v = ⟨#[95]⟩) && tmB x.t)) (ev_t rfl rfl) (ev_t rfl rfl) (w0 rfl) ?_
        refine s_assign (v := .bool (!decide (x.t.v = ⟨#[95]⟩) && tmB x.t)) (ev_t rfl rfl) (w0 rfl) ?_
        refine c_done (n_then (c_ret (r_then ?_)))
        refine ret1 (v := .bool (!decide (x.t.v = ⟨#[95]⟩) && tmB x.t)) rfl rfl rfl ?_
        refine ⟨_, rfl, ?_, (Ext.trans (Ext.trans (NewB.ext n3) (NewB.ext n6)) x10)⟩
        (first | (have z_ : d = 0 := by omega); subst z_; rfl | (refine congrArg Value.bool ?_; rw [exB_pos (by omega)]; simp only [*, decide_true, decide_false, if_true, if_false, Bool.and_true, Bool.true_and, Bool.false_and, Bool.and_false, Bool.not_true, Bool.not_false, Bool.false_eq_true, reduceIte, not_true_eq_false, not_false_eq_true]))
      · refine s_move (v := .bool false) (vb (ev_t rfl rfl) (decide_eq_false h9)) (w0 rfl) ?_
        refine s_skip (wn rfl rfl rfl rfl rfl) ?_
        refine s_skip (wn rfl rfl rfl rfl rfl) ?_
        refine s_skip (wn rfl rfl rfl rfl rfl) ?_
        refine s_pick0 (v := .bool false) (ev_t rfl rfl) ev_c (w0 rfl) ?_
        refine s_assign (v := .bool false) (ev_t rfl rfl) (w0 rfl) ?_
        refine c_done (n_then (c_ret (r_then ?_)))
        refine ret1 (v := .bool false) rfl rfl rfl ?_
        refine ⟨_, rfl, ?_, (Ext.trans (NewB.ext n3) (NewB.ext n6))⟩
        (first | (have z_ : d = 0 := by omega); subst z_; rfl | (refine congrArg Value.bool ?_; rw [exB_pos (by omega)]; simp only [*, decide_true, decide_false, if_true, if_false, Bool.and_true, Bool.true_and, Bool.false_and, Bool.and_false, Bool.not_true, Bool.not_false, Bool.false_eq_true, reduceIte, not_true_eq_false, not_false_eq_true]))
    · refine c_cond0 (vb (ev_t rfl rfl) (decide_eq_false h8)) ?_
      refine c_skip (n_then (c_seq (c_seq ?_)))
      refine c_quiet mixed (by kernel_rfl) ?_
      refine q_val (v := .pointer (some ⟨g1, 1, none⟩)) (w0 rfl) (fun w_ c_ => r_field (off := 1) (o' := 1) F_f36_1 (ev_t rfl rfl) rfl) ?_
      refine q_val (v := .agg #[.string x.t.v, .int .i8 x.t.l.k, .int .i64 x.t.l.n, .string x.t.l.s]) (w0 rfl) (fun w_ c_ => r_loadL (cs := [.string x.t.v, .int .i8 x.t.l.k, .int .i64 x.t.l.n, .string x.t.l.s]) (ca := #[.string x.t.v, .int .i8 x.t.l.k, .int .i64 x.t.l.n, .string x.t.l.s]) F_m33 (ev_t rfl rfl) rfl rfl (blk_cells (Ext.blk c_ (Ext.blk (NewB.ext n6) (NewB.blk n3))) 1 (cs := [.string x.t.v, .int .i8 x.t.l.k, .int .i64 x.t.l.n, .string x.t.l.s]) rfl)) ?_
      refine q_call (v := .bool (zT x.t)) F_e113 (w0 rfl) ev_f (m1 (ev_t rfl rfl)) (args := #[.agg #[.string x.t.v, .int .i8 x.t.l.k, .int .i64 x.t.l.n, .string x.t.l.s]]) rfl (fun w_ c_ => Rt.mono (t_none x.t _) (fun v_ w2_ h_ => ⟨h_.1, Ext.trans c_ h_.2⟩)) ?_
      refine q_val (v := .bool (!(zT x.t))) (w0 rfl) (fun w_ c_ => r_not (b := zT x.t) (ev_t rfl rfl)) ?_
      rcases Bool.eq_false_or_eq_true (zT x.t) with h12 | h12
      · refine q_val (v := .bool false) (w0 rfl) (fun w_ c_ => r_move (v := .bool false) (vb (ev_t rfl rfl) (nbt h12))) ?_
        refine q_val (v := .pointer (some ⟨g1, 5, none⟩)) (wy rfl rfl rfl rfl) (fun w_ c_ => r_field (off := 5) (o' := 5) F_f36_2 (ev_t rfl rfl) rfl) ?_
        refine q_val (v := .slice A x.kids.length c) (wy rfl rfl rfl rfl) (fun w_ c_ => r_load (v := .slice A x.kids.length c) F_o34 (ev_t rfl rfl) (cell_of_blk (i := 5) (Ext.blk c_ (Ext.blk (NewB.ext n6) (NewB.blk n3))) rfl)) ?_
        refine q_val (v := .int .i64 (x.kids.length : Int)) (wy rfl rfl rfl rfl) (fun w_ c_ => r_lenL F_l34 (ev_t rfl rfl)) ?_
        refine q_val (v := .pointer (some ⟨g1, 0, none⟩)) (wy rfl rfl rfl rfl) (fun w_ c_ => r_field (off := 0) (o' := 0) F_f36_0 (ev_t rfl rfl) rfl) ?_
        refine q_val (v := .int .i8 x.op) (wy rfl rfl rfl rfl) (fun w_ c_ => r_load (v := .int .i8 x.op) F_o28 (ev_t rfl rfl) (cell_of_blk (i := 0) (Ext.blk c_ (Ext.blk (NewB.ext n6) (NewB.blk n3))) rfl)) ?_
        refine q_call (v := .int .i64 (kidsN x.op)) F_e133 (wy rfl rfl rfl rfl) ev_f (m1 (ev_t rfl rfl)) (args := #[.int .i8 x.op]) rfl (fun w_ c_ => Rt.mono (t_arity x.op _) (fun v_ w2_ h_ => ⟨h_.1, Ext.trans c_ h_.2⟩)) ?_
        refine q_val (v := .bool (!decide ((x.kids.length : Int) = kidsN x.op))) (wy rfl rfl rfl rfl) (fun w_ c_ => r_cmp (r := !decide ((x.kids.length : Int) = kidsN x.op)) (ev_t rfl rfl) (ev_t rfl rfl) rfl) ?_
        refine q_val (v := .bool (!decide ((x.kids.length : Int) = kidsN x.op))) (w0 rfl) (fun w_ c_ => r_pick0 (v := .bool (!decide ((x.kids.length : Int) = kidsN x.op))) (ev_t rfl rfl) (ev_t rfl rfl)) ?_
        refine q_done ?_
        intro w13 x14
        refine n_then ?_
        by_cases h15 : (x.kids.length : Int) = kidsN x.op
        · refine c_cond0 (vb (ev_t rfl rfl) (nb0 h15)) ?_
          refine c_skip (n_then (c_seq (c_reg ?_)))
          refine s_field (off := 5) (o' := 5) F_f36_2 (ev_t rfl rfl) rfl (w0 rfl) ?_
          refine s_load (v := .slice A x.kids.length c) F_o34 (ev_t rfl rfl) (cell_of_blk (i := 5) (Ext.blk x14 (Ext.blk (NewB.ext n6) (NewB.blk n3))) rfl) (w0 rfl) ?_
          refine s_makeFunc (vf := #[]) (vc := #[.pointer (some ⟨g4, 0, none⟩)]) m0 (m1 (ev_t rfl rfl)) (w0 rfl) ?_
          refine s_call F_e134 (w0 rfl) ev_f (m2 (ev_t rfl rfl) (ev_t rfl rfl)) (args := #[.slice A x.kids.length c, .func (.func 135) #[] #[.pointer (some ⟨g4, 0, none⟩)]]) rfl (s_ContainsFuncE x A c g4 _ (fun y => !exB (d - 1) y) (by omega) (Row.extE (Row.extE (Row.extE hr (NewB.ext n3)) (NewB.ext n6)) x14) (fun j_ y_ A_ c_ w_ _ x_ ho_ hr_ => t_deep1 d y_ A_ c_ g4 w_ ho_ hr_ (Ext.blk x_ (Ext.blk x14 (NewB.blk n6))) hd (by omega) (ih (by omega)))) ?_
          rintro _ w17 ⟨rfl, x16⟩
          refine s_not (b := decide (0 ≤ posB (fun y => !exB (d - 1) y) x.kids)) (ev_t rfl rfl) (w0 rfl) ?_
          refine s_assign (v := .bool (!(decide (0 ≤ posB (fun y => !exB (d - 1) y) x.kids)))) (ev_t rfl rfl) (w0 rfl) ?_
          refine c_done (n_then (c_ret ?_))
          refine ret1 (v := .bool (!(decide (0 ≤ posB (fun y => !exB (d - 1) y) x.kids)))) rfl rfl rfl ?_
          refine ⟨_, rfl, ?_, (Ext.trans (Ext.trans (Ext.trans (NewB.ext n3) (NewB.ext n6)) x14) x16)⟩
          (refine congrArg Value.bool ?_; rw [posB_all, exB_pos (by omega), if_neg (by assumption)]; simp only [*, decide_true, decide_false, if_true, if_false, Bool.and_true, Bool.true_and, Bool.false_and, Bool.and_false, Bool.not_true, Bool.not_false, Bool.false_eq_true, reduceIte, not_true_eq_false, not_false_eq_true])
        · refine c_cond1 (vb (ev_t rfl rfl) (nb1 h15)) ?_
          refine c_seq (c_reg ?_)
          refine s_assign (v := .bool false) ev_c (w0 rfl) ?_
          refine c_done (n_then (c_ret (r_then ?_)))
          refine ret1 (v := .bool false) rfl rfl rfl ?_
          refine ⟨_, rfl, ?_, (Ext.trans (Ext.trans (NewB.ext n3) (NewB.ext n6)) x14)⟩
          (first | (have z_ : d = 0 := by omega); subst z_; rfl | (refine congrArg Value.bool ?_; rw [exB_pos (by omega)]; simp only [*, decide_true, decide_false, if_true, if_false, Bool.and_true, Bool.true_and, Bool.false_and, Bool.and_false, Bool.not_true, Bool.not_false, Bool.false_eq_true, reduceIte, not_true_eq_false, not_false_eq_true]))
      · refine q_val (v := .bool true) (w0 rfl) (fun w_ c_ => r_move (v := .bool true) (vb (ev_t rfl rfl) (nbf h12))) ?_
        refine q_skip (wn rfl rfl rfl rfl rfl) ?_
        refine q_skip (wn rfl rfl rfl rfl rfl) ?_
        refine q_skip (wn rfl rfl rfl rfl rfl) ?_
        refine q_skip (wn rfl rfl rfl rfl rfl) ?_
        refine q_skip (wn rfl rfl rfl rfl rfl) ?_
        refine q_skip (wn rfl rfl rfl rfl rfl) ?_
        refine q_skip (wn rfl rfl rfl rfl rfl) ?_
        refine q_val (v := .bool true) (w0 rfl) (fun w_ c_ => r_pick1 (v := .bool true) (ev_t rfl rfl) ev_c) ?_
        refine q_done ?_
        intro w18 x19
        refine n_then ?_
        refine c_cond1 (ev_t rfl rfl) ?_
        refine c_seq (c_reg ?_)
        refine s_assign (v := .bool false) ev_c (w0 rfl) ?_
        refine c_done (n_then (c_ret (r_then ?_)))
        refine ret1 (v := .bool false) rfl rfl rfl ?_
        refine ⟨_, rfl, ?_, (Ext.trans (Ext.trans (NewB.ext n3) (NewB.ext n6)) x19)⟩
        (first | (have z_ : d = 0 := by omega); subst z_; rfl | (refine congrArg Value.bool ?_; rw [exB_pos (by omega)]; simp only [*, decide_true, decide_false, if_true, if_false, Bool.and_true, Bool.true_and, Bool.false_and, Bool.and_false, Bool.not_true, Bool.not_false, Bool.false_eq_true, reduceIte, not_true_eq_false, not_false_eq_true]))
theorem t_deep : ∀ (d : Nat) (x : Ex) (A : Option Addr) (c : Nat) (w : World), d ≤ 100 → x.okc c → Row RE 6 w A x.kids → Rt Tryz.prog 114 #[.agg #[.int .i8 x.op, .string x.t.v, .int .i8 x.t.l.k, .int .i64 x.t.l.n, .string x.t.l.s, .slice A x.kids.length c], .int .i64 ((d : Nat) : Int)] w fun v w' => v = .bool (exB d x) ∧ Ext w w' := by
  intro d
  induction d with
  | zero =>
    intro x A c w hd ho hr
    exact t_deep_step 0 x A c w ho hr hd (fun h => absurd rfl h)
  | succ d ih =>
    intro x A c w hd ho hr
    exact t_deep_step (d + 1) x A c w ho hr hd (fun _ x A c w ho hr => ih x A c w (by omega) ho hr)
set_option maxHeartbeats 4000000 in
theorem t_CheckExpr (x : Ex) (A : Option Addr) (c : Nat) (w : World) (ho : x.okc c) (hr : Row RE 6 w A x.kids) :
    Rt Tryz.prog 76 #[.agg #[.int .i8 x.op, .string x.t.v, .int .i8 x.t.l.k, .int .i64 x.t.l.n, .string x.t.l.s, .slice A x.kids.length c]] w fun v w' => v = .int .i64 (code (exB 8 x)) ∧ Ext w w' := by
  refine enter Tryz.func76 rfl (l := [.agg #[.int .i8 x.op, .string x.t.v, .int .i8 x.t.l.k, .int .i64 x.t.l.n, .string x.t.l.s, .slice A x.kids.length c]]) rfl Tryz.ntmps76 (Nat.le_of_ble_eq_true rfl) ?_
  have hl_ := Ex.okc.l ho
  have hc_ := Ex.okc.c ho
  refine c_seq (c_reg ?_)
  refine s_box (v := .agg #[.int .i8 x.op, .string x.t.v, .int .i8 x.t.l.k, .int .i64 x.t.l.n, .string x.t.l.s, .slice A x.kids.length c]) (cs := #[.int .i8 x.op, .string x.t.v, .int .i8 x.t.l.k, .int .i64 x.t.l.n, .string x.t.l.s, .slice A x.kids.length c]) (w0 rfl) (ev_t rfl rfl) rfl ?_
  intro w2 g1 n3
  refine s_assign (v := .int .i64 0) ev_c (w0 rfl) ?_
  refine c_done (n_then (c_seq (c_reg ?_)))
  refine s_loadL (cs := [.int .i8 x.op, .string x.t.v, .int .i8 x.t.l.k, .int .i64 x.t.l.n, .string x.t.l.s, .slice A x.kids.length c]) (ca := #[.int .i8 x.op, .string x.t.v, .int .i8 x.t.l.k, .int .i64 x.t.l.n, .string x.t.l.s, .slice A x.kids.length c]) F_m36 (ev_t rfl rfl) rfl rfl (blk_cells (NewB.blk n3) 0 (cs := [.int .i8 x.op, .string x.t.v, .int .i8 x.t.l.k, .int .i64 x.t.l.n, .string x.t.l.s, .slice A x.kids.length c]) rfl) (w0 rfl) ?_
  refine s_call F_e114 (w0 rfl) ev_f (m2 (ev_t rfl rfl) ev_c) (args := #[.agg #[.int .i8 x.op, .string x.t.v, .int .i8 x.t.l.k, .int .i64 x.t.l.n, .string x.t.l.s, .slice A x.kids.length c], .int .i64 8]) rfl (t_deep 8 x A c _ (by decide) ho (Row.extE hr (NewB.ext n3))) ?_
  rintro _ w5 ⟨rfl, x4⟩
  refine s_call F_e64 (w0 rfl) ev_f (m1 (ev_t rfl rfl)) (args := #[.bool (exB 8 x)]) rfl (t_code (exB 8 x) _) ?_
  rintro _ w7 ⟨rfl, x6⟩
  refine s_assign (v := .int .i64 (code (exB 8 x))) (ev_t rfl rfl) (w0 rfl) ?_
  refine c_done (n_then (c_ret ?_))
  refine ret1 (v := .int .i64 (code (exB 8 x))) rfl rfl rfl ?_
  refine ⟨_, rfl, ?_, (Ext.trans (Ext.trans (NewB.ext n3) x4) x6)⟩
  rfl
end Go.Proofs.Zw

set_option linter.unusedVariables false
set_option linter.unusedSimpArgs false
namespace Go.Wk
open Go Go.RowKit Go.Lib
/-! ### a strings.Builder at the head of a block of type T (e: the bytes' type) -/
def BW (e T B : Nat) (w : World) (g : Nat) (s : ByteArray) : Prop :=
  e ≠ T ∧ B ≤ g ∧ ∃ a A c, (a = .pointer none ∨ a = .pointer (some ⟨g, 0, none⟩)) ∧ w.heap[g]? = some (.cells #[a, .slice A s.size c] T (0, 0)) ∧ w.ownsRow B e 1 (.slice A s.size c) s.size (strCells s)
/-- Only block g and the unfrozen rows of bytes may turn. -/
def Bld (e g : Nat) (w w' : World) : Prop := Keep (fun k => k = g ∨ ∃ cs, w.heap[k]? = some (.cells cs e (0, 0))) w w'
structure Wr (e T B g : Nat) (s : ByteArray) (w w' : World) : Prop where
  bw : BW e T B w' g s
  below : Below B w w'
  bld : Bld e g w w'
section
variable {e T B g : Nat} {w w' w2 w0 : World} {s : ByteArray}
theorem BW.lt (h : BW e T B w g s) : g < w.heap.size := by
  obtain ⟨_, _, _, _, _, _, h, _⟩ := h; exact lt_of_blk h
theorem BW.ext (h : BW e T B w g s) (k : Ext w w') : BW e T B w' g s := by
  obtain ⟨h1, h2, a, A, c, h3, h4, h5⟩ := h
  exact ⟨h1, h2, a, A, c, h3, k.blk h4, own_ext k h5⟩
theorem BW.cast {s2 : ByteArray} (h : BW e T B w g s) (he : s = s2) : BW e T B w g s2 := he ▸ h
theorem BW.new {cs : Array Value} (nb : NewB w g (.cells cs T (0, 0)) w') (hc : cs = #[.pointer none, .slice none 0 0]) (hT : e ≠ T) (hB : B ≤ w.heap.size) : BW e T B w' g ⟨#[]⟩ := by
  subst hc
  refine ⟨hT, by rw [nb.eq]; exact hB, _, none, 0, .inl rfl, nb.blk, own_nil B e 1⟩
theorem Wr.cast {s2 : ByteArray} (h : Wr e T B g s w w') (he : s = s2) : Wr e T B g s2 w w' := he ▸ h
theorem Bld.refl : Bld e g w w := Keep.refl _ _
theorem Bld.trans (h : Bld e g w w') (k : Bld e g w' w2) : Bld e g w w2 := by
  refine Keep.then_ h k fun i hi h2 => ?_
  by_cases hs : i = g ∨ ∃ cs, w.heap[i]? = some (.cells cs e (0, 0))
  · exact hs
  · rcases h2 with h2 | ⟨cs, h2⟩
    · exact .inl h2
    · rw [h.block i hi hs] at h2
      exact .inr ⟨cs, h2⟩
theorem Bld.of_ext (k : Ext w w') : Bld e g w w' := Keep.mono k (fun _ _ h => h.elim)
theorem Wr.refl (h : BW e T B w g s) : Wr e T B g s w w := ⟨h, Below.refl _ _, Bld.refl⟩
theorem Wr.then_ {s2 : ByteArray} (h : Wr e T B g s w w') (k : Wr e T B g s2 w' w2) : Wr e T B g s2 w w2 := ⟨k.bw, h.below.trans k.below, h.bld.trans k.bld⟩
theorem below_ext {B : Nat} (k : Ext w w') (hB : B ≤ w.heap.size) : Below B w w' := ⟨k.os, k.tape, k.output, k.size, fun i hi => k.block i (by omega) (fun h => h)⟩
theorem Wr.ext (h : Wr e T B g s w w') (k : Ext w' w2) (hB : B ≤ w.heap.size) : Wr e T B g s w w2 := ⟨h.bw.ext k, h.below.trans (below_ext k (Nat.le_trans hB h.below.size)), h.bld.trans (Bld.of_ext k)⟩
theorem Wr.of_ext (h : BW e T B w g s) (k : Ext w w') (hB : B ≤ w.heap.size) : Wr e T B g s w w' := (Wr.refl h).ext k hB
theorem Wr.size (h : Wr e T B g s w w') : w.heap.size ≤ w'.heap.size := h.bld.size
theorem Wr.after {B : Nat} {s : ByteArray} (h : Wr e T B g s w w') (k : Ext w0 w) (hB : B = w0.heap.size) : Ext w0 w' := by
  subst hB
  exact Ext.of_below ((Ext.below k).trans h.below)
theorem Bld.blk {i t : Nat} {cs : Array Value} {fz : Nat × Nat} (h : Bld e g w w') (hb : w.heap[i]? = some (.cells cs t fz)) (ht : t ≠ e ∨ fz ≠ (0, 0)) (hg : i ≠ g) : w'.heap[i]? = some (.cells cs t fz) := by
  refine Keep.blk h hb ?_
  rintro (h1 | ⟨cs2, h1⟩)
  · exact hg h1
  · rw [hb] at h1
    injection h1 with h1
    injection h1 with _ h2 h3
    rcases ht with ht | ht
    · exact ht h2
    · exact ht h3
theorem Wr.blk {i t : Nat} {cs : Array Value} {fz : Nat × Nat} (h : Wr e T B g s w w') (hb : w.heap[i]? = some (.cells cs t fz)) (ht : t ≠ e ∨ fz ≠ (0, 0)) (hg : i ≠ g) : w'.heap[i]? = some (.cells cs t fz) := Bld.blk h.bld hb ht hg
/-- What the builder's own writes turn: its block, its own row. -/
theorem Bld.own {A : Option Addr} {n c : Nat} {xs : List Value} (h : Keep (fun k => k = g ∨ some k = (Value.slice A n c).ownBlock) w w') (ho : w.ownsRow B e 1 (.slice A n c) n xs) : Bld e g w w' := by
  refine Keep.mono h fun i hi h => ?_
  rcases h with h | h
  · exact .inl h
  · rcases ho.2 with ⟨hv, _⟩ | ⟨g', cap, cur, hv, _, hh, _⟩
    · injection hv with hv; subst hv; simp [Value.ownBlock] at h
    · rw [hv] at h
      have : i = g' := by simpa [Value.ownBlock] using h
      subst this
      exact .inr ⟨cur, hh⟩
theorem below_own {A : Option Addr} {n c : Nat} {xs : List Value} (h : Keep (fun k => k = g ∨ some k = (Value.slice A n c).ownBlock) w w') (ho : w.ownsRow B e 1 (.slice A n c) n xs) (hg : B ≤ g) (hB : B ≤ w.heap.size) : Below B w w' := by
  refine ⟨h.os, h.tape, h.output, h.size, fun i hi => h.block i (by omega) ?_⟩
  rintro (h1 | h1)
  · omega
  · have := own_ge ho i h1; omega
end
theorem strCells_append (a b : ByteArray) : strCells (a ++ b) = strCells a ++ strCells b := by simp [strCells]
/-- Texts, one behind the other. -/
def catL : List ByteArray → ByteArray
  | [] => ⟨#[]⟩
  | a :: l => a ++ catL l
theorem app_nil (a : ByteArray) : a ++ (⟨#[]⟩ : ByteArray) = a := by apply Go.WideShapes.bytes_inj; simp
theorem nil_app (a : ByteArray) : (⟨#[]⟩ : ByteArray) ++ a = a := by apply Go.WideShapes.bytes_inj; simp
theorem app_assoc (a b c : ByteArray) : a ++ b ++ c = a ++ (b ++ c) := by apply Go.WideShapes.bytes_inj; simp
theorem catL_step (l : List ByteArray) (i : Nat) (hi : i < l.length) : catL (l.take (i + 1)) = catL (l.take i) ++ l[i] := by
  induction l generalizing i with
  | nil => simp at hi
  | cons a l ih =>
    cases i with
    | zero => simp [catL, app_nil, nil_app]
    | succ i =>
      simp only [List.take_succ_cons, catL, List.getElem_cons_succ]
      rw [ih i (by simpa using hi), app_assoc]
/-! ### the pointers of copyCheck -/
section
variable {P : Program} {ops : Array Oper} {Q : Exit → Act → World → Prop} {rest : List Oper} {n d t : Nat} {env : Nat → Value} {ds : List Deferred} {w w' : World} {v u : Value}
  {ty T : TypeId} {pos : String} {af : Array Edge} {gd : Option (Nat × Bool)} {x y z : Operand}
theorem s_eqNil {p : Option Addr} {T2 : TypeId} (h : P.underlying T = some (.pointer (P.pointee T))) (hx : (mkA n env ds).eval x = .pointer p) (hy : (mkA n env ds).eval y = .pointer none) (hw : Region.wanted ⟨some d, .binOp .eql T x y T2, ty, pos, af, gd⟩ (yielded ops (mkA n env ds).tmps) = true)
    (k : wpList P ops Q rest (mkA n (upd env d (.bool p.isNone)) ds) w) : wpList P ops Q (⟨some d, .binOp .eql T x y T2, ty, pos, af, gd⟩ :: rest) (mkA n env ds) w := by
  refine s_val hw (w' := w) (v := .bool p.isNone) ?_ k
  cases p <;> simp [execOp, hx, hy, eqGuard, run_eql_pointer_nil, h]
theorem s_neSame {a : Addr} {te : TypeId} {T2 : TypeId} (hp : P.underlying T = some (.pointer te)) (hte : (P.info? te).isSome = true) (hx : (mkA n env ds).eval x = .pointer (some a)) (hy : (mkA n env ds).eval y = .pointer (some a)) (hw : Region.wanted ⟨some d, .binOp .neq T x y T2, ty, pos, af, gd⟩ (yielded ops (mkA n env ds).tmps) = true)
    (k : wpList P ops Q rest (mkA n (upd env d (.bool false)) ds) w) : wpList P ops Q (⟨some d, .binOp .neq T x y T2, ty, pos, af, gd⟩ :: rest) (mkA n env ds) w := by
  refine s_val hw (w' := w) (v := .bool false) ?_ k
  obtain ⟨j, hte⟩ := Option.isSome_iff_exists.1 hte
  have := Go.Lib.run_neq_ptr_same (P := P) w (j := j) a hp hte
  simp [execOp, hx, hy, eqGuard, this]
theorem s_ptrConv {S2 : TypeId} {p : Value} (h : (convert T S2 p).run P w = .ok p w) (hx : (mkA n env ds).eval x = p) (hw : Region.wanted ⟨some d, .convert T S2 x, ty, pos, af, gd⟩ (yielded ops (mkA n env ds).tmps) = true)
    (k : wpList P ops Q rest (mkA n (upd env d p) ds) w) : wpList P ops Q (⟨some d, .convert T S2 x, ty, pos, af, gd⟩ :: rest) (mkA n env ds) w :=
  s_val hw (w' := w) (v := p) (by
    simp only [execOp, hx]
    rw [Sem.run_bind, h]
    rfl) k
theorem s_extern {F : FuncId} {fn : Func} {ex : Array Value → Sem Value} {p : Value} {ts : Array TypeId} (hf : P.funcs[F]? = some fn) (hname : (fn.name == "runtime.NumGoroutine") = false) (hb : fn.body.isNone = true) (hn : Extern.findNext fn = none) (he : Extern.find fn = some ex)
    (hx : (mkA n env ds).eval x = .func (.func F) #[] #[]) (hy : (mkA n env ds).eval y = p) (hr : (ex #[p]).run P w = .ok v w) (hw : Region.wanted ⟨some d, .call ⟨.value x, #[y], ts⟩, ty, pos, af, gd⟩ (yielded ops (mkA n env ds).tmps) = true)
    (k : wpList P ops Q rest (mkA n (upd env d v) ds) w) : wpList P ops Q (⟨some d, .call ⟨.value x, #[y], ts⟩, ty, pos, af, gd⟩ :: rest) (mkA n env ds) w := by
  refine s_val hw (w' := w) (v := v) ?_ k
  have h2 : (#[] : Array Value) ++ #[p] ++ #[] = #[p] := rfl
  simp only [execOp, resolve, hx, m1 hy, Deferred.ofValue, Sem.run_bind, Sem.run_pure, Result.andThen_ok, invoke]
  rw [h2, run_callFunc_extern hf hname hb hn he, hr]
  rfl
end
theorem conv_toU {P : Program} {src dst t T : TypeId} {m g : Nat} {w : World} {a b : Value} {fz : Nat × Nat} (hs : P.underlying src = some (.pointer t)) (hd : P.underlying dst = some .unsafePointer) (ht : (P.info? t).map (·.size) = some (m + 1)) (hb : w.heap[g]? = some (.cells #[a, b] T fz)) : (convert src dst (.pointer (some ⟨g, 0, none⟩))).run P w = .ok (.pointer (some ⟨g, 0, none⟩)) w := by
  obtain ⟨j, hj, hm⟩ := Option.map_eq_some_iff.1 ht
  exact Go.Lib.run_to_unsafe w ⟨g, 0, none⟩ hs hd hj (by omega) (e := T) (cells := 2) (by simp [World.shape?, hb]) (Nat.zero_lt_succ 1)
theorem conv_ofU {P : Program} {src dst u T : TypeId} {g : Nat} {w : World} {a b : Value} {fz : Nat × Nat} (hs : P.underlying src = some .unsafePointer) (hd : P.underlying dst = some (.pointer u)) (hu : (P.info? u).isSome = true) (hb : w.heap[g]? = some (.cells #[a, b] T fz)) (hl : liesAt P P.depth T (2 / P.cellsOf T) 0 u 1 = true) : (convert src dst (.pointer (some ⟨g, 0, none⟩))).run P w = .ok (.pointer (some ⟨g, 0, none⟩)) w := by
  obtain ⟨j, hj⟩ := Option.isSome_iff_exists.1 hu
  exact Go.Lib.run_from_unsafe w ⟨g, 0, none⟩ hs hd hj (e := T) (cells := 2) (by simp [World.shape?, hb]) hl
theorem own_wrote {e T B g n : Nat} {w w' : World} {v : Value} {xs : List Value} {cs : Array Value} {fz : Nat × Nat} {o : Obj} (ho : w.ownsRow B e 1 v n xs) (hb : w.heap[g]? = some (.cells cs T fz)) (hne : e ≠ T) (wr : Wrote w g o w') : w'.ownsRow B e 1 v n xs :=
  own_move ho fun k hk => wr.keep.block k (own_lt ho k hk) (by rintro rfl; exact own_ne ho hb hne hk)
/-- Behind a write: the builder, one more piece in it. -/
theorem BW.finish {e T B g n' c c' : Nat} {w w1 w1' w2 w3 : World} {s0 s : ByteArray} {A A' : Option Addr} {cs : Array Value} (hne : e ≠ T) (hBg : B ≤ g) (hB : B ≤ w.heap.size) (hb : w.heap[g]? = some (.cells cs T (0, 0))) (ho : w.ownsRow B e 1 (.slice A s0.size c) s0.size (strCells s0))
    (wr1 : Wrote w g (.cells #[.pointer (some ⟨g, 0, none⟩), .slice A s0.size c] T (0, 0)) w1) (x1 : Ext w1 w1') (k : Keep (fun i => some i = (Value.slice A s0.size c).ownBlock) w1' w2) (ow : w2.ownsRow B e 1 (.slice A' n' c') n' (strCells s0 ++ strCells s)) (hn : n' = s0.size + s.size)
    (wr2 : Wrote w2 g (.cells #[.pointer (some ⟨g, 0, none⟩), .slice A' n' c'] T (0, 0)) w3) : Wr e T B g (s0 ++ s) w w3 := by
  subst hn
  have hg2 : w2.heap[g]? = some (.cells #[.pointer (some ⟨g, 0, none⟩), .slice A s0.size c] T (0, 0)) := k.blk (x1.blk wr1.blk) (own_ne (own_ext x1 (own_wrote ho hb hne wr1)) (x1.blk wr1.blk) hne)
  have ow3 := own_wrote ow hg2 hne wr2
  have h1 : Keep (fun i => i = g ∨ some i = (Value.slice A s0.size c).ownBlock) w w3 :=
    (((Keep.mono wr1.keep (fun _ _ h => Or.inl h)).ext x1).then_ k (fun _ _ h => .inr h)).then_ wr2.keep (fun _ _ h => .inl h)
  refine ⟨⟨hne, hBg, _, A', c', .inr rfl, ?_, ?_⟩, below_own h1 ho hBg hB, Bld.own h1 ho⟩
  · rw [ByteArray.size_append]; exact wr2.blk
  · rw [ByteArray.size_append, strCells_append]; exact ow3
section
variable {P : Program} {ops : Array Oper} {Q : Exit → Act → World → Prop} {rest : List Oper} {n d t : Nat} {env : Nat → Value} {ds : List Deferred} {w w' : World} {v u : Value}
  {ty T : TypeId} {pos : String} {af : Array Edge} {gd : Option (Nat × Bool)} {x y z : Operand}
theorem r_sliceData {a : Addr} {ln c : Nat} (hx : (mkA n env ds).eval x = .slice (some a) ln c) (hc : c ≠ 0) : (execOp (mkA n env ds).eval ⟨some d, .call ⟨.builtin .unsafeSliceData, #[x], #[T]⟩, ty, pos, af, gd⟩).run P w = .ok (.value (.pointer (some a))) w := by
  simp only [execOp, resolve, Sem.run_bind, Sem.run_pure, Result.andThen_ok, invoke, builtin, m1 hx]
  rw [run_unsafeSliceData_row w #[T] ty a ln c hc]
  rfl
theorem s_unsafeString {e B c : Nat} {b : Nat} {pt it : TypeId} {s : ByteArray} {A : Option Addr} (hp : P.underlying pt = some (.pointer e)) (hc : P.cellsOf e = 1) (ho : w.ownsRow B e 1 (.slice A s.size c) s.size (strCells s)) (h0 : s.size ≠ 0) (hA : A = some ⟨b, 0, none⟩)
    (hx : (mkA n env ds).eval x = .pointer (some ⟨b, 0, none⟩)) (hy : (mkA n env ds).eval y = .int .i64 s.size) (hw : Region.wanted ⟨some d, .call ⟨.builtin .unsafeString, #[x, y], #[pt, it]⟩, ty, pos, af, gd⟩ (yielded ops (mkA n env ds).tmps) = true)
    (k : ∀ w', Below B w w' → wpList P ops Q rest (mkA n (upd env d (.string s)) ds) w') : wpList P ops Q (⟨some d, .call ⟨.builtin .unsafeString, #[x, y], #[pt, it]⟩, ty, pos, af, gd⟩ :: rest) (mkA n env ds) w := by
  have hB : B ≤ b := own_ge ho b (by rw [hA]; rfl)
  obtain ⟨g, cap, cur, hv, hg, hh, h1, h2, h3, h4⟩ : ∃ g cap cur, Value.slice A s.size c = .slice (some ⟨g, 0, none⟩) s.size cap ∧ B ≤ g ∧ w.heap[g]? = some (.cells cur e (0, 0)) ∧ s.size ≤ cap ∧ cap ≤ maxLen ∧ cur.size = cap * 1 ∧ cur.toList.take (s.size * 1) = strCells s := by
    rcases ho.2 with ⟨_, hn⟩ | h
    · omega
    · exact h
  injection hv with hv _ hcap
  rw [hA] at hv
  have hbg : b = g := by injection hv with hv; injection hv
  subst hbg
  have hl : s.data.toList.length = s.size := Array.length_toList
  have hrun := run_unsafeString_row (P := P) w pt it ty e hp hc b cur.size (by simp [World.shape?, hh]) s.data.toList (fun h => h0 (by rw [← hl, h]; rfl)) (by omega) (by simp only [maxLen] at h2; omega) (fun j xx hj => by
    rw [add0, Nat.zero_add]
    refine cell_of_blk hh ?_
    have hj' : j < s.data.toList.length := (List.getElem?_eq_some_iff.1 hj).1
    have hs : (strCells s)[j]? = some (.int .u8 xx.toNat) := by simp only [strCells, List.getElem?_map, hj, Option.map_some]
    rw [← h4, List.getElem?_take, if_pos (by omega)] at hs
    simpa using hs)
  refine s_val hw (w' := w.freeze ⟨b, 0, none⟩ s.size) (v := .string s) ?_ (k _ (below_freeze (Below.refl B w) (by exact hB) s.size))
  simp only [execOp, resolve, Sem.run_bind, Sem.run_pure, Result.andThen_ok, invoke, builtin, m2 hx hy]
  rw [hl] at hrun
  rw [hrun]
  rfl
end
theorem own_cap {w : World} {base e m n c : Nat} {A : Option Addr} {xs : List Value} (h : w.ownsRow base e m (.slice A n c) n xs) (h0 : n ≠ 0) : c ≠ 0 := by
  rcases h.2 with ⟨_, h1⟩ | ⟨g, cap, cur, hv, hg, hh, h1, h2, h3, h4⟩
  · exact absurd h1 h0
  · injection hv with _ _ hc
    omega
end Go.Wk

set_option linter.unusedVariables false
set_option linter.unusedSimpArgs false
set_option maxRecDepth 10000
namespace Go.Proofs.Zw
open Go Go.Wk Go.Proofs Go.Lib
attribute [local irreducible] Go.wpList Go.wpStill Go.wpQuiet Go.Code.wp Go.Calls
theorem F_co5 : Tryz.prog.cellsOf 5 = 1 := by kernel_rfl
theorem F_e122 : enterable Tryz.prog 122 = true := by kernel_rfl
theorem F_f95_0 : fieldAt Tryz.prog 95 0 0 = true := by kernel_rfl
theorem F_f95_1 : fieldAt Tryz.prog 95 1 1 = true := by kernel_rfl
theorem F_is95 : (Tryz.prog.info? 95).isSome = true := by kernel_rfl
theorem F_o92 : one Tryz.prog 92 = true := by kernel_rfl
theorem F_o93 : one Tryz.prog 93 = true := by kernel_rfl
theorem F_sz92 : (Tryz.prog.info? 92).map (·.size) = some 1 := by kernel_rfl
theorem F_sz93 : (Tryz.prog.info? 93).map (·.size) = some 1 := by kernel_rfl
theorem F_sz95 : (Tryz.prog.info? 95).map (·.size) = some 2 := by kernel_rfl
theorem F_ue143 : Tryz.prog.underlying 143 = some (.pointer 5) := by kernel_rfl
theorem F_ue92 : Tryz.prog.underlying 92 = some (.pointer 95) := by kernel_rfl
theorem F_up92 : Tryz.prog.underlying 92 = some (.pointer (Tryz.prog.pointee 92)) := by kernel_rfl
theorem F_uu173 : Tryz.prog.underlying 173 = some .unsafePointer := by kernel_rfl
set_option maxHeartbeats 4000000 in
theorem b_copyCheck_fresh (T g n c : Nat) (A : Option Addr) (w : World) (hg : w.heap[g]? = some (.cells #[.pointer none, .slice A n c] T (0, 0))) (hlies : liesAt Tryz.prog Tryz.prog.depth T (2 / Tryz.prog.cellsOf T) 0 95 1 = true) :
    Rt Tryz.prog 122 #[.pointer (some ⟨g, 0, none⟩)] w fun v w' => v = .tuple #[] ∧ Wrote w g (.cells #[.pointer (some ⟨g, 0, none⟩), .slice A n c] T (0, 0)) w' := by
  refine enter Tryz.func122 rfl (l := [.pointer (some ⟨g, 0, none⟩)]) rfl Tryz.ntmps122 (Nat.le_of_ble_eq_true rfl) ?_
  refine c_seq (c_reg ?_)
  refine s_move (v := .pointer (some ⟨g, 0, none⟩)) (ev_t rfl rfl) (w0 rfl) ?_
  refine s_nilCheck (ev_t rfl rfl) (w0 rfl) ?_
  refine s_field (off := 0) (o' := 0) F_f95_0 (ev_t rfl rfl) rfl (w0 rfl) ?_
  refine s_load (v := .pointer none) F_o92 (ev_t rfl rfl) (cell_of_blk (i := 0) hg rfl) (w0 rfl) ?_
  refine s_eqNil F_up92 (ev_t rfl rfl) ev_c (w0 rfl) ?_
  refine c_done (n_then ?_)
  refine c_cond1 (ev_t rfl rfl) ?_
  refine c_reg ?_
  refine s_move (v := .pointer (some ⟨g, 0, none⟩)) (ev_t rfl rfl) (w0 rfl) ?_
  refine s_move (v := .pointer (some ⟨g, 0, none⟩)) (ev_t rfl rfl) (w0 rfl) ?_
  refine s_ptrConv (conv_toU F_ue92 F_uu173 F_sz95 hg) (ev_t rfl rfl) (w0 rfl) ?_
  refine s_extern (ex := Extern.AbiNoEscape.same) Tryz.func141 (by kernel_rfl) (by kernel_rfl) (by kernel_rfl) (by kernel_rfl) ev_f (ev_t rfl rfl) (v := .pointer (some ⟨g, 0, none⟩)) rfl (w0 rfl) ?_
  refine s_ptrConv (conv_ofU F_uu173 F_ue92 F_is95 hg hlies) (ev_t rfl rfl) (w0 rfl) ?_
  refine s_nilCheck (ev_t rfl rfl) (w0 rfl) ?_
  refine s_field (off := 0) (o' := 0) F_f95_0 (ev_t rfl rfl) rfl (w0 rfl) ?_
  refine s_store (cs' := #[.pointer (some ⟨g, 0, none⟩), .slice A n c]) F_sz92 (ev_t rfl rfl) (ev_t rfl rfl) (l := [.pointer (some ⟨g, 0, none⟩)]) rfl rfl rfl hg (Nat.le_of_ble_eq_true rfl) rfl (w0 rfl) ?_
  intro w1 k2
  refine c_done ?_
  refine ret0 rfl ?_
  exact ⟨_, rfl, rfl, k2⟩
set_option maxHeartbeats 4000000 in
theorem b_copyCheck_used (T g n c : Nat) (A : Option Addr) (w : World) (hg : w.heap[g]? = some (.cells #[.pointer (some ⟨g, 0, none⟩), .slice A n c] T (0, 0))) (hlies : liesAt Tryz.prog Tryz.prog.depth T (2 / Tryz.prog.cellsOf T) 0 95 1 = true) :
    Rt Tryz.prog 122 #[.pointer (some ⟨g, 0, none⟩)] w fun v w' => v = .tuple #[] ∧ Wrote w g (.cells #[.pointer (some ⟨g, 0, none⟩), .slice A n c] T (0, 0)) w' := by
  refine enter Tryz.func122 rfl (l := [.pointer (some ⟨g, 0, none⟩)]) rfl Tryz.ntmps122 (Nat.le_of_ble_eq_true rfl) ?_
  refine c_seq (c_reg ?_)
  refine s_move (v := .pointer (some ⟨g, 0, none⟩)) (ev_t rfl rfl) (w0 rfl) ?_
  refine s_nilCheck (ev_t rfl rfl) (w0 rfl) ?_
  refine s_field (off := 0) (o' := 0) F_f95_0 (ev_t rfl rfl) rfl (w0 rfl) ?_
  refine s_load (v := .pointer (some ⟨g, 0, none⟩)) F_o92 (ev_t rfl rfl) (cell_of_blk (i := 0) hg rfl) (w0 rfl) ?_
  refine s_eqNil F_up92 (ev_t rfl rfl) ev_c (w0 rfl) ?_
  refine c_done (n_then ?_)
  refine c_cond0 (ev_t rfl rfl) ?_
  refine c_seq (c_reg ?_)
  refine s_move (v := .pointer (some ⟨g, 0, none⟩)) (ev_t rfl rfl) (w0 rfl) ?_
  refine s_nilCheck (ev_t rfl rfl) (w0 rfl) ?_
  refine s_field (off := 0) (o' := 0) F_f95_0 (ev_t rfl rfl) rfl (w0 rfl) ?_
  refine s_load (v := .pointer (some ⟨g, 0, none⟩)) F_o92 (ev_t rfl rfl) (cell_of_blk (i := 0) hg rfl) (w0 rfl) ?_
  refine s_move (v := .pointer (some ⟨g, 0, none⟩)) (ev_t rfl rfl) (w0 rfl) ?_
  refine s_neSame F_ue92 F_is95 (ev_t rfl rfl) (ev_t rfl rfl) (w0 rfl) ?_
  refine c_done (n_then ?_)
  refine c_cond0 (ev_t rfl rfl) ?_
  refine c_skip ?_
  refine ret0 rfl ?_
  exact ⟨_, rfl, rfl, ⟨rfl, hg, Keep.refl _ _⟩⟩
theorem b_copyCheck (T g n c : Nat) (A : Option Addr) (w : World) {a : Value} (ha : a = .pointer none ∨ a = .pointer (some ⟨g, 0, none⟩)) (hg : w.heap[g]? = some (.cells #[a, .slice A n c] T (0, 0))) (hlies : liesAt Tryz.prog Tryz.prog.depth T (2 / Tryz.prog.cellsOf T) 0 95 1 = true) :
    Rt Tryz.prog 122 #[.pointer (some ⟨g, 0, none⟩)] w fun v w' => v = .tuple #[] ∧ Wrote w g (.cells #[.pointer (some ⟨g, 0, none⟩), .slice A n c] T (0, 0)) w' := by
  rcases ha with rfl | rfl
  · exact b_copyCheck_fresh T g n c A w hg hlies
  · exact b_copyCheck_used T g n c A w hg hlies
set_option maxHeartbeats 4000000 in
theorem b_WriteString (T B g : Nat) (s0 s : ByteArray) (w : World) (hb : BW 5 T B w g s0) (hB : B ≤ w.heap.size) (hlies : liesAt Tryz.prog Tryz.prog.depth T (2 / Tryz.prog.cellsOf T) 0 95 1 = true) (hs : s0.size + s.size ≤ 140737488355328) :
    Rt Tryz.prog 97 #[.pointer (some ⟨g, 0, none⟩), .string s] w fun v w' => v = .tuple #[.int .i64 s.size, .nilIface] ∧ Wr 5 T B g (s0 ++ s) w w' := by
  refine enter Tryz.func97 rfl (l := [.pointer (some ⟨g, 0, none⟩), .string s]) rfl Tryz.ntmps97 (Nat.le_of_ble_eq_true rfl) ?_
  obtain ⟨hne, hBg, a, A, c, ha, hg, ho⟩ := hb
  refine c_seq (c_reg ?_)
  refine s_assign (v := .int .i64 0) ev_c (w0 rfl) ?_
  refine s_assign (v := .nilIface) ev_c (w0 rfl) ?_
  refine c_done (n_then (c_seq (c_reg ?_)))
  refine s_move (v := .pointer (some ⟨g, 0, none⟩)) (ev_t rfl rfl) (w0 rfl) ?_
  refine s_call F_e122 (w0 rfl) ev_f (m1 (ev_t rfl rfl)) (args := #[.pointer (some ⟨g, 0, none⟩)]) rfl (b_copyCheck T g _ _ _ _ ha hg hlies) ?_
  rintro _ w1 ⟨rfl, k2⟩
  have ow3 := own_wrote ho hg hne k2
  refine c_done (n_then (c_seq (c_reg ?_)))
  refine s_move (v := .pointer (some ⟨g, 0, none⟩)) (ev_t rfl rfl) (w0 rfl) ?_
  refine s_move (v := .pointer (some ⟨g, 0, none⟩)) (ev_t rfl rfl) (w0 rfl) ?_
  refine s_nilCheck (ev_t rfl rfl) (w0 rfl) ?_
  refine s_field (off := 1) (o' := 1) F_f95_1 (ev_t rfl rfl) rfl (w0 rfl) ?_
  refine s_load (v := .slice A s0.size c) F_o93 (ev_t rfl rfl) (cell_of_blk (i := 1) (Wrote.blk k2) rfl) (w0 rfl) ?_
  refine s_move (v := .string s) (ev_t rfl rfl) (w0 rfl) ?_
  refine s_appendS F_ul93 F_us9 F_if5 (ev_t rfl rfl) ow3 (ev_t rfl rfl) (by omega) (Nat.le_trans hB (Keep.size (Wrote.keep k2))) (w0 rfl) ?_
  intro A6 c7 w4 ow8 k5
  refine s_nilCheck (ev_t rfl rfl) (w0 rfl) ?_
  refine s_field (off := 1) (o' := 1) F_f95_1 (ev_t rfl rfl) rfl (w0 rfl) ?_
  refine s_store (cs' := #[.pointer (some ⟨g, 0, none⟩), .slice A6 (s0.size + s.size) c7]) F_sz93 (ev_t rfl rfl) (ev_t rfl rfl) (l := [.slice A6 (s0.size + s.size) c7]) rfl rfl rfl (Keep.blk k5 (Wrote.blk k2) (own_ne ow3 (Wrote.blk k2) (by first | decide | assumption))) (Nat.le_of_ble_eq_true rfl) rfl (w0 rfl) ?_
  intro w9 k10
  refine c_done (n_then (c_seq (c_reg ?_)))
  refine s_move (v := .string s) (ev_t rfl rfl) (w0 rfl) ?_
  refine s_lenS F_us9 (ev_t rfl rfl) (w0 rfl) ?_
  refine s_assign (v := .int .i64 (s.size : Int)) (ev_t rfl rfl) (w0 rfl) ?_
  refine s_assign (v := .nilIface) ev_c (w0 rfl) ?_
  refine c_done (n_then (c_ret ?_))
  refine ret2 (v := .int .i64 (s.size : Int)) (v2 := .nilIface) rfl rfl rfl rfl rfl ?_
  exact ⟨_, rfl, rfl, BW.finish hne hBg hB hg ho k2 (Ext.refl w1) k5 ow8 rfl k10⟩
set_option maxHeartbeats 4000000 in
theorem b_WriteByte (T B g : Nat) (s0 : ByteArray) (b : UInt8) (w : World) (hb : BW 5 T B w g s0) (hB : B ≤ w.heap.size) (hlies : liesAt Tryz.prog Tryz.prog.depth T (2 / Tryz.prog.cellsOf T) 0 95 1 = true) (hs : s0.size + 1 ≤ 140737488355328) :
    Rt Tryz.prog 145 #[.pointer (some ⟨g, 0, none⟩), .int .u8 ((b.toNat : Nat) : Int)] w fun v w' => v = .nilIface ∧ Wr 5 T B g (s0 ++ ⟨#[b]⟩) w w' := by
  refine enter Tryz.func145 rfl (l := [.pointer (some ⟨g, 0, none⟩), .int .u8 ((b.toNat : Nat) : Int)]) rfl Tryz.ntmps145 (Nat.le_of_ble_eq_true rfl) ?_
  obtain ⟨hne, hBg, a, A, c, ha, hg, ho⟩ := hb
  refine c_seq (c_reg ?_)
  refine s_assign (v := .nilIface) ev_c (w0 rfl) ?_
  refine c_done (n_then (c_seq (c_reg ?_)))
  refine s_move (v := .pointer (some ⟨g, 0, none⟩)) (ev_t rfl rfl) (w0 rfl) ?_
  refine s_call F_e122 (w0 rfl) ev_f (m1 (ev_t rfl rfl)) (args := #[.pointer (some ⟨g, 0, none⟩)]) rfl (b_copyCheck T g _ _ _ _ ha hg hlies) ?_
  rintro _ w1 ⟨rfl, k2⟩
  have ow3 := own_wrote ho hg hne k2
  refine c_done (n_then (c_seq (c_reg ?_)))
  refine s_move (v := .pointer (some ⟨g, 0, none⟩)) (ev_t rfl rfl) (w0 rfl) ?_
  refine s_move (v := .pointer (some ⟨g, 0, none⟩)) (ev_t rfl rfl) (w0 rfl) ?_
  refine s_nilCheck (ev_t rfl rfl) (w0 rfl) ?_
  refine s_field (off := 1) (o' := 1) F_f95_1 (ev_t rfl rfl) rfl (w0 rfl) ?_
  refine s_load (v := .slice A s0.size c) F_o93 (ev_t rfl rfl) (cell_of_blk (i := 1) (Wrote.blk k2) rfl) (w0 rfl) ?_
  refine s_move (v := .int .u8 ((b.toNat : Nat) : Int)) (ev_t rfl rfl) (w0 rfl) ?_
  refine s_bslice (vs := [(0, .int .u8 ((b.toNat : Nat) : Int))]) (cs := #[.int .u8 ((b.toNat : Nat) : Int)]) (b1 (ev_t rfl rfl)) (bs93_1_0iu8 ((b.toNat : Nat) : Int)) (w0 rfl) ?_
  intro w5 g4 n6
  refine s_append (m := 1) (k := 1) (news := [.int .u8 ((b.toNat : Nat) : Int)]) F_ul93 F_if5 rfl (by decide) (ev_t rfl rfl) (own_ext (NewB.ext n6) ow3) (ev_t rfl rfl) rfl (by have z_ := blk_cells (NewB.blk n6) 0 (cs := [.int .u8 ((b.toNat : Nat) : Int)]) rfl; exact z_) rfl (by omega) (by omega) (Nat.le_trans (Nat.le_trans hB (Keep.size (Wrote.keep k2))) (Keep.size (NewB.ext n6))) (w0 rfl) ?_
  intro A9 c10 w7 ow11 k8
  refine s_nilCheck (ev_t rfl rfl) (w0 rfl) ?_
  refine s_field (off := 1) (o' := 1) F_f95_1 (ev_t rfl rfl) rfl (w0 rfl) ?_
  refine s_store (cs' := #[.pointer (some ⟨g, 0, none⟩), .slice A9 (s0.size + 1) c10]) F_sz93 (ev_t rfl rfl) (ev_t rfl rfl) (l := [.slice A9 (s0.size + 1) c10]) rfl rfl rfl (Keep.blk k8 (Ext.blk (NewB.ext n6) (Wrote.blk k2)) (own_ne (own_ext (NewB.ext n6) ow3) (Ext.blk (NewB.ext n6) (Wrote.blk k2)) (by first | decide | assumption))) (Nat.le_of_ble_eq_true rfl) rfl (w0 rfl) ?_
  intro w12 k13
  refine c_done (n_then (c_seq (c_reg ?_)))
  refine s_assign (v := .nilIface) ev_c (w0 rfl) ?_
  refine c_done (n_then (c_ret ?_))
  refine ret1 (v := .nilIface) rfl rfl rfl ?_
  exact ⟨_, rfl, rfl, BW.finish hne hBg hB hg ho k2 (NewB.ext n6) k8 (own_bytes ow11 (by simp [strCells])) rfl k13⟩
set_option maxHeartbeats 4000000 in
theorem b_String (T B g : Nat) (s0 : ByteArray) (w : World) (hb : BW 5 T B w g s0) (hB : B ≤ w.heap.size) (h0 : s0.size ≠ 0) :
    Rt Tryz.prog 55 #[.pointer (some ⟨g, 0, none⟩)] w fun v w' => v = .string s0 ∧ Go.RowKit.Below B w w' := by
  refine enter Tryz.func55 rfl (l := [.pointer (some ⟨g, 0, none⟩)]) rfl Tryz.ntmps55 (Nat.le_of_ble_eq_true rfl) ?_
  obtain ⟨hne, hBg, a, A, c, ha, hg, ho⟩ := hb
  obtain ⟨b_, rfl, _⟩ := own_cells ho (Nat.pos_of_ne_zero h0)
  have hcap_ := own_cap ho h0
  refine c_seq (c_reg ?_)
  refine s_assign (v := .string (⟨#[]⟩ : ByteArray)) ev_c (w0 rfl) ?_
  refine c_done (n_then (c_seq ?_))
  refine c_tail 10 mixed (by kernel_rfl) rfl rfl ?_
  intro w1 x2
  refine t_val (v := .pointer (some ⟨g, 0, none⟩)) (w0 rfl) (r_move (v := .pointer (some ⟨g, 0, none⟩)) (ev_t rfl rfl)) ?_
  refine t_val (v := .pointer (some ⟨g, 0, none⟩)) (w0 rfl) (r_nilCheck (ev_t rfl rfl)) ?_
  refine t_val (v := .pointer (some ⟨g, 1, none⟩)) (w0 rfl) (r_field (off := 1) (o' := 1) F_f95_1 (ev_t rfl rfl) rfl) ?_
  refine t_val (v := .slice (some ⟨b_, 0, none⟩) s0.size c) (w0 rfl) (r_load (v := .slice (some ⟨b_, 0, none⟩) s0.size c) F_o93 (ev_t rfl rfl) (cell_of_blk (i := 1) (Ext.blk x2 hg) rfl)) ?_
  refine t_val (v := .pointer (some ⟨b_, 0, none⟩)) (w0 rfl) (r_sliceData (a := ⟨b_, 0, none⟩) (ev_t rfl rfl) hcap_) ?_
  refine t_val (v := .pointer (some ⟨g, 0, none⟩)) (w0 rfl) (r_move (v := .pointer (some ⟨g, 0, none⟩)) (ev_t rfl rfl)) ?_
  refine t_val (v := .pointer (some ⟨g, 0, none⟩)) (w0 rfl) (r_nilCheck (ev_t rfl rfl)) ?_
  refine t_val (v := .pointer (some ⟨g, 1, none⟩)) (w0 rfl) (r_field (off := 1) (o' := 1) F_f95_1 (ev_t rfl rfl) rfl) ?_
  refine t_val (v := .slice (some ⟨b_, 0, none⟩) s0.size c) (w0 rfl) (r_load (v := .slice (some ⟨b_, 0, none⟩) s0.size c) F_o93 (ev_t rfl rfl) (cell_of_blk (i := 1) (Ext.blk x2 hg) rfl)) ?_
  refine t_val (v := .int .i64 (s0.size : Int)) (w0 rfl) (r_lenL F_l93 (ev_t rfl rfl)) ?_
  refine t_done ?_
  refine s_unsafeString F_ue143 F_co5 (own_ext x2 ho) h0 rfl (ev_t rfl rfl) (ev_t rfl rfl) (w0 rfl) ?_
  intro w3 k4
  refine s_assign (v := .string s0) (ev_t rfl rfl) (w0 rfl) ?_
  refine c_done (n_then (c_ret ?_))
  refine ret1 (v := .string s0) rfl rfl rfl ?_
  exact ⟨_, rfl, rfl, Go.RowKit.Below.trans (below_ext x2 hB) k4⟩
end Go.Proofs.Zw

set_option linter.unusedVariables false
set_option linter.unusedSimpArgs false
namespace Go.Wk
open Go Go.RowKit Go.Lib
/-! ### the tables -/
theorem var_ext {P : Program} {w w' : World} {nm : String} {cs : Array Value} (h : w.var? P nm = some cs) (k : Ext w w') : w'.var? P nm = some cs := by
  unfold World.var? at h ⊢
  obtain ⟨g, hg, h⟩ := Option.bind_eq_some_iff.1 h
  rw [hg]
  simp only [Option.bind_some]
  cases hb : w.heap[g]? with
  | none => rw [hb] at h; simp at h
  | some o => rw [hb] at h; rw [k.blk hb]; exact h
theorem var_cell {P : Program} {w : World} {nm : String} {cs : Array Value} {g i : Nat} {v : Value} (h : w.var? P nm = some cs) (hg : P.globalNamed nm = some g) (hv : cs[i]? = some v) : w.cell? ⟨g, 0 + i * 1, none⟩ = some v := by
  unfold World.var? at h
  rw [hg] at h
  simp only [Option.bind_some] at h
  split at h
  · rename_i hb
    cases h
    rw [Nat.zero_add, Nat.mul_one]
    exact cell_of_blk hb hv
  · cases h
def fastO (op : Int) : Int := if op = 2 ∨ op = 3 ∨ op = 7 then 1 else if op = 4 ∨ op = 5 ∨ op = 6 then 2 else if op = 1 then 3 else 4
theorem fast_op (x : Ex) : fast x = fastO x.op := rfl
def relW (r : Int) : ByteArray := if r = 1 then ⟨#[61]⟩ else if r = 2 then ⟨#[33, 61]⟩ else if r = 3 then ⟨#[60]⟩ else if r = 4 then ⟨#[60, 61]⟩ else if r = 5 then ⟨#[62]⟩ else ⟨#[62, 61]⟩
structure Tabs (P : Program) (w : World) : Prop where
  hold : w.var? P "pedigree/print.hold" = some #[.int .i64 4, .int .i64 3, .int .i64 1, .int .i64 1, .int .i64 2, .int .i64 2, .int .i64 2, .int .i64 1, .int .i64 4, .int .i64 4, .int .i64 4]
  words : w.var? P "pedigree/print.words" = some #[.string ⟨#[]⟩, .string ⟨#[]⟩, .string ⟨#[]⟩, .string ⟨#[]⟩, .string ⟨#[]⟩, .string ⟨#[]⟩, .string ⟨#[]⟩, .string ⟨#[]⟩, .string ⟨#[108, 101, 110]⟩, .string ⟨#[99, 104, 97, 114, 115]⟩, .string ⟨#[98, 97, 99, 107]⟩]
  signs : w.var? P "pedigree/print.signs" = some #[.string ⟨#[]⟩, .string ⟨#[]⟩, .string ⟨#[43]⟩, .string ⟨#[45]⟩, .string ⟨#[42]⟩, .string ⟨#[47]⟩, .string ⟨#[37]⟩, .string ⟨#[38]⟩]
  pow : TabIs P w "internal/strconv.uint64pow10" .u64 pow10Tab
theorem Tabs.ext {P : Program} {w w' : World} (h : Tabs P w) (k : Ext w w') : Tabs P w' := ⟨var_ext h.hold k, var_ext h.words k, var_ext h.signs k, var_ext h.pow k⟩
section
variable {P : Program} {w : World} {g : Nat} {op : Int}
theorem Tabs.hold_at (h : Tabs P w) (hg : P.globalNamed "pedigree/print.hold" = some g) (ho : 0 ≤ op ∧ op ≤ 10) : w.cell? ⟨g, 0 + op.toNat * 1, none⟩ = some (.int .i64 (fastO op)) := by
  refine var_cell h.hold hg ?_
  have : op = 0 ∨ op = 1 ∨ op = 2 ∨ op = 3 ∨ op = 4 ∨ op = 5 ∨ op = 6 ∨ op = 7 ∨ op = 8 ∨ op = 9 ∨ op = 10 := by omega
  rcases this with rfl | rfl | rfl | rfl | rfl | rfl | rfl | rfl | rfl | rfl | rfl <;> rfl
theorem Tabs.words_at (h : Tabs P w) (hg : P.globalNamed "pedigree/print.words" = some g) (ho : 8 ≤ op ∧ op ≤ 10) : w.cell? ⟨g, 0 + op.toNat * 1, none⟩ = some (.string (wordW op)) := by
  refine var_cell h.words hg ?_
  have : op = 8 ∨ op = 9 ∨ op = 10 := by omega
  rcases this with rfl | rfl | rfl <;> rfl
theorem Tabs.signs_at (h : Tabs P w) (hg : P.globalNamed "pedigree/print.signs" = some g) (ho : 2 ≤ op ∧ op ≤ 7) : w.cell? ⟨g, 0 + op.toNat * 1, none⟩ = some (.string (signW op)) := by
  refine var_cell h.signs hg ?_
  have : op = 2 ∨ op = 3 ∨ op = 4 ∨ op = 5 ∨ op = 6 ∨ op = 7 := by omega
  rcases this with rfl | rfl | rfl | rfl | rfl | rfl <;> rfl
end
theorem itoaB_eq (n : Int) : itoaB n = ⟨(itoa n).toArray⟩ := rfl
/-- A text's bytes in a frozen block, over a builder's writes. -/
def SBf (e : Nat) (w : World) (g : Nat) (s : ByteArray) : Prop := ∃ cs m, w.heap[g]? = some (.cells cs e (m, m + 1)) ∧ ∀ j, j < s.size → cs[j]? = some (.int .u8 (byteAt s j))
theorem SBf.sb {e : Nat} {w : World} {g : Nat} {s : ByteArray} (h : SBf e w g s) : SB w g s := by
  obtain ⟨cs, m, hb, hc⟩ := h
  intro j hj
  rw [Nat.zero_add, Nat.mul_one]
  exact cell_of_blk hb (hc j hj)
theorem SBf.ext {e : Nat} {w w' : World} {g : Nat} {s : ByteArray} (h : SBf e w g s) (k : Ext w w') : SBf e w' g s := by
  obtain ⟨cs, m, hb, hc⟩ := h; exact ⟨cs, m, k.blk hb, hc⟩
theorem SBf.wr {e T B g' : Nat} {w w' : World} {g : Nat} {s s' : ByteArray} (h : SBf e w g s) (k : Wr e T B g' s' w w') (hg : g ≠ g') : SBf e w' g s := by
  obtain ⟨cs, m, h1, hc⟩ := h
  exact ⟨cs, m, k.blk h1 (.inr (by simp)) hg, hc⟩
theorem SBf.ne {e T B g' : Nat} {w : World} {g : Nat} {s s0 : ByteArray} (h : SBf e w g s) (hb : BW e T B w g' s0) : g ≠ g' := by
  obtain ⟨cs, m, h1, hc⟩ := h
  rintro rfl
  obtain ⟨hne, _, _, _, _, _, h4, _⟩ := hb
  rw [h1] at h4
  injection h4 with h4
  injection h4 with _ h4
  exact hne h4
section
variable {P : Program} {ops : Array Oper} {Q : Exit → Act → World → Prop} {rest : List Oper} {n d t : Nat} {env : Nat → Value} {ds : List Deferred} {w w' : World} {v u : Value}
  {ty T : TypeId} {pos : String} {af : Array Edge} {gd : Option (Nat × Bool)} {x y z : Operand}
/-- []byte(s), the block known to be frozen. -/
theorem s_sbytesF {S2 e : TypeId} {s : ByteArray} (hs : P.underlying T = some .string) (hd : P.underlying S2 = some (.slice e)) (he : P.underlying e = some (.int .u8)) (hx : (mkA n env ds).eval x = .string s)
    (hw : Region.wanted ⟨some d, .convert T S2 x, ty, pos, af, gd⟩ (yielded ops (mkA n env ds).tmps) = true)
    (k : ∀ w' g c, SBf e w' g s → Ext w w' → wpList P ops Q rest (mkA n (upd env d (.slice (some ⟨g, 0, none⟩) s.size c)) ds) w') : wpList P ops Q (⟨some d, .convert T S2 x, ty, pos, af, gd⟩ :: rest) (mkA n env ds) w := by
  refine s_val hw (w' := bytesWorld w e s) (v := .slice (some ⟨w.heap.size, 0, none⟩) s.size (grownCap w s.size 0 e)) ?_ (k _ _ _ ?_ ?_)
  · simp only [execOp, hx]
    rw [Sem.run_bind, Go.Lib.run_convert_string_bytes w T S2 e s hs hd he]
    rfl
  · refine ⟨_, _, bytesWorld_at_new w e s, fun j hj => ?_⟩
    have := bytesWorld_cell w e s j hj
    rw [World.cell?, bytesWorld_at_new] at this
    have h2 : (bytesCells w e s)[j]? = some (.int .u8 (s.data.toList.getD j 0).toNat) := by simpa using this
    rw [h2]
    congr 2
    simp [byteAt, Array.getD_eq_getD_getElem?, List.getD_eq_getElem?_getD]
  · refine ⟨rfl, rfl, rfl, ?_, fun j hj _ => bytesWorld_at_old w e s j hj⟩
    rw [bytesWorld_size]; omega
end
theorem shr4 {P : Program} (m : Nat) (h : m < 256) (T : TypeId) (w : World) : (binOp .shr T (.int .u8 (m : Int)) (.int .u64 4)).run P w = .ok (.int .u8 ((m / 16 : Nat) : Int)) w := by
  have e : (min 4 IntKind.u8.bits) = 4 := rfl
  have e2 : ((m : Int)).fdiv 16 = ((m / 16 : Nat) : Int) := by rw [Int.fdiv_eq_ediv_of_nonneg _ (by omega)]; rfl
  simp [binOp, Op.shift]
  rw [e, show ((2 : Int) ^ 4) = 16 from rfl, e2]; simp
theorem and15 {P : Program} (m : Nat) (h : m < 256) (T : TypeId) (w : World) : (binOp .and T (.int .u8 (m : Int)) (.int .u8 15)).run P w = .ok (.int .u8 ((m % 16 : Nat) : Int)) w := by
  have e : IntKind.u8.bits = 8 := rfl
  have e2 : m % 256 &&& 15 = m % 16 := by
    rw [Nat.mod_eq_of_lt h]
    exact Nat.and_two_pow_sub_one_eq_mod m 4
  simp [binOp, Op.intBits, e]
  rw [e2]
  rw [conv_u8 (by omega)]; simp
section
variable {P : Program} {ops : Array Oper} {Q : Exit → Act → World → Prop} {rest : List Oper} {n d t : Nat} {env : Nat → Value} {ds : List Deferred} {w w' : World} {v u : Value}
  {ty T : TypeId} {pos : String} {af : Array Edge} {gd : Option (Nat × Bool)} {x y z : Operand}
theorem s_shr4 {m : Nat} {T2 : TypeId} (hx : (mkA n env ds).eval x = .int .u8 (m : Int)) (hy : (mkA n env ds).eval y = .int .u64 4) (hm : m < 256) (hw : Region.wanted ⟨some d, .binOp .shr T x y T2, ty, pos, af, gd⟩ (yielded ops (mkA n env ds).tmps) = true)
    (k : wpList P ops Q rest (mkA n (upd env d (.int .u8 ((m / 16 : Nat) : Int))) ds) w) : wpList P ops Q (⟨some d, .binOp .shr T x y T2, ty, pos, af, gd⟩ :: rest) (mkA n env ds) w :=
  s_val hw (w' := w) (by
    have := shr4 (P := P) m hm T w
    simp only [execOp, hx, hy, eqGuard, Sem.run_bind]
    simp [this]) k
theorem s_and15 {m : Nat} {T2 : TypeId} (hx : (mkA n env ds).eval x = .int .u8 (m : Int)) (hy : (mkA n env ds).eval y = .int .u8 15) (hm : m < 256) (hw : Region.wanted ⟨some d, .binOp .and T x y T2, ty, pos, af, gd⟩ (yielded ops (mkA n env ds).tmps) = true)
    (k : wpList P ops Q rest (mkA n (upd env d (.int .u8 ((m % 16 : Nat) : Int))) ds) w) : wpList P ops Q (⟨some d, .binOp .and T x y T2, ty, pos, af, gd⟩ :: rest) (mkA n env ds) w :=
  s_val hw (w' := w) (by
    have := and15 (P := P) m hm T w
    simp only [execOp, hx, hy, eqGuard, Sem.run_bind]
    simp [this]) k
end
theorem BW.blk {e T B g : Nat} {w : World} {s : ByteArray} (h : BW e T B w g s) : ∃ cs, w.heap[g]? = some (.cells cs T (0, 0)) := by
  obtain ⟨_, _, _, _, _, _, h, _⟩ := h; exact ⟨_, h⟩
theorem catL_stepD (l : List ByteArray) (i : Nat) (hi : i < l.length) : catL (l.take (i + 1)) = catL (l.take i) ++ l.getD i ⟨#[]⟩ := by
  rw [catL_step l i hi]
  simp [List.getD_eq_getElem?_getD, hi]
theorem catL_le (l : List ByteArray) (i : Nat) (hi : i < l.length) : (catL (l.take i)).size + (l.getD i ⟨#[]⟩).size ≤ (catL l).size := by
  induction l generalizing i with
  | nil => simp at hi
  | cons a l ih =>
    cases i with
    | zero => simp only [List.take_zero, catL, ByteArray.size_append, List.getD_cons_zero, z0]; omega
    | succ i =>
      have := ih i (by simpa using hi)
      simp only [List.take_succ_cons, catL, ByteArray.size_append, List.getD_cons_succ] at this ⊢
      omega
theorem strs_cell {w : World} {b t i : Nat} {fz : Nat × Nat} {ss : List ByteArray} (h : w.heap[b]? = some (.cells (ss.map Value.string).toArray t fz)) (hi : i < ss.length) : w.cell? ⟨b, 0 + i * 1, none⟩ = some (.string (ss.getD i ⟨#[]⟩)) := by
  rw [Nat.zero_add, Nat.mul_one]
  refine cell_of_blk h ?_
  simp [List.getD_eq_getElem?_getD, hi]
theorem app1 (l : List UInt8) (a : UInt8) : strL l ++ (⟨#[a]⟩ : ByteArray) = strL (l ++ [a]) := by apply Go.WideShapes.bytes_inj; simp [strL]
theorem app2 (l : List UInt8) (a b : UInt8) : strL l ++ (⟨#[a, b]⟩ : ByteArray) = strL (l ++ [a, b]) := by apply Go.WideShapes.bytes_inj; simp [strL]
theorem ext_bel {w0 w w' : World} (h : Ext w0 w) (k : Below w0.heap.size w w') : Ext w0 w' := Ext.of_below ((Ext.below h).trans k)
theorem quotB_eq (s : ByteArray) : strL (quotL s s.size) ++ (⟨#[34]⟩ : ByteArray) = quotB s := by rw [app1]; rfl
theorem strL_size (l : List UInt8) : (strL l).size = l.length := by simp [strL, ByteArray.size]
/-! no text is empty -/
theorem bytes_nil {s : ByteArray} (h : s.size = 0) : s = ⟨#[]⟩ := by
  obtain ⟨d⟩ := s
  congr 1
  exact Array.eq_empty_of_size_eq_zero h
theorem digB_ne (u : Nat) : (digB u).size ≠ 0 := by
  unfold digB
  show (decDigits u).toArray.size ≠ 0
  rw [decDigits]
  split <;> simp
theorem itoaB_ne (n : Int) : (itoaB n).size ≠ 0 := by
  unfold itoaB itoa
  have := digB_ne n.toNat
  split
  · show (_ :: _ : List UInt8).toArray.size ≠ 0; simp
  · exact this
theorem showB_ne {x : Vl} : okV x = true → (showB x).size ≠ 0 := by
  intro h
  unfold showB
  split
  · exact itoaB_ne _
  · split
    · rename_i h2
      simp only [nameB, Bool.and_eq_true, wordB, decide_eq_true_eq] at h2
      omega
    · have : (quotB x.s).size = (quotL x.s x.s.size).length + 1 := by
        show (quotL x.s x.s.size ++ [34]).toArray.size = _
        rw [List.size_toArray, List.length_append]; rfl
      omega
theorem termW_ne {t : Tm} (h : tmB t = true) : (termW t).size ≠ 0 := by
  unfold termW
  unfold tmB at h
  split
  · rename_i h0
    rw [if_pos h0] at h
    rw [if_pos h]
    exact showB_ne h
  · rename_i h0
    exact fun h1 => h0 (bytes_nil h1)
theorem exW_ne {d : Nat} {x : Ex} (h : exB d x = true) : (exW d x).size ≠ 0 := by
  obtain ⟨hd, h1, h2⟩ := exB_parts h
  rw [exW_pos hd]
  split
  · rename_i h0; exact termW_ne (h1 h0).2.2
  · split
    · simp only [ByteArray.size_append, z1]; omega
    · split
      · simp only [ByteArray.size_append, z1]; omega
      · simp only [ByteArray.size_append, z1]; omega
theorem fast_neg {x : Ex} (h : x.op = 1) : fast x = 3 := by unfold fast; simp [h]
end Go.Wk

set_option linter.unusedVariables false
set_option linter.unusedSimpArgs false
set_option maxRecDepth 10000
namespace Go.Proofs.Zw
open Go Go.Wk Go.Proofs Go.Lib
attribute [local irreducible] Go.wpList Go.wpStill Go.wpQuiet Go.Code.wp Go.Calls
theorem F_e97 : enterable Tryz.prog 97 = true := by kernel_rfl
theorem F_f97_0 : fieldAt Tryz.prog 97 0 0 = true := by kernel_rfl
theorem F_l106 : sliceT Tryz.prog 106 1 = true := by kernel_rfl
set_option maxHeartbeats 4000000 in
theorem p_put (T B g b : Nat) (s0 : ByteArray) (ss : List ByteArray) (w : World) (hb : BW 5 T B w g s0) (hB : B ≤ w.heap.size) (hT : 9 ≠ T) (hlies : liesAt Tryz.prog Tryz.prog.depth T (2 / Tryz.prog.cellsOf T) 0 95 1 = true) (hl : w.heap[b]? = some (.cells (ss.map Value.string).toArray 9 (0, 0))) (hs : s0.size + (catL ss).size ≤ 140737488355328) (hn : ss.length ≤ 1000) :
    Rt Tryz.prog 54 #[.pointer (some ⟨g, 0, none⟩), .slice (some ⟨b, 0, none⟩) ss.length ss.length] w fun v w' => v = .tuple #[] ∧ Wr 5 T B g (s0 ++ catL ss) w w' := by
  refine enter Tryz.func54 rfl (l := [.pointer (some ⟨g, 0, none⟩), .slice (some ⟨b, 0, none⟩) ss.length ss.length]) rfl Tryz.ntmps54 (Nat.le_of_ble_eq_true rfl) ?_
  have hne_ : b ≠ g := ne_blk hl (BW.blk hb).choose_spec hT
  refine c_seq (c_reg ?_)
  refine s_move (v := .slice (some ⟨b, 0, none⟩) ss.length ss.length) (ev_t rfl rfl) (w0 rfl) ?_
  refine s_lenL F_l106 (ev_t rfl rfl) (w0 rfl) ?_
  refine s_move (v := .int .i64 0) ev_c (w0 rfl) ?_
  refine c_done (n_then (c_block ?_))
  refine c_loop (α := Nat) (fun (i : Nat) env_ w_ => Wr 5 T B g (s0 ++ catL (ss.take i)) w w_ ∧ i ≤ ss.length ∧ env_ 0 = .pointer (some ⟨g, 0, none⟩) ∧ env_ 6 = .slice (some ⟨b, 0, none⟩) ss.length ss.length ∧ env_ 7 = .int .i64 (ss.length : Int) ∧ env_ 8 = .int .i64 ((i : Nat) : Int)) (fun i => ss.length - i) (0) ⟨(Wr.cast (Wr.refl hb) (by simp [catL, app_nil])), Nat.zero_le _, rfl, rfl, rfl, rfl⟩ ?_
  rintro i env3 w1 ⟨x2, i4, e5, e6, e7, e8⟩
  have hlt_ : i < ss.length → (catL (ss.take i)).size + (ss.getD i ⟨#[]⟩).size ≤ (catL ss).size := fun h_ => catL_le ss i h_
  refine c_seq (c_reg ?_)
  refine s_cmp (r := decide (((i : Nat) : Int) < (ss.length : Int))) (ev_t rfl e8) (ev_t rfl e7) rfl (w0 rfl) ?_
  refine c_done (n_then (c_seq ?_))
  by_cases h9 : ((i : Nat) : Int) < (ss.length : Int)
  · refine c_cond1 (vb (ev_t rfl rfl) (decide_eq_true h9)) ?_
    refine c_skip (n_then (c_seq (c_block (c_seq (c_reg ?_)))))
    refine s_indexR (j := i) F_l106 (ev_t rfl e6) rfl (ev_t rfl e8) rfl (by omega) (w0 rfl) ?_
    refine s_load (v := .string (ss.getD i ⟨#[]⟩)) F_o9 (ev_t rfl rfl) (strs_cell (Wr.blk x2 hl (Or.inl (by decide)) hne_) (by omega)) (w0 rfl) ?_
    refine s_assign (v := .string (ss.getD i ⟨#[]⟩)) (ev_t rfl rfl) (w0 rfl) ?_
    refine c_done (n_then (c_reg ?_))
    refine s_move (v := .pointer (some ⟨g, 0, none⟩)) (ev_t rfl e5) (w0 rfl) ?_
    refine s_nilCheck (ev_t rfl rfl) (w0 rfl) ?_
    refine s_field (off := 0) (o' := 0) F_f97_0 (ev_t rfl rfl) rfl (w0 rfl) ?_
    refine s_move (v := .string (ss.getD i ⟨#[]⟩)) (ev_t rfl rfl) (w0 rfl) ?_
    refine s_call F_e97 (w0 rfl) ev_f (m2 (ev_t rfl rfl) (ev_t rfl rfl)) (args := #[.pointer (some ⟨g, 0, none⟩), .string (ss.getD i ⟨#[]⟩)]) rfl (b_WriteString T _ g (s0 ++ catL (ss.take i)) (ss.getD i ⟨#[]⟩) _ (Wr.bw x2) (Nat.le_trans hB (Wr.size x2)) hlies (by simp only [ByteArray.size_append] at *; have := hlt_ (by omega); omega)) ?_
    rintro _ w10 ⟨rfl, wr11⟩
    refine c_done (n_block (n_then (c_reg ?_)))
    refine s_add (r := ((i + 1 : Nat) : Int)) (ev_t rfl e8) ev_c (by omega) (by omega) (w0 rfl) ?_
    refine s_move (v := .int .i64 ((i + 1 : Nat) : Int)) (ev_t rfl rfl) (w0 rfl) ?_
    refine c_done ?_
    exact ⟨(i + 1), _, rfl, ⟨(Wr.cast (Wr.then_ x2 wr11) (by rw [catL_stepD ss i (by omega), app_assoc])), by omega, e5, e6, e7, rfl⟩, (show ss.length - (i + 1) < ss.length - i by omega)⟩
  · refine c_cond0 (vb (ev_t rfl rfl) (decide_eq_false h9)) ?_
    refine c_exit (e_then (e_then (e_hit ?_)))
    refine ret0 rfl ?_
    exact ⟨_, rfl, rfl, Wr.cast x2 (by rw [List.take_of_length_le (by omega)])⟩
end Go.Proofs.Zw

set_option linter.unusedVariables false
set_option linter.unusedSimpArgs false
set_option maxRecDepth 10000
namespace Go.Proofs.Zw
open Go Go.Wk Go.Proofs Go.Lib
attribute [local irreducible] Go.wpList Go.wpStill Go.wpQuiet Go.Code.wp Go.Calls
theorem F_e129 : enterable Tryz.prog 129 = true := by kernel_rfl
theorem F_e130 : enterable Tryz.prog 130 = true := by kernel_rfl
theorem F_e131 : enterable Tryz.prog 131 = true := by kernel_rfl
theorem F_e145 : enterable Tryz.prog 145 = true := by kernel_rfl
theorem F_e55 : enterable Tryz.prog 55 = true := by kernel_rfl
theorem F_lies95 : liesAt Tryz.prog Tryz.prog.depth 95 (2 / Tryz.prog.cellsOf 95) 0 95 1 = true := by kernel_rfl
theorem F_z95 : (Tryz.prog.info? 95).bind (·.zero) = some (.agg #[.pointer none, .slice none 0 0]) := by kernel_rfl
set_option maxHeartbeats 4000000 in
theorem v_quoted (s : ByteArray) (w : World) (hs : s.size ≤ 1000000) :
    Rt Tryz.prog 131 #[.string s] w fun v w' => v = .string (quotB s) ∧ Ext w w' := by
  refine enter Tryz.func131 rfl (l := [.string s]) rfl Tryz.ntmps131 (Nat.le_of_ble_eq_true rfl) ?_
  refine c_seq (c_reg ?_)
  refine s_assign (v := .string (⟨#[]⟩ : ByteArray)) ev_c (w0 rfl) ?_
  refine c_done (n_then (c_seq (c_reg ?_)))
  refine s_alloc (cs := #[.pointer none, .slice none 0 0]) (w0 rfl) F_z95 rfl ?_
  intro w2 g1 n3
  have bw_ : BW 5 95 w.heap.size w2 g1 ⟨#[]⟩ := BW.new n3 rfl (by decide) (Keep.size (Ext.refl w))
  have hB_ := Keep.size (NewB.ext n3)
  refine c_done (n_then (c_seq (c_reg ?_)))
  refine s_call F_e145 (w0 rfl) ev_f (m2 (ev_t rfl rfl) ev_c) (args := #[.pointer (some ⟨g1, 0, none⟩), .int .u8 34]) rfl (b_WriteByte 95 _ g1 ((⟨#[]⟩ : ByteArray)) 34 _ bw_ hB_ F_lies95 (by simp only [ByteArray.size_append, strL_size, z0, z1, z2, z3, z4, z5, z6]; omega)) ?_
  rintro _ w4 ⟨rfl, wr5⟩
  refine c_done (n_then (c_seq (c_seq (c_reg ?_))))
  refine s_move (v := .string s) (ev_t rfl rfl) (w0 rfl) ?_
  refine s_sbytesF F_us9 F_ul93 F_ui5 (ev_t rfl rfl) (w0 rfl) ?_
  intro w8 g6 c7 sb9 x10
  have ne_g6 := SBf.ne sb9 (BW.ext (Wr.bw wr5) x10)
  refine s_lenL F_l93 (ev_t rfl rfl) (w0 rfl) ?_
  refine s_move (v := .int .i64 0) ev_c (w0 rfl) ?_
  refine c_done (n_then (c_block ?_))
  refine c_loop (α := Nat) (fun (i : Nat) env_ w_ => Wr 5 95 w.heap.size g1 (strL (quotL s i)) w2 w_ ∧ i ≤ s.size ∧ SBf 5 w_ g6 s ∧ env_ 2 = .string (⟨#[]⟩ : ByteArray) ∧ env_ 3 = .pointer (some ⟨g1, 0, none⟩) ∧ env_ 8 = .slice (some ⟨g6, 0, none⟩) s.size c7 ∧ env_ 9 = .int .i64 (s.size : Int) ∧ env_ 10 = .int .i64 ((i : Nat) : Int)) (fun i => s.size - i) (0) ⟨(Wr.cast (Wr.ext wr5 x10 hB_) (by rw [nil_app]; rfl)), Nat.zero_le _, sb9, rfl, rfl, rfl, rfl, rfl⟩ ?_
  rintro i env13 w11 ⟨x12, i14, i15, e16, e17, e18, e19, e20⟩
  have hq_ := quotL_le s i
  have hb_ := byteAt_lt s i
  refine c_seq (c_reg ?_)
  refine s_cmp (r := decide (((i : Nat) : Int) < (s.size : Int))) (ev_t rfl e20) (ev_t rfl e19) rfl (w0 rfl) ?_
  refine c_done (n_then (c_seq ?_))
  by_cases h21 : ((i : Nat) : Int) < (s.size : Int)
  · refine c_cond1 (vb (ev_t rfl rfl) (decide_eq_true h21)) ?_
    refine c_skip (n_then (c_seq (c_block (c_seq (c_reg ?_)))))
    refine s_indexR (j := i) F_l93 (ev_t rfl e18) rfl (ev_t rfl e20) rfl (by omega) (w0 rfl) ?_
    refine s_load (v := .int .u8 (byteAt s i : Int)) F_o5 (ev_t rfl rfl) (SBf.sb i15 i (by omega)) (w0 rfl) ?_
    refine s_assign (v := .int .u8 (byteAt s i : Int)) (ev_t rfl rfl) (w0 rfl) ?_
    refine c_done (n_then (c_block (c_seq (c_reg ?_))))
    refine s_move (v := .int .u8 (byteAt s i : Int)) (ev_t rfl rfl) (w0 rfl) ?_
    refine s_cmp (r := decide ((byteAt s i : Int) = 10)) (ev_t rfl rfl) ev_c rfl (w0 rfl) ?_
    refine s_assign (v := .bool (decide ((byteAt s i : Int) = 10))) (ev_t rfl rfl) (w0 rfl) ?_
    refine c_done (n_then ?_)
    by_cases h22 : (byteAt s i : Int) = 10
    · refine c_cond1 (vb (ev_t rfl rfl) (decide_eq_true h22)) ?_
      refine c_reg ?_
      refine s_call F_e97 (w0 rfl) ev_f (m2 (ev_t rfl e17) ev_c) (args := #[.pointer (some ⟨g1, 0, none⟩), .string (⟨#[92, 110]⟩ : ByteArray)]) rfl (b_WriteString 95 _ g1 (strL (quotL s i)) (⟨#[92, 110]⟩ : ByteArray) _ (Wr.bw x12) (Nat.le_trans hB_ (Wr.size x12)) F_lies95 (by simp only [ByteArray.size_append, strL_size, z0, z1, z2, z3, z4, z5, z6]; omega)) ?_
      rintro _ w23 ⟨rfl, wr24⟩
      refine c_done (n_block (n_block (n_then (c_reg ?_))))
      refine s_add (r := ((i + 1 : Nat) : Int)) (ev_t rfl e20) ev_c (by omega) (by omega) (w0 rfl) ?_
      refine s_move (v := .int .i64 ((i + 1 : Nat) : Int)) (ev_t rfl rfl) (w0 rfl) ?_
      refine c_done ?_
      exact ⟨(i + 1), _, rfl, ⟨(Wr.cast (Wr.then_ x12 wr24) (by simp only [app1, app2]; rw [quotL_step s i (by omega) (l := [92, 110]) (by unfold encB; have e_ : (s.data.getD i 0).toNat = byteAt s i := rfl; rw [e_]; (repeat' split) <;> first | rfl | omega | (exfalso; omega))]; try simp)), by omega, (SBf.wr i15 wr24 ne_g6), e16, e17, e18, e19, rfl⟩, (show s.size - (i + 1) < s.size - i by omega)⟩
    · refine c_cond0 (vb (ev_t rfl rfl) (decide_eq_false h22)) ?_
      refine c_seq (c_seq (c_reg ?_))
      refine s_move (v := .int .u8 (byteAt s i : Int)) (ev_t rfl rfl) (w0 rfl) ?_
      refine s_cmp (r := decide ((byteAt s i : Int) = 34)) (ev_t rfl rfl) ev_c rfl (w0 rfl) ?_
      refine s_assign (v := .bool (decide ((byteAt s i : Int) = 34))) (ev_t rfl rfl) (w0 rfl) ?_
      refine c_done (n_then ?_)
      by_cases h25 : (byteAt s i : Int) = 34
      · refine c_cond1 (vb (ev_t rfl rfl) (decide_eq_true h25)) ?_
        refine c_skip (n_then ?_)
        refine c_cond1 (vb (ev_t rfl rfl) (decide_eq_true h25)) ?_
        refine c_seq (c_reg ?_)
        refine s_call F_e145 (w0 rfl) ev_f (m2 (ev_t rfl e17) ev_c) (args := #[.pointer (some ⟨g1, 0, none⟩), .int .u8 92]) rfl (b_WriteByte 95 _ g1 (strL (quotL s i)) 92 _ (Wr.bw x12) (Nat.le_trans hB_ (Wr.size x12)) F_lies95 (by simp only [ByteArray.size_append, strL_size, z0, z1, z2, z3, z4, z5, z6]; omega)) ?_
        rintro _ w26 ⟨rfl, wr27⟩
        refine c_done (n_then (c_reg ?_))
        refine s_move (v := .int .u8 (byteAt s i : Int)) (ev_t rfl rfl) (w0 rfl) ?_
        refine s_call F_e145 (w0 rfl) ev_f (m2 (ev_t rfl e17) (ev_t rfl rfl)) (args := #[.pointer (some ⟨g1, 0, none⟩), .int .u8 (byteAt s i : Int)]) rfl (b_WriteByte 95 _ g1 (strL (quotL s i) ++ (⟨#[92]⟩ : ByteArray)) (s.data.getD i 0) _ (Wr.bw wr27) (Nat.le_trans (Nat.le_trans hB_ (Wr.size x12)) (Wr.size wr27)) F_lies95 (by simp only [ByteArray.size_append, strL_size, z0, z1, z2, z3, z4, z5, z6]; omega)) ?_
        rintro _ w28 ⟨rfl, wr29⟩
        refine c_done (n_block (n_block (n_then (c_reg ?_))))
        refine s_add (r := ((i + 1 : Nat) : Int)) (ev_t rfl e20) ev_c (by omega) (by omega) (w0 rfl) ?_
        refine s_move (v := .int .i64 ((i + 1 : Nat) : Int)) (ev_t rfl rfl) (w0 rfl) ?_
        refine c_done ?_
        exact ⟨(i + 1), _, rfl, ⟨(Wr.cast (Wr.then_ (Wr.then_ x12 wr27) wr29) (by simp only [app1, app2]; rw [quotL_step s i (by omega) (l := [92, (s.data.getD i 0)]) (by unfold encB; have e_ : (s.data.getD i 0).toNat = byteAt s i := rfl; rw [e_]; (repeat' split) <;> first | rfl | omega | (exfalso; omega))]; try simp)), by omega, (SBf.wr (SBf.wr i15 wr27 ne_g6) wr29 ne_g6), e16, e17, e18, e19, rfl⟩, (show s.size - (i + 1) < s.size - i by omega)⟩
      · refine c_cond0 (vb (ev_t rfl rfl) (decide_eq_false h25)) ?_
        refine c_reg ?_
        refine s_move (v := .int .u8 (byteAt s i : Int)) (ev_t rfl rfl) (w0 rfl) ?_
        refine s_cmp (r := decide ((byteAt s i : Int) = 92)) (ev_t rfl rfl) ev_c rfl (w0 rfl) ?_
        refine s_assign (v := .bool (decide ((byteAt s i : Int) = 92))) (ev_t rfl rfl) (w0 rfl) ?_
        refine c_done (n_then ?_)
        by_cases h30 : (byteAt s i : Int) = 92
        · refine c_cond1 (vb (ev_t rfl rfl) (decide_eq_true h30)) ?_
          refine c_seq (c_reg ?_)
          refine s_call F_e145 (w0 rfl) ev_f (m2 (ev_t rfl e17) ev_c) (args := #[.pointer (some ⟨g1, 0, none⟩), .int .u8 92]) rfl (b_WriteByte 95 _ g1 (strL (quotL s i)) 92 _ (Wr.bw x12) (Nat.le_trans hB_ (Wr.size x12)) F_lies95 (by simp only [ByteArray.size_append, strL_size, z0, z1, z2, z3, z4, z5, z6]; omega)) ?_
          rintro _ w31 ⟨rfl, wr32⟩
          refine c_done (n_then (c_reg ?_))
          refine s_move (v := .int .u8 (byteAt s i : Int)) (ev_t rfl rfl) (w0 rfl) ?_
          refine s_call F_e145 (w0 rfl) ev_f (m2 (ev_t rfl e17) (ev_t rfl rfl)) (args := #[.pointer (some ⟨g1, 0, none⟩), .int .u8 (byteAt s i : Int)]) rfl (b_WriteByte 95 _ g1 (strL (quotL s i) ++ (⟨#[92]⟩ : ByteArray)) (s.data.getD i 0) _ (Wr.bw wr32) (Nat.le_trans (Nat.le_trans hB_ (Wr.size x12)) (Wr.size wr32)) F_lies95 (by simp only [ByteArray.size_append, strL_size, z0, z1, z2, z3, z4, z5, z6]; omega)) ?_
          rintro _ w33 ⟨rfl, wr34⟩
          refine c_done (n_block (n_block (n_then (c_reg ?_))))
          refine s_add (r := ((i + 1 : Nat) : Int)) (ev_t rfl e20) ev_c (by omega) (by omega) (w0 rfl) ?_
          refine s_move (v := .int .i64 ((i + 1 : Nat) : Int)) (ev_t rfl rfl) (w0 rfl) ?_
          refine c_done ?_
          exact ⟨(i + 1), _, rfl, ⟨(Wr.cast (Wr.then_ (Wr.then_ x12 wr32) wr34) (by simp only [app1, app2]; rw [quotL_step s i (by omega) (l := [92, (s.data.getD i 0)]) (by unfold encB; have e_ : (s.data.getD i 0).toNat = byteAt s i := rfl; rw [e_]; (repeat' split) <;> first | rfl | omega | (exfalso; omega))]; try simp)), by omega, (SBf.wr (SBf.wr i15 wr32 ne_g6) wr34 ne_g6), e16, e17, e18, e19, rfl⟩, (show s.size - (i + 1) < s.size - i by omega)⟩
        · refine c_cond0 (vb (ev_t rfl rfl) (decide_eq_false h30)) ?_
          refine c_seq (c_reg ?_)
          refine s_move (v := .int .u8 (byteAt s i : Int)) (ev_t rfl rfl) (w0 rfl) ?_
          refine s_cmp (r := decide ((byteAt s i : Int) < 32)) (ev_t rfl rfl) ev_c rfl (w0 rfl) ?_
          by_cases h35 : (byteAt s i : Int) < 32
          · refine s_move (v := .bool true) (vb (ev_t rfl rfl) (decide_eq_true h35)) (w0 rfl) ?_
            refine s_skip (wn rfl rfl rfl rfl rfl) ?_
            refine s_skip (wn rfl rfl rfl rfl rfl) ?_
            refine s_pick1 (v := .bool true) (ev_t rfl rfl) ev_c (w0 rfl) ?_
            refine s_assign (v := .bool true) (ev_t rfl rfl) (w0 rfl) ?_
            refine c_done (n_then ?_)
            refine c_cond1 (ev_t rfl rfl) ?_
            refine c_seq (c_reg ?_)
            refine s_call F_e97 (w0 rfl) ev_f (m2 (ev_t rfl e17) ev_c) (args := #[.pointer (some ⟨g1, 0, none⟩), .string (⟨#[92, 120]⟩ : ByteArray)]) rfl (b_WriteString 95 _ g1 (strL (quotL s i)) (⟨#[92, 120]⟩ : ByteArray) _ (Wr.bw x12) (Nat.le_trans hB_ (Wr.size x12)) F_lies95 (by simp only [ByteArray.size_append, strL_size, z0, z1, z2, z3, z4, z5, z6]; omega)) ?_
            rintro _ w36 ⟨rfl, wr37⟩
            refine c_done (n_then (c_seq (c_reg ?_)))
            refine s_move (v := .int .u8 (byteAt s i : Int)) (ev_t rfl rfl) (w0 rfl) ?_
            refine s_shr4 (m := byteAt s i) (ev_t rfl rfl) ev_c (by omega) (w0 rfl) ?_
            refine s_byte (j := (byteAt s i) / 16) F_us9 ev_c (ev_t rfl rfl) rfl (Nat.lt_of_lt_of_le (show (byteAt s i) / 16 < 16 by omega) (by decide)) (w0 rfl) ?_
            refine s_call F_e145 (w0 rfl) ev_f (m2 (ev_t rfl e17) (ev_t rfl rfl)) (args := #[.pointer (some ⟨g1, 0, none⟩), .int .u8 (byteAt (⟨#[48, 49, 50, 51, 52, 53, 54, 55, 56, 57, 97, 98, 99, 100, 101, 102]⟩ : ByteArray) ((byteAt s i) / 16) : Int)]) rfl (b_WriteByte 95 _ g1 (strL (quotL s i) ++ (⟨#[92, 120]⟩ : ByteArray)) ((⟨#[48, 49, 50, 51, 52, 53, 54, 55, 56, 57, 97, 98, 99, 100, 101, 102]⟩ : ByteArray).data.getD ((byteAt s i) / 16) 0) _ (Wr.bw wr37) (Nat.le_trans (Nat.le_trans hB_ (Wr.size x12)) (Wr.size wr37)) F_lies95 (by simp only [ByteArray.size_append, strL_size, z0, z1, z2, z3, z4, z5, z6]; omega)) ?_
            rintro _ w38 ⟨rfl, wr39⟩
            refine c_done (n_then (c_reg ?_))
            refine s_move (v := .int .u8 (byteAt s i : Int)) (ev_t rfl rfl) (w0 rfl) ?_
            refine s_and15 (m := byteAt s i) (ev_t rfl rfl) ev_c (by omega) (w0 rfl) ?_
            refine s_byte (j := (byteAt s i) % 16) F_us9 ev_c (ev_t rfl rfl) rfl (Nat.lt_of_lt_of_le (show (byteAt s i) % 16 < 16 by omega) (by decide)) (w0 rfl) ?_
            refine s_call F_e145 (w0 rfl) ev_f (m2 (ev_t rfl e17) (ev_t rfl rfl)) (args := #[.pointer (some ⟨g1, 0, none⟩), .int .u8 (byteAt (⟨#[48, 49, 50, 51, 52, 53, 54, 55, 56, 57, 97, 98, 99, 100, 101, 102]⟩ : ByteArray) ((byteAt s i) % 16) : Int)]) rfl (b_WriteByte 95 _ g1 (strL (quotL s i) ++ (⟨#[92, 120]⟩ : ByteArray) ++ (⟨#[((⟨#[48, 49, 50, 51, 52, 53, 54, 55, 56, 57, 97, 98, 99, 100, 101, 102]⟩ : ByteArray).data.getD ((byteAt s i) / 16) 0)]⟩ : ByteArray)) ((⟨#[48, 49, 50, 51, 52, 53, 54, 55, 56, 57, 97, 98, 99, 100, 101, 102]⟩ : ByteArray).data.getD ((byteAt s i) % 16) 0) _ (Wr.bw wr39) (Nat.le_trans (Nat.le_trans (Nat.le_trans hB_ (Wr.size x12)) (Wr.size wr37)) (Wr.size wr39)) F_lies95 (by simp only [ByteArray.size_append, strL_size, z0, z1, z2, z3, z4, z5, z6]; omega)) ?_
            rintro _ w40 ⟨rfl, wr41⟩
            refine c_done (n_block (n_block (n_then (c_reg ?_))))
            refine s_add (r := ((i + 1 : Nat) : Int)) (ev_t rfl e20) ev_c (by omega) (by omega) (w0 rfl) ?_
            refine s_move (v := .int .i64 ((i + 1 : Nat) : Int)) (ev_t rfl rfl) (w0 rfl) ?_
            refine c_done ?_
            exact ⟨(i + 1), _, rfl, ⟨(Wr.cast (Wr.then_ (Wr.then_ (Wr.then_ x12 wr37) wr39) wr41) (by simp only [app1, app2]; rw [quotL_step s i (by omega) (l := [92, 120, ((⟨#[48, 49, 50, 51, 52, 53, 54, 55, 56, 57, 97, 98, 99, 100, 101, 102]⟩ : ByteArray).data.getD ((byteAt s i) / 16) 0), ((⟨#[48, 49, 50, 51, 52, 53, 54, 55, 56, 57, 97, 98, 99, 100, 101, 102]⟩ : ByteArray).data.getD ((byteAt s i) % 16) 0)]) (by unfold encB; have e_ : (s.data.getD i 0).toNat = byteAt s i := rfl; rw [e_]; (repeat' split) <;> first | rfl | omega | (exfalso; omega))]; try simp)), by omega, (SBf.wr (SBf.wr (SBf.wr i15 wr37 ne_g6) wr39 ne_g6) wr41 ne_g6), e16, e17, e18, e19, rfl⟩, (show s.size - (i + 1) < s.size - i by omega)⟩
          · refine s_move (v := .bool false) (vb (ev_t rfl rfl) (decide_eq_false h35)) (w0 rfl) ?_
            refine s_move (v := .int .u8 (byteAt s i : Int)) (ev_t rfl rfl) (wy rfl rfl rfl rfl) ?_
            refine s_cmp (r := decide (126 < (byteAt s i : Int))) (ev_t rfl rfl) ev_c rfl (wy rfl rfl rfl rfl) ?_
            refine s_pick0 (v := .bool (decide (126 < (byteAt s i : Int)))) (ev_t rfl rfl) (ev_t rfl rfl) (w0 rfl) ?_
            refine s_assign (v := .bool (decide (126 < (byteAt s i : Int)))) (ev_t rfl rfl) (w0 rfl) ?_
            refine c_done (n_then ?_)
            by_cases h42 : 126 < (byteAt s i : Int)
            · refine c_cond1 (vb (ev_t rfl rfl) (decide_eq_true h42)) ?_
              refine c_seq (c_reg ?_)
              refine s_call F_e97 (w0 rfl) ev_f (m2 (ev_t rfl e17) ev_c) (args := #[.pointer (some ⟨g1, 0, none⟩), .string (⟨#[92, 120]⟩ : ByteArray)]) rfl (b_WriteString 95 _ g1 (strL (quotL s i)) (⟨#[92, 120]⟩ : ByteArray) _ (Wr.bw x12) (Nat.le_trans hB_ (Wr.size x12)) F_lies95 (by simp only [ByteArray.size_append, strL_size, z0, z1, z2, z3, z4, z5, z6]; omega)) ?_
              rintro _ w43 ⟨rfl, wr44⟩
              refine c_done (n_then (c_seq (c_reg ?_)))
              refine s_move (v := .int .u8 (byteAt s i : Int)) (ev_t rfl rfl) (w0 rfl) ?_
              refine s_shr4 (m := byteAt s i) (ev_t rfl rfl) ev_c (by omega) (w0 rfl) ?_
              refine s_byte (j := (byteAt s i) / 16) F_us9 ev_c (ev_t rfl rfl) rfl (Nat.lt_of_lt_of_le (show (byteAt s i) / 16 < 16 by omega) (by decide)) (w0 rfl) ?_
              refine s_call F_e145 (w0 rfl) ev_f (m2 (ev_t rfl e17) (ev_t rfl rfl)) (args := #[.pointer (some ⟨g1, 0, none⟩), .int .u8 (byteAt (⟨#[48, 49, 50, 51, 52, 53, 54, 55, 56, 57, 97, 98, 99, 100, 101, 102]⟩ : ByteArray) ((byteAt s i) / 16) : Int)]) rfl (b_WriteByte 95 _ g1 (strL (quotL s i) ++ (⟨#[92, 120]⟩ : ByteArray)) ((⟨#[48, 49, 50, 51, 52, 53, 54, 55, 56, 57, 97, 98, 99, 100, 101, 102]⟩ : ByteArray).data.getD ((byteAt s i) / 16) 0) _ (Wr.bw wr44) (Nat.le_trans (Nat.le_trans hB_ (Wr.size x12)) (Wr.size wr44)) F_lies95 (by simp only [ByteArray.size_append, strL_size, z0, z1, z2, z3, z4, z5, z6]; omega)) ?_
              rintro _ w45 ⟨rfl, wr46⟩
              refine c_done (n_then (c_reg ?_))
              refine s_move (v := .int .u8 (byteAt s i : Int)) (ev_t rfl rfl) (w0 rfl) ?_
              refine s_and15 (m := byteAt s i) (ev_t rfl rfl) ev_c (by omega) (w0 rfl) ?_
              refine s_byte (j := (byteAt s i) % 16) F_us9 ev_c (ev_t rfl rfl) rfl (Nat.lt_of_lt_of_le (show (byteAt s i) % 16 < 16 by omega) (by decide)) (w0 rfl) ?_
              refine s_call F_e145 (w0 rfl) ev_f (m2 (ev_t rfl e17) (ev_t rfl rfl)) (args := #[.pointer (some ⟨g1, 0, none⟩), .int .u8 (byteAt (⟨#[48, 49, 50, 51, 52, 53, 54, 55, 56, 57, 97, 98, 99, 100, 101, 102]⟩ : ByteArray) ((byteAt s i) % 16) : Int)]) rfl (b_WriteByte 95 _ g1 (strL (quotL s i) ++ (⟨#[92, 120]⟩ : ByteArray) ++ (⟨#[((⟨#[48, 49, 50, 51, 52, 53, 54, 55, 56, 57, 97, 98, 99, 100, 101, 102]⟩ : ByteArray).data.getD ((byteAt s i) / 16) 0)]⟩ : ByteArray)) ((⟨#[48, 49, 50, 51, 52, 53, 54, 55, 56, 57, 97, 98, 99, 100, 101, 102]⟩ : ByteArray).data.getD ((byteAt s i) % 16) 0) _ (Wr.bw wr46) (Nat.le_trans (Nat.le_trans (Nat.le_trans hB_ (Wr.size x12)) (Wr.size wr44)) (Wr.size wr46)) F_lies95 (by simp only [ByteArray.size_append, strL_size, z0, z1, z2, z3, z4, z5, z6]; omega)) ?_
              rintro _ w47 ⟨rfl, wr48⟩
              refine c_done (n_block (n_block (n_then (c_reg ?_))))
              refine s_add (r := ((i + 1 : Nat) : Int)) (ev_t rfl e20) ev_c (by omega) (by omega) (w0 rfl) ?_
              refine s_move (v := .int .i64 ((i + 1 : Nat) : Int)) (ev_t rfl rfl) (w0 rfl) ?_
              refine c_done ?_
              exact ⟨(i + 1), _, rfl, ⟨(Wr.cast (Wr.then_ (Wr.then_ (Wr.then_ x12 wr44) wr46) wr48) (by simp only [app1, app2]; rw [quotL_step s i (by omega) (l := [92, 120, ((⟨#[48, 49, 50, 51, 52, 53, 54, 55, 56, 57, 97, 98, 99, 100, 101, 102]⟩ : ByteArray).data.getD ((byteAt s i) / 16) 0), ((⟨#[48, 49, 50, 51, 52, 53, 54, 55, 56, 57, 97, 98, 99, 100, 101, 102]⟩ : ByteArray).data.getD ((byteAt s i) % 16) 0)]) (by unfold encB; have e_ : (s.data.getD i 0).toNat = byteAt s i := rfl; rw [e_]; (repeat' split) <;> first | rfl | omega | (exfalso; omega))]; try simp)), by omega, (SBf.wr (SBf.wr (SBf.wr i15 wr44 ne_g6) wr46 ne_g6) wr48 ne_g6), e16, e17, e18, e19, rfl⟩, (show s.size - (i + 1) < s.size - i by omega)⟩
            · refine c_cond0 (vb (ev_t rfl rfl) (decide_eq_false h42)) ?_
              refine c_reg ?_
              refine s_move (v := .int .u8 (byteAt s i : Int)) (ev_t rfl rfl) (w0 rfl) ?_
              refine s_call F_e145 (w0 rfl) ev_f (m2 (ev_t rfl e17) (ev_t rfl rfl)) (args := #[.pointer (some ⟨g1, 0, none⟩), .int .u8 (byteAt s i : Int)]) rfl (b_WriteByte 95 _ g1 (strL (quotL s i)) (s.data.getD i 0) _ (Wr.bw x12) (Nat.le_trans hB_ (Wr.size x12)) F_lies95 (by simp only [ByteArray.size_append, strL_size, z0, z1, z2, z3, z4, z5, z6]; omega)) ?_
              rintro _ w49 ⟨rfl, wr50⟩
              refine c_done (n_block (n_block (n_then (c_reg ?_))))
              refine s_add (r := ((i + 1 : Nat) : Int)) (ev_t rfl e20) ev_c (by omega) (by omega) (w0 rfl) ?_
              refine s_move (v := .int .i64 ((i + 1 : Nat) : Int)) (ev_t rfl rfl) (w0 rfl) ?_
              refine c_done ?_
              exact ⟨(i + 1), _, rfl, ⟨(Wr.cast (Wr.then_ x12 wr50) (by simp only [app1, app2]; rw [quotL_step s i (by omega) (l := [(s.data.getD i 0)]) (by unfold encB; have e_ : (s.data.getD i 0).toNat = byteAt s i := rfl; rw [e_]; (repeat' split) <;> first | rfl | omega | (exfalso; omega))]; try simp)), by omega, (SBf.wr i15 wr50 ne_g6), e16, e17, e18, e19, rfl⟩, (show s.size - (i + 1) < s.size - i by omega)⟩
  · refine c_cond0 (vb (ev_t rfl rfl) (decide_eq_false h21)) ?_
    refine c_exit (e_then (e_then (e_hit (n_then (c_seq (c_reg ?_))))))
    refine s_call F_e145 (w0 rfl) ev_f (m2 (ev_t rfl e17) ev_c) (args := #[.pointer (some ⟨g1, 0, none⟩), .int .u8 34]) rfl (b_WriteByte 95 _ g1 (strL (quotL s i)) 34 _ (Wr.bw x12) (Nat.le_trans hB_ (Wr.size x12)) F_lies95 (by simp only [ByteArray.size_append, strL_size, z0, z1, z2, z3, z4, z5, z6]; omega)) ?_
    rintro _ w51 ⟨rfl, wr52⟩
    refine c_done (n_then (c_seq (c_reg ?_)))
    refine s_call F_e55 (w0 rfl) ev_f (m1 (ev_t rfl e17)) (args := #[.pointer (some ⟨g1, 0, none⟩)]) rfl (b_String 95 _ g1 (strL (quotL s i) ++ (⟨#[34]⟩ : ByteArray)) _ (Wr.bw wr52) (Nat.le_trans (Nat.le_trans hB_ (Wr.size x12)) (Wr.size wr52)) (by simp only [ByteArray.size_append, z1]; omega)) ?_
    rintro _ w53 ⟨rfl, bl54⟩
    refine s_assign (v := .string (strL (quotL s i) ++ (⟨#[34]⟩ : ByteArray))) (ev_t rfl rfl) (w0 rfl) ?_
    refine c_done (n_then (c_ret ?_))
    refine ret1 (v := .string (strL (quotL s i) ++ (⟨#[34]⟩ : ByteArray))) rfl rfl rfl ?_
    refine ⟨_, rfl, ?_, (ext_bel (Wr.after wr52 (Wr.after x12 (NewB.ext n3) rfl) rfl) bl54)⟩
    (have e_ : i = s.size := by omega); subst e_; exact congrArg Value.string (quotB_eq s)
theorem v_FormatInt (n : Int) (w : World) (tb : Tabs Tryz.prog w) (h : -9223372036854775808 ≤ n ∧ n ≤ 9223372036854775807) : Rt Tryz.prog 129 #[.int .i64 n, .int .i64 10] w fun v w' => v = .string (itoaB n) ∧ Ext w w' := by
  refine Calls.mono (Tryz.strconv_FormatInt_10 n h.1 h.2 w tb.pow) ?_
  rintro e w' ⟨rfl, k, os, h⟩
  exact ⟨_, rfl, rfl, ext_grow h⟩
set_option maxHeartbeats 4000000 in
theorem v_Show (x : Vl) (w : World) (hx : x.wf) (tb : Tabs Tryz.prog w) :
    Rt Tryz.prog 106 #[.agg #[.int .i8 x.k, .int .i64 x.n, .string x.s]] w fun v w' => v = .tuple #[.string (if okV x then showB x else ⟨#[]⟩), .int .i64 (if okV x then 0 else 10 : Int)] ∧ Ext w w' := by
  refine enter Tryz.func106 rfl (l := [.agg #[.int .i8 x.k, .int .i64 x.n, .string x.s]]) rfl Tryz.ntmps106 (Nat.le_of_ble_eq_true rfl) ?_
  refine c_seq (c_reg ?_)
  refine s_box (v := .agg #[.int .i8 x.k, .int .i64 x.n, .string x.s]) (cs := #[.int .i8 x.k, .int .i64 x.n, .string x.s]) (w0 rfl) (ev_t rfl rfl) rfl ?_
  intro w2 g1 n3
  refine s_assign (v := .string (⟨#[]⟩ : ByteArray)) ev_c (w0 rfl) ?_
  refine s_assign (v := .int .i64 0) ev_c (w0 rfl) ?_
  refine c_done (n_then (c_seq (c_seq (c_reg ?_))))
  refine s_loadL (cs := [.int .i8 x.k, .int .i64 x.n, .string x.s]) (ca := #[.int .i8 x.k, .int .i64 x.n, .string x.s]) F_m31 (ev_t rfl rfl) rfl rfl (blk_cells (NewB.blk n3) 0 (cs := [.int .i8 x.k, .int .i64 x.n, .string x.s]) rfl) (w0 rfl) ?_
  refine s_call F_e105 (w0 rfl) ev_f (m1 (ev_t rfl rfl)) (args := #[.agg #[.int .i8 x.k, .int .i64 x.n, .string x.s]]) rfl (v_Check x _) ?_
  rintro _ w5 ⟨rfl, x4⟩
  refine s_assign (v := .int .i64 (if okV x then 0 else 10 : Int)) (ev_t rfl rfl) (w0 rfl) ?_
  refine c_done (n_then (c_seq (c_reg ?_)))
  refine s_move (v := .int .i64 (if okV x then 0 else 10 : Int)) (ev_t rfl rfl) (w0 rfl) ?_
  refine s_cmp (r := !(okV x)) (ev_t rfl rfl) ev_c (ci_tn (b := (okV x)) (by decide)) (w0 rfl) ?_
  refine c_done (n_then ?_)
  rcases Bool.eq_false_or_eq_true (okV x) with h6 | h6
  · refine c_cond0 (vb (ev_t rfl rfl) (nbt h6)) ?_
    refine c_skip (n_then (c_seq (c_seq (c_reg ?_))))
    refine s_field (off := 0) (o' := 0) F_f31_0 (ev_t rfl rfl) rfl (w0 rfl) ?_
    refine s_load (v := .int .i8 x.k) F_o29 (ev_t rfl rfl) (cell_of_blk (i := 0) (Ext.blk x4 (NewB.blk n3)) rfl) (w0 rfl) ?_
    refine s_cmp (r := decide (x.k = 1)) (ev_t rfl rfl) ev_c rfl (w0 rfl) ?_
    refine c_done (n_then ?_)
    by_cases h7 : x.k = 1
    · refine c_cond1 (vb (ev_t rfl rfl) (decide_eq_true h7)) ?_
      refine c_seq (c_reg ?_)
      refine s_field (off := 1) (o' := 1) F_f31_1 (ev_t rfl rfl) rfl (w0 rfl) ?_
      refine s_load (v := .int .i64 x.n) F_o2 (ev_t rfl rfl) (cell_of_blk (i := 1) (Ext.blk x4 (NewB.blk n3)) rfl) (w0 rfl) ?_
      refine s_call F_e129 (w0 rfl) ev_f (m2 (ev_t rfl rfl) ev_c) (args := #[.int .i64 x.n, .int .i64 10]) rfl (v_FormatInt x.n _ (Tabs.ext tb (Ext.trans (NewB.ext n3) x4)) (Vl.wf.n hx)) ?_
      rintro _ w9 ⟨rfl, x8⟩
      refine s_assign (v := .string (itoaB x.n)) (ev_t rfl rfl) (w0 rfl) ?_
      refine s_assign (v := .int .i64 0) ev_c (w0 rfl) ?_
      refine c_done (n_then (c_ret (r_then ?_)))
      refine ret2 (v := .string (itoaB x.n)) (v2 := .int .i64 0) rfl rfl rfl rfl rfl ?_
      refine ⟨_, rfl, ?_, (Ext.trans (Ext.trans (NewB.ext n3) x4) x8)⟩
      (simp [showB, *])
    · refine c_cond0 (vb (ev_t rfl rfl) (decide_eq_false h7)) ?_
      refine c_skip (n_then (c_seq (c_seq (c_reg ?_))))
      refine s_field (off := 2) (o' := 2) F_f31_2 (ev_t rfl rfl) rfl (w0 rfl) ?_
      refine s_load (v := .string x.s) F_o9 (ev_t rfl rfl) (cell_of_blk (i := 2) (Ext.blk x4 (NewB.blk n3)) rfl) (w0 rfl) ?_
      refine s_call F_e130 (w0 rfl) ev_f (m1 (ev_t rfl rfl)) (args := #[.string x.s]) rfl (v_name x.s _ (Vl.wf.s hx)) ?_
      rintro _ w11 ⟨rfl, x10⟩
      refine c_done (n_then ?_)
      rcases Bool.eq_false_or_eq_true (nameB x.s) with h12 | h12
      · refine c_cond1 (vb (ev_t rfl rfl) h12) ?_
        refine c_seq (c_reg ?_)
        refine s_field (off := 2) (o' := 2) F_f31_2 (ev_t rfl rfl) rfl (w0 rfl) ?_
        refine s_load (v := .string x.s) F_o9 (ev_t rfl rfl) (cell_of_blk (i := 2) (Ext.blk x10 (Ext.blk x4 (NewB.blk n3))) rfl) (w0 rfl) ?_
        refine s_assign (v := .string x.s) (ev_t rfl rfl) (w0 rfl) ?_
        refine s_assign (v := .int .i64 0) ev_c (w0 rfl) ?_
        refine c_done (n_then (c_ret (r_then ?_)))
        refine ret2 (v := .string x.s) (v2 := .int .i64 0) rfl rfl rfl rfl rfl ?_
        refine ⟨_, rfl, ?_, (Ext.trans (Ext.trans (NewB.ext n3) x4) x10)⟩
        (simp [showB, *])
      · refine c_cond0 (vb (ev_t rfl rfl) h12) ?_
        refine c_skip (n_then (c_seq (c_reg ?_)))
        refine s_field (off := 2) (o' := 2) F_f31_2 (ev_t rfl rfl) rfl (w0 rfl) ?_
        refine s_load (v := .string x.s) F_o9 (ev_t rfl rfl) (cell_of_blk (i := 2) (Ext.blk x10 (Ext.blk x4 (NewB.blk n3))) rfl) (w0 rfl) ?_
        refine s_call F_e131 (w0 rfl) ev_f (m1 (ev_t rfl rfl)) (args := #[.string x.s]) rfl (v_quoted x.s _ (by have z_ := okV_s (x := x) (by assumption); omega)) ?_
        rintro _ w14 ⟨rfl, x13⟩
        refine s_assign (v := .string (quotB x.s)) (ev_t rfl rfl) (w0 rfl) ?_
        refine s_assign (v := .int .i64 0) ev_c (w0 rfl) ?_
        refine c_done (n_then (c_ret ?_))
        refine ret2 (v := .string (quotB x.s)) (v2 := .int .i64 0) rfl rfl rfl rfl rfl ?_
        refine ⟨_, rfl, ?_, (Ext.trans (Ext.trans (Ext.trans (NewB.ext n3) x4) x10) x13)⟩
        (simp [showB, *])
  · refine c_cond1 (vb (ev_t rfl rfl) (nbf h6)) ?_
    refine c_seq (c_reg ?_)
    refine s_move (v := .int .i64 (if okV x then 0 else 10 : Int)) (ev_t rfl rfl) (w0 rfl) ?_
    refine s_assign (v := .string (⟨#[]⟩ : ByteArray)) ev_c (w0 rfl) ?_
    refine s_assign (v := .int .i64 (if okV x then 0 else 10 : Int)) (ev_t rfl rfl) (w0 rfl) ?_
    refine c_done (n_then (c_ret (r_then ?_)))
    refine ret2 (v := .string (⟨#[]⟩ : ByteArray)) (v2 := .int .i64 (if okV x then 0 else 10 : Int)) rfl rfl rfl rfl rfl ?_
    refine ⟨_, rfl, ?_, (Ext.trans (NewB.ext n3) x4)⟩
    (simp [showB, *])
end Go.Proofs.Zw

set_option linter.unusedVariables false
set_option linter.unusedSimpArgs false
set_option maxRecDepth 10000
namespace Go.Proofs.Zw
open Go Go.Wk Go.Proofs Go.Lib
attribute [local irreducible] Go.wpList Go.wpStill Go.wpQuiet Go.Code.wp Go.Calls
theorem F_ar156 : arrayT Tryz.prog 156 11 1 = true := by kernel_rfl
theorem F_ar157 : arrayT Tryz.prog 157 11 1 = true := by kernel_rfl
theorem F_ar158 : arrayT Tryz.prog 158 8 1 = true := by kernel_rfl
theorem F_e106 : enterable Tryz.prog 106 = true := by kernel_rfl
theorem F_e116 : enterable Tryz.prog 116 = true := by kernel_rfl
theorem F_e54 : enterable Tryz.prog 54 = true := by kernel_rfl
theorem F_e71 : enterable Tryz.prog 71 = true := by kernel_rfl
theorem F_e84 : enterable Tryz.prog 84 = true := by kernel_rfl
theorem F_gn1 : Tryz.prog.globalNamed "pedigree/print.hold" = some 1 := by kernel_rfl
theorem F_gn2 : Tryz.prog.globalNamed "pedigree/print.words" = some 2 := by kernel_rfl
theorem F_gn3 : Tryz.prog.globalNamed "pedigree/print.signs" = some 3 := by kernel_rfl
theorem F_lies97 : liesAt Tryz.prog Tryz.prog.depth 97 (2 / Tryz.prog.cellsOf 97) 0 95 1 = true := by kernel_rfl
theorem bs106_1_0s : ∀ (a0 : ByteArray), ∀ w : World, (Instr.buildSlice 106 1 [(0, .string a0)].toArray).run Tryz.prog w = .ok (.slice (some ⟨w.heap.size, 0, none⟩) 1 1) (w.alloc (.cells #[.string a0] 9)) := by
  intros
  kernel_rfl
theorem bs106_3_0s_1s_2s : ∀ (a0 : ByteArray) (a1 : ByteArray) (a2 : ByteArray), ∀ w : World, (Instr.buildSlice 106 3 [(0, .string a0), (1, .string a1), (2, .string a2)].toArray).run Tryz.prog w = .ok (.slice (some ⟨w.heap.size, 0, none⟩) 3 3) (w.alloc (.cells #[.string a0, .string a1, .string a2] 9)) := by
  intros
  kernel_rfl
set_option maxHeartbeats 4000000 in
theorem p_term (x : Tm) (g : Nat) (s0 : ByteArray) (wz : World) (w : World) (x0 : Ext wz w) (tb : Tabs Tryz.prog wz) (hb : BW 5 97 wz.heap.size w g s0) (hx : x.wf) (hs : s0.size + (termW x).size ≤ 140737488355328) :
    Rt Tryz.prog 71 #[.pointer (some ⟨g, 0, none⟩), .agg #[.string x.v, .int .i8 x.l.k, .int .i64 x.l.n, .string x.l.s]] w fun v w' => v = .tuple #[] ∧ Wr 5 97 wz.heap.size g (s0 ++ termW x) w w' := by
  refine enter Tryz.func71 rfl (l := [.pointer (some ⟨g, 0, none⟩), .agg #[.string x.v, .int .i8 x.l.k, .int .i64 x.l.n, .string x.l.s]]) rfl Tryz.ntmps71 (Nat.le_of_ble_eq_true rfl) ?_
  have hB_ := Keep.size x0
  refine c_seq (c_reg ?_)
  refine s_box (v := .agg #[.string x.v, .int .i8 x.l.k, .int .i64 x.l.n, .string x.l.s]) (cs := #[.string x.v, .int .i8 x.l.k, .int .i64 x.l.n, .string x.l.s]) (w0 rfl) (ev_t rfl rfl) rfl ?_
  intro w2 g1 n3
  have ne_g1 : g1 ≠ g := by have a_ := NewB.eq n3; have b_ := BW.lt hb; omega
  refine c_done (n_then (c_seq (c_seq (c_reg ?_))))
  refine s_field (off := 0) (o' := 0) F_f33_0 (ev_t rfl rfl) rfl (w0 rfl) ?_
  refine s_load (v := .string x.v) F_o9 (ev_t rfl rfl) (cell_of_blk (i := 0) (NewB.blk n3) rfl) (w0 rfl) ?_
  refine s_cmpS (r := !decide (x.v = (⟨#[]⟩ : ByteArray))) (ev_t rfl rfl) ev_c rfl (w0 rfl) ?_
  refine c_done (n_then ?_)
  by_cases h4 : x.v = (⟨#[]⟩ : ByteArray)
  · refine c_cond0 (vb (ev_t rfl rfl) (nb0 h4)) ?_
    refine c_skip (n_then (c_seq (c_reg ?_)))
    refine s_field (off := 1) (o' := 1) F_f33_1 (ev_t rfl rfl) rfl (w0 rfl) ?_
    refine s_loadL (cs := [.int .i8 x.l.k, .int .i64 x.l.n, .string x.l.s]) (ca := #[.int .i8 x.l.k, .int .i64 x.l.n, .string x.l.s]) F_m31 (ev_t rfl rfl) rfl rfl (blk_cells (NewB.blk n3) 1 (cs := [.int .i8 x.l.k, .int .i64 x.l.n, .string x.l.s]) rfl) (w0 rfl) ?_
    refine s_call F_e106 (w0 rfl) ev_f (m1 (ev_t rfl rfl)) (args := #[.agg #[.int .i8 x.l.k, .int .i64 x.l.n, .string x.l.s]]) rfl (v_Show x.l _ (Tm.wf.l hx) (Tabs.ext tb (Ext.trans x0 (NewB.ext n3)))) ?_
    rintro _ w6 ⟨rfl, x5⟩
    refine s_move (v := .tuple #[.string (if okV x.l then showB x.l else ⟨#[]⟩), .int .i64 (if okV x.l then 0 else 10 : Int)]) (ev_t rfl rfl) (w0 rfl) ?_
    refine s_extract (v := .string (if okV x.l then showB x.l else ⟨#[]⟩)) (ev_t rfl rfl) rfl (w0 rfl) ?_
    refine s_extract (v := .int .i64 (if okV x.l then 0 else 10 : Int)) (ev_t rfl rfl) rfl (w0 rfl) ?_
    refine s_assign (v := .string (if okV x.l then showB x.l else ⟨#[]⟩)) (ev_t rfl rfl) (w0 rfl) ?_
    refine s_assign (v := .int .i64 (if okV x.l then 0 else 10 : Int)) (ev_t rfl rfl) (w0 rfl) ?_
    refine c_done (n_then (c_reg ?_))
    refine s_move (v := .pointer (some ⟨g, 0, none⟩)) (ev_t rfl rfl) (w0 rfl) ?_
    refine s_move (v := .string (if okV x.l then showB x.l else ⟨#[]⟩)) (ev_t rfl rfl) (w0 rfl) ?_
    refine s_bslice (vs := [(0, .string (if okV x.l then showB x.l else ⟨#[]⟩))]) (cs := #[.string (if okV x.l then showB x.l else ⟨#[]⟩)]) (b1 (ev_t rfl rfl)) (bs106_1_0s (if okV x.l then showB x.l else ⟨#[]⟩)) (w0 rfl) ?_
    intro w8 g7 n9
    have ne_g7 : g7 ≠ g := by have a_ := NewB.eq n9; have b_ := BW.lt (BW.ext (BW.ext hb (NewB.ext n3)) x5); omega
    refine s_call F_e54 (w0 rfl) ev_f (m2 (ev_t rfl rfl) (ev_t rfl rfl)) (args := #[.pointer (some ⟨g, 0, none⟩), .slice (some ⟨g7, 0, none⟩) 1 1]) rfl (p_put 97 _ g g7 (s0) [(if okV x.l then showB x.l else ⟨#[]⟩)] _ (BW.ext (BW.ext (BW.ext hb (NewB.ext n3)) x5) (NewB.ext n9)) (Nat.le_trans (Nat.le_trans (Nat.le_trans hB_ (Keep.size (NewB.ext n3))) (Keep.size x5)) (Keep.size (NewB.ext n9))) (by decide) F_lies97 (NewB.blk n9) (by simp only [catL, app_nil]; revert hs; simp only [termW, *, if_true, if_false]; intro hs; omega) (by simp)) ?_
    rintro _ w10 ⟨rfl, wr11⟩
    refine c_done ?_
    refine ret0 rfl ?_
    exact ⟨_, rfl, rfl, Wr.cast (Wr.then_ (Wr.of_ext hb (Ext.trans (Ext.trans (NewB.ext n3) x5) (NewB.ext n9)) hB_) wr11) (by simp [termW, catL, app_nil, *])⟩
  · refine c_cond1 (vb (ev_t rfl rfl) (nb1 h4)) ?_
    refine c_seq (c_reg ?_)
    refine s_move (v := .pointer (some ⟨g, 0, none⟩)) (ev_t rfl rfl) (w0 rfl) ?_
    refine s_field (off := 0) (o' := 0) F_f33_0 (ev_t rfl rfl) rfl (w0 rfl) ?_
    refine s_load (v := .string x.v) F_o9 (ev_t rfl rfl) (cell_of_blk (i := 0) (NewB.blk n3) rfl) (w0 rfl) ?_
    refine s_bslice (vs := [(0, .string x.v)]) (cs := #[.string x.v]) (b1 (ev_t rfl rfl)) (bs106_1_0s x.v) (w0 rfl) ?_
    intro w13 g12 n14
    have ne_g12 : g12 ≠ g := by have a_ := NewB.eq n14; have b_ := BW.lt (BW.ext hb (NewB.ext n3)); omega
    refine s_call F_e54 (w0 rfl) ev_f (m2 (ev_t rfl rfl) (ev_t rfl rfl)) (args := #[.pointer (some ⟨g, 0, none⟩), .slice (some ⟨g12, 0, none⟩) 1 1]) rfl (p_put 97 _ g g12 (s0) [x.v] _ (BW.ext (BW.ext hb (NewB.ext n3)) (NewB.ext n14)) (Nat.le_trans (Nat.le_trans hB_ (Keep.size (NewB.ext n3))) (Keep.size (NewB.ext n14))) (by decide) F_lies97 (NewB.blk n14) (by simp only [catL, app_nil]; revert hs; simp only [termW, *, if_true, if_false]; intro hs; omega) (by simp)) ?_
    rintro _ w15 ⟨rfl, wr16⟩
    refine c_done (n_then (c_ret (r_then ?_)))
    refine ret0r rfl ?_
    exact ⟨_, rfl, rfl, Wr.cast (Wr.then_ (Wr.of_ext hb (Ext.trans (NewB.ext n3) (NewB.ext n14)) hB_) wr16) (by simp [termW, catL, app_nil, *])⟩
set_option maxHeartbeats 4000000 in
theorem p_side (d : Nat) (x : Ex) (A : Option Addr) (c : Nat) (b : Bool) (g : Nat) (s0 : ByteArray) (wz : World) (w : World) (x0 : Ext wz w) (tb : Tabs Tryz.prog wz) (hb : BW 5 97 wz.heap.size w g s0) (ho : x.okc c) (hr : Row RE 6 wz A x.kids) (hd : exB d x = true) (hz : (exW d x).size ≤ 2 ^ d * 900 - 8) (hs : s0.size + 2 ^ d * 900 + 2 ≤ 1000000000000) (he : ∀ (A : Option Addr) (c : Nat) (w : World) (s0 : ByteArray), x.okc c → Row RE 6 wz A x.kids → Ext wz w → BW 5 97 wz.heap.size w g s0 → s0.size + 2 ^ d * 900 ≤ 1000000000000 → Rt Tryz.prog 84 #[.pointer (some ⟨g, 0, none⟩), .agg #[.int .i8 x.op, .string x.t.v, .int .i8 x.t.l.k, .int .i64 x.t.l.n, .string x.t.l.s, .slice A x.kids.length c]] w fun v w' => v = .tuple #[] ∧ Wr 5 97 wz.heap.size g (s0 ++ exW d x) w w') :
    Rt Tryz.prog 116 #[.pointer (some ⟨g, 0, none⟩), .agg #[.int .i8 x.op, .string x.t.v, .int .i8 x.t.l.k, .int .i64 x.t.l.n, .string x.t.l.s, .slice A x.kids.length c], .bool b] w fun v w' => v = .tuple #[] ∧ Wr 5 97 wz.heap.size g (s0 ++ inB b (exW d x)) w w' := by
  refine enter Tryz.func116 rfl (l := [.pointer (some ⟨g, 0, none⟩), .agg #[.int .i8 x.op, .string x.t.v, .int .i8 x.t.l.k, .int .i64 x.t.l.n, .string x.t.l.s, .slice A x.kids.length c], .bool b]) rfl Tryz.ntmps116 (Nat.le_of_ble_eq_true rfl) ?_
  have hB_ := Keep.size x0
  have hl_ := Ex.okc.l ho
  have hc_ := Ex.okc.c ho
  have hp_ : 1 ≤ 2 ^ d := Nat.one_le_two_pow
  refine c_seq (c_reg ?_)
  refine s_box (v := .agg #[.int .i8 x.op, .string x.t.v, .int .i8 x.t.l.k, .int .i64 x.t.l.n, .string x.t.l.s, .slice A x.kids.length c]) (cs := #[.int .i8 x.op, .string x.t.v, .int .i8 x.t.l.k, .int .i64 x.t.l.n, .string x.t.l.s, .slice A x.kids.length c]) (w0 rfl) (ev_t rfl rfl) rfl ?_
  intro w2 g1 n3
  have ne_g1 : g1 ≠ g := by have a_ := NewB.eq n3; have b_ := BW.lt hb; omega
  refine c_done (n_then (c_seq (c_seq (c_reg ?_))))
  refine s_move (v := .bool b) (ev_t rfl rfl) (w0 rfl) ?_
  refine s_not (b := b) (ev_t rfl rfl) (w0 rfl) ?_
  refine c_done (n_then ?_)
  rcases Bool.eq_false_or_eq_true b with h4 | h4
  · refine c_cond0 (vb (ev_t rfl rfl) (nbt h4)) ?_
    refine c_skip (n_then (c_seq (c_reg ?_)))
    refine s_move (v := .pointer (some ⟨g, 0, none⟩)) (ev_t rfl rfl) (w0 rfl) ?_
    refine s_bslice (vs := [(0, .string (⟨#[40]⟩ : ByteArray))]) (cs := #[.string (⟨#[40]⟩ : ByteArray)]) (b1 ev_c) (bs106_1_0s (⟨#[40]⟩ : ByteArray)) (w0 rfl) ?_
    intro w6 g5 n7
    have ne_g5 : g5 ≠ g := by have a_ := NewB.eq n7; have b_ := BW.lt (BW.ext hb (NewB.ext n3)); omega
    refine s_call F_e54 (w0 rfl) ev_f (m2 (ev_t rfl rfl) (ev_t rfl rfl)) (args := #[.pointer (some ⟨g, 0, none⟩), .slice (some ⟨g5, 0, none⟩) 1 1]) rfl (p_put 97 _ g g5 (s0) [(⟨#[40]⟩ : ByteArray)] _ (BW.ext (BW.ext hb (NewB.ext n3)) (NewB.ext n7)) (Nat.le_trans (Nat.le_trans hB_ (Keep.size (NewB.ext n3))) (Keep.size (NewB.ext n7))) (by decide) F_lies97 (NewB.blk n7) (by simp only [catL, ByteArray.size_append, z0, z1, z2, z3, z4, z5, z6]; omega) (by simp)) ?_
    rintro _ w8 ⟨rfl, wr9⟩
    refine c_done (n_then (c_seq (c_reg ?_)))
    refine s_move (v := .pointer (some ⟨g, 0, none⟩)) (ev_t rfl rfl) (w0 rfl) ?_
    refine s_loadL (cs := [.int .i8 x.op, .string x.t.v, .int .i8 x.t.l.k, .int .i64 x.t.l.n, .string x.t.l.s, .slice A x.kids.length c]) (ca := #[.int .i8 x.op, .string x.t.v, .int .i8 x.t.l.k, .int .i64 x.t.l.n, .string x.t.l.s, .slice A x.kids.length c]) F_m36 (ev_t rfl rfl) rfl rfl (blk_cells (Wr.blk wr9 (Ext.blk (NewB.ext n7) (NewB.blk n3)) (Or.inl (by decide)) ne_g1) 0 (cs := [.int .i8 x.op, .string x.t.v, .int .i8 x.t.l.k, .int .i64 x.t.l.n, .string x.t.l.s, .slice A x.kids.length c]) rfl) (w0 rfl) ?_
    refine s_call F_e84 (w0 rfl) ev_f (m2 (ev_t rfl rfl) (ev_t rfl rfl)) (args := #[.pointer (some ⟨g, 0, none⟩), .agg #[.int .i8 x.op, .string x.t.v, .int .i8 x.t.l.k, .int .i64 x.t.l.n, .string x.t.l.s, .slice A x.kids.length c]]) rfl (he A c _ (s0 ++ (catL [(⟨#[40]⟩ : ByteArray)])) ho hr (Wr.after wr9 (Ext.trans (Ext.trans x0 (NewB.ext n3)) (NewB.ext n7)) rfl) (Wr.bw wr9) (by (try simp only [catL, ByteArray.size_append, z0, z1]); omega)) ?_
    rintro _ w10 ⟨rfl, wr11⟩
    refine c_done (n_then (c_reg ?_))
    refine s_move (v := .pointer (some ⟨g, 0, none⟩)) (ev_t rfl rfl) (w0 rfl) ?_
    refine s_bslice (vs := [(0, .string (⟨#[41]⟩ : ByteArray))]) (cs := #[.string (⟨#[41]⟩ : ByteArray)]) (b1 ev_c) (bs106_1_0s (⟨#[41]⟩ : ByteArray)) (w0 rfl) ?_
    intro w13 g12 n14
    have ne_g12 : g12 ≠ g := by have a_ := NewB.eq n14; have b_ := BW.lt (Wr.bw wr11); omega
    refine s_call F_e54 (w0 rfl) ev_f (m2 (ev_t rfl rfl) (ev_t rfl rfl)) (args := #[.pointer (some ⟨g, 0, none⟩), .slice (some ⟨g12, 0, none⟩) 1 1]) rfl (p_put 97 _ g g12 (s0 ++ (catL [(⟨#[40]⟩ : ByteArray)]) ++ (exW d x)) [(⟨#[41]⟩ : ByteArray)] _ (BW.ext (Wr.bw wr11) (NewB.ext n14)) (Nat.le_trans (Nat.le_trans (Nat.le_trans (Nat.le_trans (Nat.le_trans hB_ (Keep.size (NewB.ext n3))) (Keep.size (NewB.ext n7))) (Wr.size wr9)) (Wr.size wr11)) (Keep.size (NewB.ext n14))) (by decide) F_lies97 (NewB.blk n14) (by simp only [catL, ByteArray.size_append, z0, z1, z2, z3, z4, z5, z6]; omega) (by simp)) ?_
    rintro _ w15 ⟨rfl, wr16⟩
    refine c_done ?_
    refine ret0 rfl ?_
    exact ⟨_, rfl, rfl, Wr.cast (Wr.then_ (Wr.ext (Wr.then_ (Wr.then_ (Wr.of_ext hb (Ext.trans (NewB.ext n3) (NewB.ext n7)) hB_) wr9) wr11) (NewB.ext n14) hB_) wr16) (by simp only [inB, *, if_true, if_false, Bool.false_eq_true]; try simp only [app_assoc, catL, app_nil])⟩
  · refine c_cond1 (vb (ev_t rfl rfl) (nbf h4)) ?_
    refine c_seq (c_reg ?_)
    refine s_move (v := .pointer (some ⟨g, 0, none⟩)) (ev_t rfl rfl) (w0 rfl) ?_
    refine s_loadL (cs := [.int .i8 x.op, .string x.t.v, .int .i8 x.t.l.k, .int .i64 x.t.l.n, .string x.t.l.s, .slice A x.kids.length c]) (ca := #[.int .i8 x.op, .string x.t.v, .int .i8 x.t.l.k, .int .i64 x.t.l.n, .string x.t.l.s, .slice A x.kids.length c]) F_m36 (ev_t rfl rfl) rfl rfl (blk_cells (NewB.blk n3) 0 (cs := [.int .i8 x.op, .string x.t.v, .int .i8 x.t.l.k, .int .i64 x.t.l.n, .string x.t.l.s, .slice A x.kids.length c]) rfl) (w0 rfl) ?_
    refine s_call F_e84 (w0 rfl) ev_f (m2 (ev_t rfl rfl) (ev_t rfl rfl)) (args := #[.pointer (some ⟨g, 0, none⟩), .agg #[.int .i8 x.op, .string x.t.v, .int .i8 x.t.l.k, .int .i64 x.t.l.n, .string x.t.l.s, .slice A x.kids.length c]]) rfl (he A c _ (s0) ho hr (Ext.trans x0 (NewB.ext n3)) (BW.ext hb (NewB.ext n3)) (by (try simp only [catL, ByteArray.size_append, z0, z1]); omega)) ?_
    rintro _ w17 ⟨rfl, wr18⟩
    refine c_done (n_then (c_ret (r_then ?_)))
    refine ret0r rfl ?_
    exact ⟨_, rfl, rfl, Wr.cast (Wr.then_ (Wr.of_ext hb (NewB.ext n3) hB_) wr18) (by simp only [inB, *, if_true, if_false, Bool.false_eq_true]; try simp only [app_assoc, catL, app_nil])⟩
set_option maxHeartbeats 4000000 in
theorem p_expr_step (d : Nat) (x : Ex) (A : Option Addr) (c : Nat) (g : Nat) (s0 : ByteArray) (wz : World) (w : World) (x0 : Ext wz w) (tb : Tabs Tryz.prog wz) (hb : BW 5 97 wz.heap.size w g s0) (ho : x.okc c) (hr : Row RE 6 wz A x.kids) (hd : d ≤ 8) (hb_ : exB d x = true) (hs : s0.size + 2 ^ d * 900 ≤ 1000000000000) (ih : d ≠ 0 → ∀ (j : Nat) (y : Ex), x.kids[j]? = some y → exB (d - 1) y = true → ∀ (A : Option Addr) (c : Nat) (w : World) (s0 : ByteArray), y.okc c → Row RE 6 wz A y.kids → Ext wz w → BW 5 97 wz.heap.size w g s0 → s0.size + 2 ^ (d - 1) * 900 ≤ 1000000000000 → Rt Tryz.prog 84 #[.pointer (some ⟨g, 0, none⟩), .agg #[.int .i8 y.op, .string y.t.v, .int .i8 y.t.l.k, .int .i64 y.t.l.n, .string y.t.l.s, .slice A y.kids.length c]] w fun v w' => v = .tuple #[] ∧ Wr 5 97 wz.heap.size g (s0 ++ exW (d - 1) y) w w') :
    Rt Tryz.prog 84 #[.pointer (some ⟨g, 0, none⟩), .agg #[.int .i8 x.op, .string x.t.v, .int .i8 x.t.l.k, .int .i64 x.t.l.n, .string x.t.l.s, .slice A x.kids.length c]] w fun v w' => v = .tuple #[] ∧ Wr 5 97 wz.heap.size g (s0 ++ exW d x) w w' := by
  refine enter Tryz.func84 rfl (l := [.pointer (some ⟨g, 0, none⟩), .agg #[.int .i8 x.op, .string x.t.v, .int .i8 x.t.l.k, .int .i64 x.t.l.n, .string x.t.l.s, .slice A x.kids.length c]]) rfl Tryz.ntmps84 (Nat.le_of_ble_eq_true rfl) ?_
  have hB_ := Keep.size x0
  have hl_ := Ex.okc.l ho
  have hc_ := Ex.okc.c ho
  have hk_ := Go.Wk.Row.ok hr ho.t
  have ⟨hd0_, _, _⟩ := exB_parts hb_
  obtain ⟨ho1_, ho2_, ho3_⟩ := exOp hb_
  have hw1_ := wordW_size x.op
  have hw2_ := signW_size x.op
  have hp_ : 2 ^ d = 2 * 2 ^ (d - 1) := by obtain ⟨d', rfl⟩ := Nat.exists_eq_succ_of_ne_zero hd0_; rw [Nat.pow_succ]; simp; omega
  have hp1_ : 1 ≤ 2 ^ (d - 1) := Nat.one_le_two_pow
  refine c_seq (c_reg ?_)
  refine s_box (v := .agg #[.int .i8 x.op, .string x.t.v, .int .i8 x.t.l.k, .int .i64 x.t.l.n, .string x.t.l.s, .slice A x.kids.length c]) (cs := #[.int .i8 x.op, .string x.t.v, .int .i8 x.t.l.k, .int .i64 x.t.l.n, .string x.t.l.s, .slice A x.kids.length c]) (w0 rfl) (ev_t rfl rfl) rfl ?_
  intro w2 g1 n3
  have ne_g1 : g1 ≠ g := by have a_ := NewB.eq n3; have b_ := BW.lt hb; omega
  refine c_done (n_then (c_block (c_seq (c_reg ?_))))
  refine s_field (off := 0) (o' := 0) F_f36_0 (ev_t rfl rfl) rfl (w0 rfl) ?_
  refine s_load (v := .int .i8 x.op) F_o28 (ev_t rfl rfl) (cell_of_blk (i := 0) (NewB.blk n3) rfl) (w0 rfl) ?_
  refine s_cmp (r := decide (x.op = 0)) (ev_t rfl rfl) ev_c rfl (w0 rfl) ?_
  refine s_assign (v := .bool (decide (x.op = 0))) (ev_t rfl rfl) (w0 rfl) ?_
  refine c_done (n_then ?_)
  by_cases h4 : x.op = 0
  · refine c_cond1 (vb (ev_t rfl rfl) (decide_eq_true h4)) ?_
    refine c_reg ?_
    refine s_move (v := .pointer (some ⟨g, 0, none⟩)) (ev_t rfl rfl) (w0 rfl) ?_
    refine s_field (off := 1) (o' := 1) F_f36_1 (ev_t rfl rfl) rfl (w0 rfl) ?_
    refine s_loadL (cs := [.string x.t.v, .int .i8 x.t.l.k, .int .i64 x.t.l.n, .string x.t.l.s]) (ca := #[.string x.t.v, .int .i8 x.t.l.k, .int .i64 x.t.l.n, .string x.t.l.s]) F_m33 (ev_t rfl rfl) rfl rfl (blk_cells (NewB.blk n3) 1 (cs := [.string x.t.v, .int .i8 x.t.l.k, .int .i64 x.t.l.n, .string x.t.l.s]) rfl) (w0 rfl) ?_
    refine s_call F_e71 (w0 rfl) ev_f (m2 (ev_t rfl rfl) (ev_t rfl rfl)) (args := #[.pointer (some ⟨g, 0, none⟩), .agg #[.string x.t.v, .int .i8 x.t.l.k, .int .i64 x.t.l.n, .string x.t.l.s]]) rfl (p_term x.t g (s0) wz _ (Ext.trans x0 (NewB.ext n3)) tb (BW.ext hb (NewB.ext n3)) (Ex.okc.t ho) (by have := termW_size ((exB_parts hb_).2.1 (by omega)).2.2 ho.t; have : 1 ≤ 2 ^ d := Nat.one_le_two_pow; omega)) ?_
    rintro _ w5 ⟨rfl, wr6⟩
    refine c_done (n_block ?_)
    refine ret0 rfl ?_
    exact ⟨_, rfl, rfl, Wr.cast (Wr.then_ (Wr.of_ext hb (NewB.ext n3) hB_) wr6) (by rw [exW_pos hd0_]; first | (rw [if_pos (by omega)]; done) | (rw [if_neg (by omega), if_pos (by omega)]; simp only [inB, if_true, catL, app_nil, app_assoc]; done) | (have hf_ := fast_neg (x := x) (by omega); rw [if_neg (by omega), if_neg (by omega), if_pos (by omega), show (decide (fast (x.kid 0) < 3) || numB (x.kid 0)) = true by simp only [hf_] at *; simp [numB, *]]; simp only [catL, app_nil, app_assoc]; done) | (rw [if_neg (by omega), if_neg (by omega), if_neg (by omega)]; simp only [catL, app_nil, app_assoc]; done))⟩
  · refine c_cond0 (vb (ev_t rfl rfl) (decide_eq_false h4)) ?_
    refine c_seq (c_reg ?_)
    refine s_field (off := 0) (o' := 0) F_f36_0 (ev_t rfl rfl) rfl (w0 rfl) ?_
    refine s_load (v := .int .i8 x.op) F_o28 (ev_t rfl rfl) (cell_of_blk (i := 0) (NewB.blk n3) rfl) (w0 rfl) ?_
    refine s_cmp (r := decide (x.op = 1)) (ev_t rfl rfl) ev_c rfl (w0 rfl) ?_
    refine s_assign (v := .bool (decide (x.op = 1))) (ev_t rfl rfl) (w0 rfl) ?_
    refine c_done (n_then ?_)
    by_cases h7 : x.op = 1
    · refine c_cond1 (vb (ev_t rfl rfl) (decide_eq_true h7)) ?_
      refine c_seq (c_reg ?_)
      refine s_field (off := 5) (o' := 5) F_f36_2 (ev_t rfl rfl) rfl (w0 rfl) ?_
      refine s_load (v := .slice A x.kids.length c) F_o34 (ev_t rfl rfl) (cell_of_blk (i := 5) (NewB.blk n3) rfl) (w0 rfl) ?_
      obtain ⟨b8, o9, x10, csx10, hA11, hx12, hR13, hc14⟩ := Row.at_ hr 0 (by omega)
      obtain rfl := Ex.kid_of hx12
      obtain ⟨A15, c16, rfl, ho17, hr18⟩ := RE.open_ hR13
      refine s_indexR (j := 0) F_l34 (ev_t rfl rfl) hA11 ev_c rfl (by omega) (w0 rfl) ?_
      have hk19 := ex_ops (exKid0 hb_ (by omega))
      refine s_loadL (cs := [.int .i8 ((x.kid 0).op), .string ((x.kid 0).t.v), .int .i8 ((x.kid 0).t.l.k), .int .i64 ((x.kid 0).t.l.n), .string ((x.kid 0).t.l.s), .slice A15 ((x.kid 0).kids.length) c16]) (ca := #[.int .i8 ((x.kid 0).op), .string ((x.kid 0).t.v), .int .i8 ((x.kid 0).t.l.k), .int .i64 ((x.kid 0).t.l.n), .string ((x.kid 0).t.l.s), .slice A15 ((x.kid 0).kids.length) c16]) F_m36 (ev_t rfl rfl) rfl rfl (sub_cells (cells_ext (NewB.ext n3) (cells_ext x0 hc14)) 0 (cs2 := [.int .i8 ((x.kid 0).op), .string ((x.kid 0).t.v), .int .i8 ((x.kid 0).t.l.k), .int .i64 ((x.kid 0).t.l.n), .string ((x.kid 0).t.l.s), .slice A15 ((x.kid 0).kids.length) c16]) rfl) (w0 rfl) ?_
      refine s_alloc (cs := #[.int .i8 0, .string (⟨#[]⟩ : ByteArray), .int .i8 0, .int .i64 0, .string (⟨#[]⟩ : ByteArray), .slice none 0 0]) (w0 rfl) F_z36 rfl ?_
      intro w21 g20 n22
      have ne_g20 : g20 ≠ g := by have a_ := NewB.eq n22; have b_ := BW.lt (BW.ext hb (NewB.ext n3)); omega
      refine s_store (cs' := #[.int .i8 ((x.kid 0).op), .string ((x.kid 0).t.v), .int .i8 ((x.kid 0).t.l.k), .int .i64 ((x.kid 0).t.l.n), .string ((x.kid 0).t.l.s), .slice A15 ((x.kid 0).kids.length) c16]) F_sz36 (ev_t rfl rfl) (ev_t rfl rfl) (l := [.int .i8 ((x.kid 0).op), .string ((x.kid 0).t.v), .int .i8 ((x.kid 0).t.l.k), .int .i64 ((x.kid 0).t.l.n), .string ((x.kid 0).t.l.s), .slice A15 ((x.kid 0).kids.length) c16]) rfl rfl rfl (NewB.blk n22) (Nat.le_of_ble_eq_true rfl) rfl (w0 rfl) ?_
      intro w23 k24
      refine c_done (n_then (c_seq (c_reg ?_)))
      refine s_move (v := .pointer (some ⟨g, 0, none⟩)) (ev_t rfl rfl) (w0 rfl) ?_
      refine s_bslice (vs := [(0, .string (⟨#[45]⟩ : ByteArray))]) (cs := #[.string (⟨#[45]⟩ : ByteArray)]) (b1 ev_c) (bs106_1_0s (⟨#[45]⟩ : ByteArray)) (w0 rfl) ?_
      intro w26 g25 n27
      have ne_g25 : g25 ≠ g := by have a_ := NewB.eq n27; have b_ := BW.lt (BW.ext hb (Keep.then_ (Ext.trans (NewB.ext n3) (NewB.ext n22)) (Wrote.keep k24) (fun i_ hi_ h_ => by have a_ := NewB.eq n22; have b_ := Keep.size (NewB.ext n3); omega))); omega
      refine s_call F_e54 (w0 rfl) ev_f (m2 (ev_t rfl rfl) (ev_t rfl rfl)) (args := #[.pointer (some ⟨g, 0, none⟩), .slice (some ⟨g25, 0, none⟩) 1 1]) rfl (p_put 97 _ g g25 (s0) [(⟨#[45]⟩ : ByteArray)] _ (BW.ext hb (Ext.trans (Keep.then_ (Ext.trans (NewB.ext n3) (NewB.ext n22)) (Wrote.keep k24) (fun i_ hi_ h_ => by have a_ := NewB.eq n22; have b_ := Keep.size (NewB.ext n3); omega)) (NewB.ext n27))) (Nat.le_trans (Nat.le_trans (Nat.le_trans (Nat.le_trans hB_ (Keep.size (NewB.ext n3))) (Keep.size (NewB.ext n22))) (Keep.size (Wrote.keep k24))) (Keep.size (NewB.ext n27))) (by decide) F_lies97 (NewB.blk n27) (by simp only [catL, ByteArray.size_append, z0, z1, z2, z3, z4, z5, z6]; omega) (by simp)) ?_
      rintro _ w28 ⟨rfl, wr29⟩
      refine c_done (n_then ?_)
      refine c_tail 36 mixed (by kernel_rfl) rfl rfl ?_
      intro w30 x31
      refine t_val (v := .pointer (some ⟨g, 0, none⟩)) (w0 rfl) (r_move (v := .pointer (some ⟨g, 0, none⟩)) (ev_t rfl rfl)) ?_
      refine t_val (v := .agg #[.int .i8 ((x.kid 0).op), .string ((x.kid 0).t.v), .int .i8 ((x.kid 0).t.l.k), .int .i64 ((x.kid 0).t.l.n), .string ((x.kid 0).t.l.s), .slice A15 ((x.kid 0).kids.length) c16]) (w0 rfl) (r_loadL (cs := [.int .i8 ((x.kid 0).op), .string ((x.kid 0).t.v), .int .i8 ((x.kid 0).t.l.k), .int .i64 ((x.kid 0).t.l.n), .string ((x.kid 0).t.l.s), .slice A15 ((x.kid 0).kids.length) c16]) (ca := #[.int .i8 ((x.kid 0).op), .string ((x.kid 0).t.v), .int .i8 ((x.kid 0).t.l.k), .int .i64 ((x.kid 0).t.l.n), .string ((x.kid 0).t.l.s), .slice A15 ((x.kid 0).kids.length) c16]) F_m36 (ev_t rfl rfl) rfl rfl (blk_cells (Ext.blk x31 (Wr.blk wr29 (Ext.blk (NewB.ext n27) (Wrote.blk k24)) (Or.inl (by decide)) ne_g20)) 0 (cs := [.int .i8 ((x.kid 0).op), .string ((x.kid 0).t.v), .int .i8 ((x.kid 0).t.l.k), .int .i64 ((x.kid 0).t.l.n), .string ((x.kid 0).t.l.s), .slice A15 ((x.kid 0).kids.length) c16]) rfl)) ?_
      refine t_val (v := .pointer (some ⟨g20, 0, none⟩)) (w0 rfl) (r_field (off := 0) (o' := 0) F_f36_0 (ev_t rfl rfl) rfl) ?_
      refine t_val (v := .int .i8 ((x.kid 0).op)) (w0 rfl) (r_load (v := .int .i8 ((x.kid 0).op)) F_o28 (ev_t rfl rfl) (cell_of_blk (i := 0) (Ext.blk x31 (Wr.blk wr29 (Ext.blk (NewB.ext n27) (Wrote.blk k24)) (Or.inl (by decide)) ne_g20)) rfl)) ?_
      refine t_val (v := .pointer (some ⟨1, 0 + ((x.kid 0).op).toNat * 1, none⟩)) (w0 rfl) (r_indexA (j := ((x.kid 0).op).toNat) F_ar156 ev_g (ev_t rfl rfl) (by omega) (by omega)) ?_
      refine t_val (v := .int .i64 (fast (x.kid 0))) (w0 rfl) (r_load (v := .int .i64 (fast (x.kid 0))) F_o3 (ev_t rfl rfl) (Tabs.hold_at (Tabs.ext tb (Ext.trans (Wr.after wr29 (Ext.trans (Keep.then_ (Ext.trans (Ext.trans x0 (NewB.ext n3)) (NewB.ext n22)) (Wrote.keep k24) (fun i_ hi_ h_ => by have a_ := NewB.eq n22; have b_ := Keep.size (Ext.trans x0 (NewB.ext n3)); omega)) (NewB.ext n27)) rfl) x31)) F_gn1 (by omega))) ?_
      refine t_val (v := .pointer (some ⟨g1, 0, none⟩)) (w0 rfl) (r_field (off := 0) (o' := 0) F_f36_0 (ev_t rfl rfl) rfl) ?_
      refine t_val (v := .int .i8 x.op) (w0 rfl) (r_load (v := .int .i8 x.op) F_o28 (ev_t rfl rfl) (cell_of_blk (i := 0) (Ext.blk x31 (Wr.blk wr29 (Ext.blk (NewB.ext n27) (Keep.blk (Wrote.keep k24) (Ext.blk (NewB.ext n22) (NewB.blk n3)) (by have a_ := NewB.eq n22; have b_ := lt_of_blk (NewB.blk n3); omega))) (Or.inl (by decide)) ne_g1)) rfl)) ?_
      refine t_val (v := .pointer (some ⟨1, 0 + x.op.toNat * 1, none⟩)) (w0 rfl) (r_indexA (j := x.op.toNat) F_ar156 ev_g (ev_t rfl rfl) (by omega) (by omega)) ?_
      refine t_val (v := .int .i64 (fast x)) (w0 rfl) (r_load (v := .int .i64 (fast x)) F_o3 (ev_t rfl rfl) (Tabs.hold_at (Tabs.ext tb (Ext.trans (Wr.after wr29 (Ext.trans (Keep.then_ (Ext.trans (Ext.trans x0 (NewB.ext n3)) (NewB.ext n22)) (Wrote.keep k24) (fun i_ hi_ h_ => by have a_ := NewB.eq n22; have b_ := Keep.size (Ext.trans x0 (NewB.ext n3)); omega)) (NewB.ext n27)) rfl) x31)) F_gn1 (by omega))) ?_
      refine t_val (v := .bool (decide (fast (x.kid 0) < fast x))) (w0 rfl) (r_cmp (r := decide (fast (x.kid 0) < fast x)) (ev_t rfl rfl) (ev_t rfl rfl) rfl) ?_
      by_cases h32 : fast (x.kid 0) < fast x
      · refine t_val (v := .bool true) (w0 rfl) (r_move (v := .bool true) (vb (ev_t rfl rfl) (decide_eq_true h32))) ?_
        refine t_skip (wn rfl rfl rfl rfl rfl) ?_
        refine t_skip (wn rfl rfl rfl rfl rfl) ?_
        refine t_skip (wn rfl rfl rfl rfl rfl) ?_
        refine t_skip (wn rfl rfl rfl rfl rfl) ?_
        refine t_skip (wu rfl rfl rfl rfl) ?_
        refine t_skip (wu rfl rfl rfl rfl) ?_
        refine t_skip (wu rfl rfl rfl rfl) ?_
        refine t_skip (wu rfl rfl rfl rfl) ?_
        refine t_skip (wn rfl rfl rfl rfl rfl) ?_
        refine t_skip (wn rfl rfl rfl rfl rfl) ?_
        refine t_skip (wu rfl rfl rfl rfl) ?_
        refine t_skip (wu rfl rfl rfl rfl) ?_
        refine t_skip (wu rfl rfl rfl rfl) ?_
        refine t_skip (wu rfl rfl rfl rfl) ?_
        refine t_skip (wu rfl rfl rfl rfl) ?_
        refine t_skip (wn rfl rfl rfl rfl rfl) ?_
        refine t_skip (wn rfl rfl rfl rfl rfl) ?_
        refine t_skip (wu rfl rfl rfl rfl) ?_
        refine t_skip (wu rfl rfl rfl rfl) ?_
        refine t_skip (wu rfl rfl rfl rfl) ?_
        refine t_skip (wu rfl rfl rfl rfl) ?_
        refine t_skip (wu rfl rfl rfl rfl) ?_
        refine t_skip (wn rfl rfl rfl rfl rfl) ?_
        refine t_val (v := .bool true) (w0 rfl) (r_pick1 (v := .bool true) (ev_t rfl rfl) ev_c) ?_
        refine t_done ?_
        have hz33 := exW_size (d - 1) (x.kid 0) (exKid0 hb_ (by omega)) (Ex.Ok.kid hk_ (kid_there (x := x) (j := 0) (by omega)))
        have hz34 := inB_size true (exW (d - 1) (x.kid 0))
        refine s_call F_e116 (w0 rfl) ev_f (m3 (ev_t rfl rfl) (ev_t rfl rfl) (ev_t rfl rfl)) (args := #[.pointer (some ⟨g, 0, none⟩), .agg #[.int .i8 ((x.kid 0).op), .string ((x.kid 0).t.v), .int .i8 ((x.kid 0).t.l.k), .int .i64 ((x.kid 0).t.l.n), .string ((x.kid 0).t.l.s), .slice A15 ((x.kid 0).kids.length) c16], .bool true]) rfl (p_side (d - 1) (x.kid 0) A15 c16 true g (s0 ++ (catL [(⟨#[45]⟩ : ByteArray)])) wz _ (Ext.trans (Wr.after wr29 (Ext.trans (Keep.then_ (Ext.trans (Ext.trans x0 (NewB.ext n3)) (NewB.ext n22)) (Wrote.keep k24) (fun i_ hi_ h_ => by have a_ := NewB.eq n22; have b_ := Keep.size (Ext.trans x0 (NewB.ext n3)); omega)) (NewB.ext n27)) rfl) x31) tb (BW.ext (Wr.bw wr29) x31) ho17 hr18 (exKid0 hb_ (by omega)) hz33 (by (try simp only [catL, ByteArray.size_append, z0, z1]); omega) (fun A_ c_ w_ s_ ho_ hr_ x_ hbw_ hs_ => ih (by omega) 0 _ (kid_there (x := x) (j := 0) (by omega)) (exKid0 hb_ (by omega)) A_ c_ w_ s_ ho_ hr_ x_ hbw_ hs_)) ?_
        rintro _ w35 ⟨rfl, wr36⟩
        refine c_done (n_block ?_)
        refine ret0 rfl ?_
        exact ⟨_, rfl, rfl, Wr.cast (Wr.then_ (Wr.ext (Wr.then_ (Wr.of_ext hb (Ext.trans (Keep.then_ (Ext.trans (NewB.ext n3) (NewB.ext n22)) (Wrote.keep k24) (fun i_ hi_ h_ => by have a_ := NewB.eq n22; have b_ := Keep.size (NewB.ext n3); omega)) (NewB.ext n27)) hB_) wr29) x31 hB_) wr36) (by rw [exW_pos hd0_]; first | (rw [if_pos (by omega)]; done) | (rw [if_neg (by omega), if_pos (by omega)]; simp only [inB, if_true, catL, app_nil, app_assoc]; done) | (have hf_ := fast_neg (x := x) (by omega); rw [if_neg (by omega), if_neg (by omega), if_pos (by omega), show (decide (fast (x.kid 0) < 3) || numB (x.kid 0)) = true by simp only [hf_] at *; simp [numB, *]]; simp only [catL, app_nil, app_assoc]; done) | (rw [if_neg (by omega), if_neg (by omega), if_neg (by omega)]; simp only [catL, app_nil, app_assoc]; done))⟩
      · refine t_val (v := .bool false) (w0 rfl) (r_move (v := .bool false) (vb (ev_t rfl rfl) (decide_eq_false h32))) ?_
        refine t_val (v := .pointer (some ⟨g20, 0, none⟩)) (wy rfl rfl rfl rfl) (r_field (off := 0) (o' := 0) F_f36_0 (ev_t rfl rfl) rfl) ?_
        refine t_val (v := .int .i8 ((x.kid 0).op)) (wy rfl rfl rfl rfl) (r_load (v := .int .i8 ((x.kid 0).op)) F_o28 (ev_t rfl rfl) (cell_of_blk (i := 0) (Ext.blk x31 (Wr.blk wr29 (Ext.blk (NewB.ext n27) (Wrote.blk k24)) (Or.inl (by decide)) ne_g20)) rfl)) ?_
        refine t_val (v := .bool (decide ((x.kid 0).op = 0))) (wy rfl rfl rfl rfl) (r_cmp (r := decide ((x.kid 0).op = 0)) (ev_t rfl rfl) ev_c rfl) ?_
        by_cases h37 : (x.kid 0).op = 0
        · refine t_val (v := .bool true) (wy rfl rfl rfl rfl) (r_move (v := .bool true) (vb (ev_t rfl rfl) (decide_eq_true h37))) ?_
          refine t_val (v := .pointer (some ⟨g20, 1, none⟩)) (wy rfl rfl rfl rfl) (r_field (off := 1) (o' := 1) F_f36_1 (ev_t rfl rfl) rfl) ?_
          refine t_val (v := .pointer (some ⟨g20, 1, none⟩)) (wy rfl rfl rfl rfl) (r_field (off := 0) (o' := 1) F_f33_0 (ev_t rfl rfl) rfl) ?_
          refine t_val (v := .string ((x.kid 0).t.v)) (wy rfl rfl rfl rfl) (r_load (v := .string ((x.kid 0).t.v)) F_o9 (ev_t rfl rfl) (cell_of_blk (i := 1) (Ext.blk x31 (Wr.blk wr29 (Ext.blk (NewB.ext n27) (Wrote.blk k24)) (Or.inl (by decide)) ne_g20)) rfl)) ?_
          refine t_val (v := .bool (decide ((x.kid 0).t.v = (⟨#[]⟩ : ByteArray)))) (wy rfl rfl rfl rfl) (r_cmpS (r := decide ((x.kid 0).t.v = (⟨#[]⟩ : ByteArray))) (ev_t rfl rfl) ev_c rfl) ?_
          refine t_val (v := .bool (decide ((x.kid 0).t.v = (⟨#[]⟩ : ByteArray)))) (wy rfl rfl rfl rfl) (r_pick1 (v := .bool (decide ((x.kid 0).t.v = (⟨#[]⟩ : ByteArray)))) (ev_t rfl rfl) (ev_t rfl rfl)) ?_
          by_cases h38 : (x.kid 0).t.v = (⟨#[]⟩ : ByteArray)
          · refine t_val (v := .bool true) (wy rfl rfl rfl rfl) (r_move (v := .bool true) (vb (ev_t rfl rfl) (decide_eq_true h38))) ?_
            refine t_val (v := .pointer (some ⟨g20, 1, none⟩)) (wy rfl rfl rfl rfl) (r_field (off := 1) (o' := 1) F_f36_1 (ev_t rfl rfl) rfl) ?_
            refine t_val (v := .pointer (some ⟨g20, 2, none⟩)) (wy rfl rfl rfl rfl) (r_field (off := 1) (o' := 2) F_f33_1 (ev_t rfl rfl) rfl) ?_
            refine t_val (v := .pointer (some ⟨g20, 2, none⟩)) (wy rfl rfl rfl rfl) (r_field (off := 0) (o' := 2) F_f31_0 (ev_t rfl rfl) rfl) ?_
            refine t_val (v := .int .i8 ((x.kid 0).t.l.k)) (wy rfl rfl rfl rfl) (r_load (v := .int .i8 ((x.kid 0).t.l.k)) F_o29 (ev_t rfl rfl) (cell_of_blk (i := 2) (Ext.blk x31 (Wr.blk wr29 (Ext.blk (NewB.ext n27) (Wrote.blk k24)) (Or.inl (by decide)) ne_g20)) rfl)) ?_
            refine t_val (v := .bool (decide ((x.kid 0).t.l.k = 1))) (wy rfl rfl rfl rfl) (r_cmp (r := decide ((x.kid 0).t.l.k = 1)) (ev_t rfl rfl) ev_c rfl) ?_
            refine t_val (v := .bool (decide ((x.kid 0).t.l.k = 1))) (wy rfl rfl rfl rfl) (r_pick1 (v := .bool (decide ((x.kid 0).t.l.k = 1))) (ev_t rfl rfl) (ev_t rfl rfl)) ?_
            by_cases h39 : (x.kid 0).t.l.k = 1
            · refine t_val (v := .bool true) (wy rfl rfl rfl rfl) (r_move (v := .bool true) (vb (ev_t rfl rfl) (decide_eq_true h39))) ?_
              refine t_val (v := .pointer (some ⟨g20, 1, none⟩)) (wy rfl rfl rfl rfl) (r_field (off := 1) (o' := 1) F_f36_1 (ev_t rfl rfl) rfl) ?_
              refine t_val (v := .pointer (some ⟨g20, 2, none⟩)) (wy rfl rfl rfl rfl) (r_field (off := 1) (o' := 2) F_f33_1 (ev_t rfl rfl) rfl) ?_
              refine t_val (v := .pointer (some ⟨g20, 3, none⟩)) (wy rfl rfl rfl rfl) (r_field (off := 1) (o' := 3) F_f31_1 (ev_t rfl rfl) rfl) ?_
              refine t_val (v := .int .i64 ((x.kid 0).t.l.n)) (wy rfl rfl rfl rfl) (r_load (v := .int .i64 ((x.kid 0).t.l.n)) F_o2 (ev_t rfl rfl) (cell_of_blk (i := 3) (Ext.blk x31 (Wr.blk wr29 (Ext.blk (NewB.ext n27) (Wrote.blk k24)) (Or.inl (by decide)) ne_g20)) rfl)) ?_
              refine t_val (v := .bool (decide (0 ≤ (x.kid 0).t.l.n))) (wy rfl rfl rfl rfl) (r_cmp (r := decide (0 ≤ (x.kid 0).t.l.n)) (ev_t rfl rfl) ev_c rfl) ?_
              refine t_val (v := .bool (decide (0 ≤ (x.kid 0).t.l.n))) (wy rfl rfl rfl rfl) (r_pick1 (v := .bool (decide (0 ≤ (x.kid 0).t.l.n))) (ev_t rfl rfl) (ev_t rfl rfl)) ?_
              refine t_val (v := .bool (decide (0 ≤ (x.kid 0).t.l.n))) (w0 rfl) (r_pick0 (v := .bool (decide (0 ≤ (x.kid 0).t.l.n))) (ev_t rfl rfl) (ev_t rfl rfl)) ?_
              refine t_done ?_
              have hz40 := exW_size (d - 1) (x.kid 0) (exKid0 hb_ (by omega)) (Ex.Ok.kid hk_ (kid_there (x := x) (j := 0) (by omega)))
              have hz41 := inB_size (decide (0 ≤ (x.kid 0).t.l.n)) (exW (d - 1) (x.kid 0))
              refine s_call F_e116 (w0 rfl) ev_f (m3 (ev_t rfl rfl) (ev_t rfl rfl) (ev_t rfl rfl)) (args := #[.pointer (some ⟨g, 0, none⟩), .agg #[.int .i8 ((x.kid 0).op), .string ((x.kid 0).t.v), .int .i8 ((x.kid 0).t.l.k), .int .i64 ((x.kid 0).t.l.n), .string ((x.kid 0).t.l.s), .slice A15 ((x.kid 0).kids.length) c16], .bool (decide (0 ≤ (x.kid 0).t.l.n))]) rfl (p_side (d - 1) (x.kid 0) A15 c16 (decide (0 ≤ (x.kid 0).t.l.n)) g (s0 ++ (catL [(⟨#[45]⟩ : ByteArray)])) wz _ (Ext.trans (Wr.after wr29 (Ext.trans (Keep.then_ (Ext.trans (Ext.trans x0 (NewB.ext n3)) (NewB.ext n22)) (Wrote.keep k24) (fun i_ hi_ h_ => by have a_ := NewB.eq n22; have b_ := Keep.size (Ext.trans x0 (NewB.ext n3)); omega)) (NewB.ext n27)) rfl) x31) tb (BW.ext (Wr.bw wr29) x31) ho17 hr18 (exKid0 hb_ (by omega)) hz40 (by (try simp only [catL, ByteArray.size_append, z0, z1]); omega) (fun A_ c_ w_ s_ ho_ hr_ x_ hbw_ hs_ => ih (by omega) 0 _ (kid_there (x := x) (j := 0) (by omega)) (exKid0 hb_ (by omega)) A_ c_ w_ s_ ho_ hr_ x_ hbw_ hs_)) ?_
              rintro _ w42 ⟨rfl, wr43⟩
              refine c_done (n_block ?_)
              refine ret0 rfl ?_
              exact ⟨_, rfl, rfl, Wr.cast (Wr.then_ (Wr.ext (Wr.then_ (Wr.of_ext hb (Ext.trans (Keep.then_ (Ext.trans (NewB.ext n3) (NewB.ext n22)) (Wrote.keep k24) (fun i_ hi_ h_ => by have a_ := NewB.eq n22; have b_ := Keep.size (NewB.ext n3); omega)) (NewB.ext n27)) hB_) wr29) x31 hB_) wr43) (by rw [exW_pos hd0_]; first | (rw [if_pos (by omega)]; done) | (rw [if_neg (by omega), if_pos (by omega)]; simp only [inB, if_true, catL, app_nil, app_assoc]; done) | (have hf_ := fast_neg (x := x) (by omega); rw [if_neg (by omega), if_neg (by omega), if_pos (by omega), show (decide (fast (x.kid 0) < 3) || numB (x.kid 0)) = (decide (0 ≤ (x.kid 0).t.l.n)) by simp only [hf_] at *; simp [numB, *]]; simp only [catL, app_nil, app_assoc]; done) | (rw [if_neg (by omega), if_neg (by omega), if_neg (by omega)]; simp only [catL, app_nil, app_assoc]; done))⟩
            · refine t_val (v := .bool false) (wy rfl rfl rfl rfl) (r_move (v := .bool false) (vb (ev_t rfl rfl) (decide_eq_false h39))) ?_
              refine t_skip (wn rfl rfl rfl rfl rfl) ?_
              refine t_skip (wn rfl rfl rfl rfl rfl) ?_
              refine t_skip (wn rfl rfl rfl rfl rfl) ?_
              refine t_skip (wn rfl rfl rfl rfl rfl) ?_
              refine t_skip (wn rfl rfl rfl rfl rfl) ?_
              refine t_val (v := .bool false) (wy rfl rfl rfl rfl) (r_pick0 (v := .bool false) (ev_t rfl rfl) ev_c) ?_
              refine t_val (v := .bool false) (w0 rfl) (r_pick0 (v := .bool false) (ev_t rfl rfl) (ev_t rfl rfl)) ?_
              refine t_done ?_
              have hz44 := exW_size (d - 1) (x.kid 0) (exKid0 hb_ (by omega)) (Ex.Ok.kid hk_ (kid_there (x := x) (j := 0) (by omega)))
              have hz45 := inB_size false (exW (d - 1) (x.kid 0))
              refine s_call F_e116 (w0 rfl) ev_f (m3 (ev_t rfl rfl) (ev_t rfl rfl) (ev_t rfl rfl)) (args := #[.pointer (some ⟨g, 0, none⟩), .agg #[.int .i8 ((x.kid 0).op), .string ((x.kid 0).t.v), .int .i8 ((x.kid 0).t.l.k), .int .i64 ((x.kid 0).t.l.n), .string ((x.kid 0).t.l.s), .slice A15 ((x.kid 0).kids.length) c16], .bool false]) rfl (p_side (d - 1) (x.kid 0) A15 c16 false g (s0 ++ (catL [(⟨#[45]⟩ : ByteArray)])) wz _ (Ext.trans (Wr.after wr29 (Ext.trans (Keep.then_ (Ext.trans (Ext.trans x0 (NewB.ext n3)) (NewB.ext n22)) (Wrote.keep k24) (fun i_ hi_ h_ => by have a_ := NewB.eq n22; have b_ := Keep.size (Ext.trans x0 (NewB.ext n3)); omega)) (NewB.ext n27)) rfl) x31) tb (BW.ext (Wr.bw wr29) x31) ho17 hr18 (exKid0 hb_ (by omega)) hz44 (by (try simp only [catL, ByteArray.size_append, z0, z1]); omega) (fun A_ c_ w_ s_ ho_ hr_ x_ hbw_ hs_ => ih (by omega) 0 _ (kid_there (x := x) (j := 0) (by omega)) (exKid0 hb_ (by omega)) A_ c_ w_ s_ ho_ hr_ x_ hbw_ hs_)) ?_
              rintro _ w46 ⟨rfl, wr47⟩
              refine c_done (n_block ?_)
              refine ret0 rfl ?_
              exact ⟨_, rfl, rfl, Wr.cast (Wr.then_ (Wr.ext (Wr.then_ (Wr.of_ext hb (Ext.trans (Keep.then_ (Ext.trans (NewB.ext n3) (NewB.ext n22)) (Wrote.keep k24) (fun i_ hi_ h_ => by have a_ := NewB.eq n22; have b_ := Keep.size (NewB.ext n3); omega)) (NewB.ext n27)) hB_) wr29) x31 hB_) wr47) (by rw [exW_pos hd0_]; first | (rw [if_pos (by omega)]; done) | (rw [if_neg (by omega), if_pos (by omega)]; simp only [inB, if_true, catL, app_nil, app_assoc]; done) | (have hf_ := fast_neg (x := x) (by omega); rw [if_neg (by omega), if_neg (by omega), if_pos (by omega), show (decide (fast (x.kid 0) < 3) || numB (x.kid 0)) = false by simp only [hf_] at *; simp [numB, *]]; simp only [catL, app_nil, app_assoc]; done) | (rw [if_neg (by omega), if_neg (by omega), if_neg (by omega)]; simp only [catL, app_nil, app_assoc]; done))⟩
          · refine t_val (v := .bool false) (wy rfl rfl rfl rfl) (r_move (v := .bool false) (vb (ev_t rfl rfl) (decide_eq_false h38))) ?_
            refine t_skip (wn rfl rfl rfl rfl rfl) ?_
            refine t_skip (wn rfl rfl rfl rfl rfl) ?_
            refine t_skip (wn rfl rfl rfl rfl rfl) ?_
            refine t_skip (wn rfl rfl rfl rfl rfl) ?_
            refine t_skip (wn rfl rfl rfl rfl rfl) ?_
            refine t_val (v := .bool false) (wy rfl rfl rfl rfl) (r_pick0 (v := .bool false) (ev_t rfl rfl) ev_c) ?_
            refine t_val (v := .bool false) (wy rfl rfl rfl rfl) (r_move (v := .bool false) (ev_t rfl rfl)) ?_
            refine t_skip (wn rfl rfl rfl rfl rfl) ?_
            refine t_skip (wn rfl rfl rfl rfl rfl) ?_
            refine t_skip (wn rfl rfl rfl rfl rfl) ?_
            refine t_skip (wn rfl rfl rfl rfl rfl) ?_
            refine t_skip (wn rfl rfl rfl rfl rfl) ?_
            refine t_val (v := .bool false) (wy rfl rfl rfl rfl) (r_pick0 (v := .bool false) (ev_t rfl rfl) ev_c) ?_
            refine t_val (v := .bool false) (w0 rfl) (r_pick0 (v := .bool false) (ev_t rfl rfl) (ev_t rfl rfl)) ?_
            refine t_done ?_
            have hz48 := exW_size (d - 1) (x.kid 0) (exKid0 hb_ (by omega)) (Ex.Ok.kid hk_ (kid_there (x := x) (j := 0) (by omega)))
            have hz49 := inB_size false (exW (d - 1) (x.kid 0))
            refine s_call F_e116 (w0 rfl) ev_f (m3 (ev_t rfl rfl) (ev_t rfl rfl) (ev_t rfl rfl)) (args := #[.pointer (some ⟨g, 0, none⟩), .agg #[.int .i8 ((x.kid 0).op), .string ((x.kid 0).t.v), .int .i8 ((x.kid 0).t.l.k), .int .i64 ((x.kid 0).t.l.n), .string ((x.kid 0).t.l.s), .slice A15 ((x.kid 0).kids.length) c16], .bool false]) rfl (p_side (d - 1) (x.kid 0) A15 c16 false g (s0 ++ (catL [(⟨#[45]⟩ : ByteArray)])) wz _ (Ext.trans (Wr.after wr29 (Ext.trans (Keep.then_ (Ext.trans (Ext.trans x0 (NewB.ext n3)) (NewB.ext n22)) (Wrote.keep k24) (fun i_ hi_ h_ => by have a_ := NewB.eq n22; have b_ := Keep.size (Ext.trans x0 (NewB.ext n3)); omega)) (NewB.ext n27)) rfl) x31) tb (BW.ext (Wr.bw wr29) x31) ho17 hr18 (exKid0 hb_ (by omega)) hz48 (by (try simp only [catL, ByteArray.size_append, z0, z1]); omega) (fun A_ c_ w_ s_ ho_ hr_ x_ hbw_ hs_ => ih (by omega) 0 _ (kid_there (x := x) (j := 0) (by omega)) (exKid0 hb_ (by omega)) A_ c_ w_ s_ ho_ hr_ x_ hbw_ hs_)) ?_
            rintro _ w50 ⟨rfl, wr51⟩
            refine c_done (n_block ?_)
            refine ret0 rfl ?_
            exact ⟨_, rfl, rfl, Wr.cast (Wr.then_ (Wr.ext (Wr.then_ (Wr.of_ext hb (Ext.trans (Keep.then_ (Ext.trans (NewB.ext n3) (NewB.ext n22)) (Wrote.keep k24) (fun i_ hi_ h_ => by have a_ := NewB.eq n22; have b_ := Keep.size (NewB.ext n3); omega)) (NewB.ext n27)) hB_) wr29) x31 hB_) wr51) (by rw [exW_pos hd0_]; first | (rw [if_pos (by omega)]; done) | (rw [if_neg (by omega), if_pos (by omega)]; simp only [inB, if_true, catL, app_nil, app_assoc]; done) | (have hf_ := fast_neg (x := x) (by omega); rw [if_neg (by omega), if_neg (by omega), if_pos (by omega), show (decide (fast (x.kid 0) < 3) || numB (x.kid 0)) = false by simp only [hf_] at *; simp [numB, *]]; simp only [catL, app_nil, app_assoc]; done) | (rw [if_neg (by omega), if_neg (by omega), if_neg (by omega)]; simp only [catL, app_nil, app_assoc]; done))⟩
        · refine t_val (v := .bool false) (wy rfl rfl rfl rfl) (r_move (v := .bool false) (vb (ev_t rfl rfl) (decide_eq_false h37))) ?_
          refine t_skip (wn rfl rfl rfl rfl rfl) ?_
          refine t_skip (wn rfl rfl rfl rfl rfl) ?_
          refine t_skip (wn rfl rfl rfl rfl rfl) ?_
          refine t_skip (wn rfl rfl rfl rfl rfl) ?_
          refine t_val (v := .bool false) (wy rfl rfl rfl rfl) (r_pick0 (v := .bool false) (ev_t rfl rfl) ev_c) ?_
          refine t_val (v := .bool false) (wy rfl rfl rfl rfl) (r_move (v := .bool false) (ev_t rfl rfl)) ?_
          refine t_skip (wn rfl rfl rfl rfl rfl) ?_
          refine t_skip (wn rfl rfl rfl rfl rfl) ?_
          refine t_skip (wn rfl rfl rfl rfl rfl) ?_
          refine t_skip (wn rfl rfl rfl rfl rfl) ?_
          refine t_skip (wn rfl rfl rfl rfl rfl) ?_
          refine t_val (v := .bool false) (wy rfl rfl rfl rfl) (r_pick0 (v := .bool false) (ev_t rfl rfl) ev_c) ?_
          refine t_val (v := .bool false) (wy rfl rfl rfl rfl) (r_move (v := .bool false) (ev_t rfl rfl)) ?_
          refine t_skip (wn rfl rfl rfl rfl rfl) ?_
          refine t_skip (wn rfl rfl rfl rfl rfl) ?_
          refine t_skip (wn rfl rfl rfl rfl rfl) ?_
          refine t_skip (wn rfl rfl rfl rfl rfl) ?_
          refine t_skip (wn rfl rfl rfl rfl rfl) ?_
          refine t_val (v := .bool false) (wy rfl rfl rfl rfl) (r_pick0 (v := .bool false) (ev_t rfl rfl) ev_c) ?_
          refine t_val (v := .bool false) (w0 rfl) (r_pick0 (v := .bool false) (ev_t rfl rfl) (ev_t rfl rfl)) ?_
          refine t_done ?_
          have hz52 := exW_size (d - 1) (x.kid 0) (exKid0 hb_ (by omega)) (Ex.Ok.kid hk_ (kid_there (x := x) (j := 0) (by omega)))
          have hz53 := inB_size false (exW (d - 1) (x.kid 0))
          refine s_call F_e116 (w0 rfl) ev_f (m3 (ev_t rfl rfl) (ev_t rfl rfl) (ev_t rfl rfl)) (args := #[.pointer (some ⟨g, 0, none⟩), .agg #[.int .i8 ((x.kid 0).op), .string ((x.kid 0).t.v), .int .i8 ((x.kid 0).t.l.k), .int .i64 ((x.kid 0).t.l.n), .string ((x.kid 0).t.l.s), .slice A15 ((x.kid 0).kids.length) c16], .bool false]) rfl (p_side (d - 1) (x.kid 0) A15 c16 false g (s0 ++ (catL [(⟨#[45]⟩ : ByteArray)])) wz _ (Ext.trans (Wr.after wr29 (Ext.trans (Keep.then_ (Ext.trans (Ext.trans x0 (NewB.ext n3)) (NewB.ext n22)) (Wrote.keep k24) (fun i_ hi_ h_ => by have a_ := NewB.eq n22; have b_ := Keep.size (Ext.trans x0 (NewB.ext n3)); omega)) (NewB.ext n27)) rfl) x31) tb (BW.ext (Wr.bw wr29) x31) ho17 hr18 (exKid0 hb_ (by omega)) hz52 (by (try simp only [catL, ByteArray.size_append, z0, z1]); omega) (fun A_ c_ w_ s_ ho_ hr_ x_ hbw_ hs_ => ih (by omega) 0 _ (kid_there (x := x) (j := 0) (by omega)) (exKid0 hb_ (by omega)) A_ c_ w_ s_ ho_ hr_ x_ hbw_ hs_)) ?_
          rintro _ w54 ⟨rfl, wr55⟩
          refine c_done (n_block ?_)
          refine ret0 rfl ?_
          exact ⟨_, rfl, rfl, Wr.cast (Wr.then_ (Wr.ext (Wr.then_ (Wr.of_ext hb (Ext.trans (Keep.then_ (Ext.trans (NewB.ext n3) (NewB.ext n22)) (Wrote.keep k24) (fun i_ hi_ h_ => by have a_ := NewB.eq n22; have b_ := Keep.size (NewB.ext n3); omega)) (NewB.ext n27)) hB_) wr29) x31 hB_) wr55) (by rw [exW_pos hd0_]; first | (rw [if_pos (by omega)]; done) | (rw [if_neg (by omega), if_pos (by omega)]; simp only [inB, if_true, catL, app_nil, app_assoc]; done) | (have hf_ := fast_neg (x := x) (by omega); rw [if_neg (by omega), if_neg (by omega), if_pos (by omega), show (decide (fast (x.kid 0) < 3) || numB (x.kid 0)) = false by simp only [hf_] at *; simp [numB, *]]; simp only [catL, app_nil, app_assoc]; done) | (rw [if_neg (by omega), if_neg (by omega), if_neg (by omega)]; simp only [catL, app_nil, app_assoc]; done))⟩
    · refine c_cond0 (vb (ev_t rfl rfl) (decide_eq_false h7)) ?_
      refine c_seq (c_reg ?_)
      refine s_field (off := 0) (o' := 0) F_f36_0 (ev_t rfl rfl) rfl (w0 rfl) ?_
      refine s_load (v := .int .i8 x.op) F_o28 (ev_t rfl rfl) (cell_of_blk (i := 0) (NewB.blk n3) rfl) (w0 rfl) ?_
      refine s_cmp (r := decide (8 ≤ x.op)) (ev_t rfl rfl) ev_c rfl (w0 rfl) ?_
      refine s_assign (v := .bool (decide (8 ≤ x.op))) (ev_t rfl rfl) (w0 rfl) ?_
      refine c_done (n_then ?_)
      by_cases h56 : 8 ≤ x.op
      · refine c_cond1 (vb (ev_t rfl rfl) (decide_eq_true h56)) ?_
        refine c_seq (c_reg ?_)
        refine s_move (v := .pointer (some ⟨g, 0, none⟩)) (ev_t rfl rfl) (w0 rfl) ?_
        refine s_field (off := 0) (o' := 0) F_f36_0 (ev_t rfl rfl) rfl (w0 rfl) ?_
        refine s_load (v := .int .i8 x.op) F_o28 (ev_t rfl rfl) (cell_of_blk (i := 0) (NewB.blk n3) rfl) (w0 rfl) ?_
        refine s_indexA (j := x.op.toNat) F_ar157 ev_g (ev_t rfl rfl) (by omega) (by omega) (w0 rfl) ?_
        refine s_load (v := .string (wordW x.op)) F_o9 (ev_t rfl rfl) (Tabs.words_at (Tabs.ext tb (Ext.trans x0 (NewB.ext n3))) F_gn2 (by omega)) (w0 rfl) ?_
        refine s_bslice (vs := [(0, .string (wordW x.op))]) (cs := #[.string (wordW x.op)]) (b1 (ev_t rfl rfl)) (bs106_1_0s (wordW x.op)) (w0 rfl) ?_
        intro w58 g57 n59
        have ne_g57 : g57 ≠ g := by have a_ := NewB.eq n59; have b_ := BW.lt (BW.ext hb (NewB.ext n3)); omega
        refine s_call F_e54 (w0 rfl) ev_f (m2 (ev_t rfl rfl) (ev_t rfl rfl)) (args := #[.pointer (some ⟨g, 0, none⟩), .slice (some ⟨g57, 0, none⟩) 1 1]) rfl (p_put 97 _ g g57 (s0) [wordW x.op] _ (BW.ext (BW.ext hb (NewB.ext n3)) (NewB.ext n59)) (Nat.le_trans (Nat.le_trans hB_ (Keep.size (NewB.ext n3))) (Keep.size (NewB.ext n59))) (by decide) F_lies97 (NewB.blk n59) (by simp only [catL, ByteArray.size_append, z0, z1, z2, z3, z4, z5, z6]; omega) (by simp)) ?_
        rintro _ w60 ⟨rfl, wr61⟩
        refine c_done (n_then (c_reg ?_))
        refine s_move (v := .pointer (some ⟨g, 0, none⟩)) (ev_t rfl rfl) (w0 rfl) ?_
        refine s_field (off := 5) (o' := 5) F_f36_2 (ev_t rfl rfl) rfl (w0 rfl) ?_
        refine s_load (v := .slice A x.kids.length c) F_o34 (ev_t rfl rfl) (cell_of_blk (i := 5) (Wr.blk wr61 (Ext.blk (NewB.ext n59) (NewB.blk n3)) (Or.inl (by decide)) ne_g1) rfl) (w0 rfl) ?_
        obtain ⟨b62, o63, x64, csx64, hA65, hx66, hR67, hc68⟩ := Row.at_ hr 0 (by omega)
        obtain rfl := Ex.kid_of hx66
        obtain ⟨A69, c70, rfl, ho71, hr72⟩ := RE.open_ hR67
        refine s_indexR (j := 0) F_l34 (ev_t rfl rfl) hA65 ev_c rfl (by omega) (w0 rfl) ?_
        have hk73 := ex_ops (exKid0 hb_ (by omega))
        refine s_loadL (cs := [.int .i8 ((x.kid 0).op), .string ((x.kid 0).t.v), .int .i8 ((x.kid 0).t.l.k), .int .i64 ((x.kid 0).t.l.n), .string ((x.kid 0).t.l.s), .slice A69 ((x.kid 0).kids.length) c70]) (ca := #[.int .i8 ((x.kid 0).op), .string ((x.kid 0).t.v), .int .i8 ((x.kid 0).t.l.k), .int .i64 ((x.kid 0).t.l.n), .string ((x.kid 0).t.l.s), .slice A69 ((x.kid 0).kids.length) c70]) F_m36 (ev_t rfl rfl) rfl rfl (sub_cells (cells_ext (Wr.after wr61 (Ext.trans (Ext.trans x0 (NewB.ext n3)) (NewB.ext n59)) rfl) hc68) 0 (cs2 := [.int .i8 ((x.kid 0).op), .string ((x.kid 0).t.v), .int .i8 ((x.kid 0).t.l.k), .int .i64 ((x.kid 0).t.l.n), .string ((x.kid 0).t.l.s), .slice A69 ((x.kid 0).kids.length) c70]) rfl) (w0 rfl) ?_
        have hz74 := exW_size (d - 1) (x.kid 0) (exKid0 hb_ (by omega)) (Ex.Ok.kid hk_ (kid_there (x := x) (j := 0) (by omega)))
        have hz75 := inB_size true (exW (d - 1) (x.kid 0))
        refine s_call F_e116 (w0 rfl) ev_f (m3 (ev_t rfl rfl) (ev_t rfl rfl) ev_c) (args := #[.pointer (some ⟨g, 0, none⟩), .agg #[.int .i8 ((x.kid 0).op), .string ((x.kid 0).t.v), .int .i8 ((x.kid 0).t.l.k), .int .i64 ((x.kid 0).t.l.n), .string ((x.kid 0).t.l.s), .slice A69 ((x.kid 0).kids.length) c70], .bool true]) rfl (p_side (d - 1) (x.kid 0) A69 c70 true g (s0 ++ (catL [wordW x.op])) wz _ (Wr.after wr61 (Ext.trans (Ext.trans x0 (NewB.ext n3)) (NewB.ext n59)) rfl) tb (Wr.bw wr61) ho71 hr72 (exKid0 hb_ (by omega)) hz74 (by (try simp only [catL, ByteArray.size_append, z0, z1]); omega) (fun A_ c_ w_ s_ ho_ hr_ x_ hbw_ hs_ => ih (by omega) 0 _ (kid_there (x := x) (j := 0) (by omega)) (exKid0 hb_ (by omega)) A_ c_ w_ s_ ho_ hr_ x_ hbw_ hs_)) ?_
        rintro _ w76 ⟨rfl, wr77⟩
        refine c_done (n_block ?_)
        refine ret0 rfl ?_
        exact ⟨_, rfl, rfl, Wr.cast (Wr.then_ (Wr.then_ (Wr.of_ext hb (Ext.trans (NewB.ext n3) (NewB.ext n59)) hB_) wr61) wr77) (by rw [exW_pos hd0_]; first | (rw [if_pos (by omega)]; done) | (rw [if_neg (by omega), if_pos (by omega)]; simp only [inB, if_true, catL, app_nil, app_assoc]; done) | (have hf_ := fast_neg (x := x) (by omega); rw [if_neg (by omega), if_neg (by omega), if_pos (by omega), show (decide (fast (x.kid 0) < 3) || numB (x.kid 0)) = true by simp only [hf_] at *; simp [numB, *]]; simp only [catL, app_nil, app_assoc]; done) | (rw [if_neg (by omega), if_neg (by omega), if_neg (by omega)]; simp only [catL, app_nil, app_assoc]; done))⟩
      · refine c_cond0 (vb (ev_t rfl rfl) (decide_eq_false h56)) ?_
        refine c_seq ?_
        refine c_tail 17 mixed (by kernel_rfl) rfl rfl ?_
        intro w78 x79
        refine t_val (v := .pointer (some ⟨g, 0, none⟩)) (w0 rfl) (r_move (v := .pointer (some ⟨g, 0, none⟩)) (ev_t rfl rfl)) ?_
        refine t_val (v := .pointer (some ⟨g1, 5, none⟩)) (w0 rfl) (r_field (off := 5) (o' := 5) F_f36_2 (ev_t rfl rfl) rfl) ?_
        refine t_val (v := .slice A x.kids.length c) (w0 rfl) (r_load (v := .slice A x.kids.length c) F_o34 (ev_t rfl rfl) (cell_of_blk (i := 5) (Ext.blk x79 (NewB.blk n3)) rfl)) ?_
        obtain ⟨b80, o81, x82, csx82, hA83, hx84, hR85, hc86⟩ := Row.at_ hr 0 (by omega)
        obtain rfl := Ex.kid_of hx84
        obtain ⟨A87, c88, rfl, ho89, hr90⟩ := RE.open_ hR85
        refine t_val (v := .pointer (some ⟨b80, o81 + 0 * 6, none⟩)) (w0 rfl) (r_indexR (j := 0) F_l34 (ev_t rfl rfl) hA83 ev_c rfl (by omega)) ?_
        have hk91 := ex_ops (exKid0 hb_ (by omega))
        refine t_val (v := .agg #[.int .i8 ((x.kid 0).op), .string ((x.kid 0).t.v), .int .i8 ((x.kid 0).t.l.k), .int .i64 ((x.kid 0).t.l.n), .string ((x.kid 0).t.l.s), .slice A87 ((x.kid 0).kids.length) c88]) (w0 rfl) (r_loadL (cs := [.int .i8 ((x.kid 0).op), .string ((x.kid 0).t.v), .int .i8 ((x.kid 0).t.l.k), .int .i64 ((x.kid 0).t.l.n), .string ((x.kid 0).t.l.s), .slice A87 ((x.kid 0).kids.length) c88]) (ca := #[.int .i8 ((x.kid 0).op), .string ((x.kid 0).t.v), .int .i8 ((x.kid 0).t.l.k), .int .i64 ((x.kid 0).t.l.n), .string ((x.kid 0).t.l.s), .slice A87 ((x.kid 0).kids.length) c88]) F_m36 (ev_t rfl rfl) rfl rfl (sub_cells (cells_ext x79 (cells_ext (NewB.ext n3) (cells_ext x0 hc86))) 0 (cs2 := [.int .i8 ((x.kid 0).op), .string ((x.kid 0).t.v), .int .i8 ((x.kid 0).t.l.k), .int .i64 ((x.kid 0).t.l.n), .string ((x.kid 0).t.l.s), .slice A87 ((x.kid 0).kids.length) c88]) rfl)) ?_
        refine t_val (v := .pointer (some ⟨g1, 5, none⟩)) (w0 rfl) (r_field (off := 5) (o' := 5) F_f36_2 (ev_t rfl rfl) rfl) ?_
        refine t_val (v := .slice A x.kids.length c) (w0 rfl) (r_load (v := .slice A x.kids.length c) F_o34 (ev_t rfl rfl) (cell_of_blk (i := 5) (Ext.blk x79 (NewB.blk n3)) rfl)) ?_
        obtain ⟨b92, o93, x94, csx94, hA95, hx96, hR97, hc98⟩ := Row.at_ hr 0 (by omega)
        obtain rfl := Ex.kid_of hx96
        obtain ⟨A99, c100, rfl, ho101, hr102⟩ := RE.open_ hR97
        refine t_val (v := .pointer (some ⟨b92, o93 + 0 * 6, none⟩)) (w0 rfl) (r_indexR (j := 0) F_l34 (ev_t rfl rfl) hA95 ev_c rfl (by omega)) ?_
        have hk103 := ex_ops (exKid0 hb_ (by omega))
        refine t_val (v := .pointer (some ⟨b92, o93 + 0 * 6, none⟩)) (w0 rfl) (r_field (off := 0) (o' := o93 + 0 * 6) F_f36_0 (ev_t rfl rfl) rfl) ?_
        refine t_val (v := .int .i8 ((x.kid 0).op)) (w0 rfl) (r_load (v := .int .i8 ((x.kid 0).op)) F_o28 (ev_t rfl rfl) ((cells_ext x79 (cells_ext (NewB.ext n3) (cells_ext x0 hc98))) 0 _ rfl)) ?_
        refine t_val (v := .pointer (some ⟨1, 0 + ((x.kid 0).op).toNat * 1, none⟩)) (w0 rfl) (r_indexA (j := ((x.kid 0).op).toNat) F_ar156 ev_g (ev_t rfl rfl) (by omega) (by omega)) ?_
        refine t_val (v := .int .i64 (fast (x.kid 0))) (w0 rfl) (r_load (v := .int .i64 (fast (x.kid 0))) F_o3 (ev_t rfl rfl) (Tabs.hold_at (Tabs.ext tb (Ext.trans (Ext.trans x0 (NewB.ext n3)) x79)) F_gn1 (by omega))) ?_
        refine t_val (v := .pointer (some ⟨g1, 0, none⟩)) (w0 rfl) (r_field (off := 0) (o' := 0) F_f36_0 (ev_t rfl rfl) rfl) ?_
        refine t_val (v := .int .i8 x.op) (w0 rfl) (r_load (v := .int .i8 x.op) F_o28 (ev_t rfl rfl) (cell_of_blk (i := 0) (Ext.blk x79 (NewB.blk n3)) rfl)) ?_
        refine t_val (v := .pointer (some ⟨1, 0 + x.op.toNat * 1, none⟩)) (w0 rfl) (r_indexA (j := x.op.toNat) F_ar156 ev_g (ev_t rfl rfl) (by omega) (by omega)) ?_
        refine t_val (v := .int .i64 (fast x)) (w0 rfl) (r_load (v := .int .i64 (fast x)) F_o3 (ev_t rfl rfl) (Tabs.hold_at (Tabs.ext tb (Ext.trans (Ext.trans x0 (NewB.ext n3)) x79)) F_gn1 (by omega))) ?_
        refine t_val (v := .bool (decide (fast (x.kid 0) < fast x))) (w0 rfl) (r_cmp (r := decide (fast (x.kid 0) < fast x)) (ev_t rfl rfl) (ev_t rfl rfl) rfl) ?_
        refine t_done ?_
        have hz104 := exW_size (d - 1) (x.kid 0) (exKid0 hb_ (by omega)) (Ex.Ok.kid hk_ (kid_there (x := x) (j := 0) (by omega)))
        have hz105 := inB_size (decide (fast (x.kid 0) < fast x)) (exW (d - 1) (x.kid 0))
        refine s_call F_e116 (w0 rfl) ev_f (m3 (ev_t rfl rfl) (ev_t rfl rfl) (ev_t rfl rfl)) (args := #[.pointer (some ⟨g, 0, none⟩), .agg #[.int .i8 ((x.kid 0).op), .string ((x.kid 0).t.v), .int .i8 ((x.kid 0).t.l.k), .int .i64 ((x.kid 0).t.l.n), .string ((x.kid 0).t.l.s), .slice A87 ((x.kid 0).kids.length) c88], .bool (decide (fast (x.kid 0) < fast x))]) rfl (p_side (d - 1) (x.kid 0) A87 c88 (decide (fast (x.kid 0) < fast x)) g (s0) wz _ (Ext.trans (Ext.trans x0 (NewB.ext n3)) x79) tb (BW.ext (BW.ext hb (NewB.ext n3)) x79) ho89 hr90 (exKid0 hb_ (by omega)) hz104 (by (try simp only [catL, ByteArray.size_append, z0, z1]); omega) (fun A_ c_ w_ s_ ho_ hr_ x_ hbw_ hs_ => ih (by omega) 0 _ (kid_there (x := x) (j := 0) (by omega)) (exKid0 hb_ (by omega)) A_ c_ w_ s_ ho_ hr_ x_ hbw_ hs_)) ?_
        rintro _ w106 ⟨rfl, wr107⟩
        refine c_done (n_then (c_seq (c_reg ?_)))
        refine s_move (v := .pointer (some ⟨g, 0, none⟩)) (ev_t rfl rfl) (w0 rfl) ?_
        refine s_field (off := 0) (o' := 0) F_f36_0 (ev_t rfl rfl) rfl (w0 rfl) ?_
        refine s_load (v := .int .i8 x.op) F_o28 (ev_t rfl rfl) (cell_of_blk (i := 0) (Wr.blk wr107 (Ext.blk x79 (NewB.blk n3)) (Or.inl (by decide)) ne_g1) rfl) (w0 rfl) ?_
        refine s_indexA (j := x.op.toNat) F_ar158 ev_g (ev_t rfl rfl) (by omega) (by omega) (w0 rfl) ?_
        refine s_load (v := .string (signW x.op)) F_o9 (ev_t rfl rfl) (Tabs.signs_at (Tabs.ext tb (Wr.after wr107 (Ext.trans (Ext.trans x0 (NewB.ext n3)) x79) rfl)) F_gn3 (by omega)) (w0 rfl) ?_
        refine s_bslice (vs := [(0, .string (⟨#[32]⟩ : ByteArray)), (1, .string (signW x.op)), (2, .string (⟨#[32]⟩ : ByteArray))]) (cs := #[.string (⟨#[32]⟩ : ByteArray), .string (signW x.op), .string (⟨#[32]⟩ : ByteArray)]) (b3 ev_c (ev_t rfl rfl) ev_c) (bs106_3_0s_1s_2s (⟨#[32]⟩ : ByteArray) (signW x.op) (⟨#[32]⟩ : ByteArray)) (w0 rfl) ?_
        intro w109 g108 n110
        have ne_g108 : g108 ≠ g := by have a_ := NewB.eq n110; have b_ := BW.lt (Wr.bw wr107); omega
        refine s_call F_e54 (w0 rfl) ev_f (m2 (ev_t rfl rfl) (ev_t rfl rfl)) (args := #[.pointer (some ⟨g, 0, none⟩), .slice (some ⟨g108, 0, none⟩) 3 3]) rfl (p_put 97 _ g g108 (s0 ++ (inB (decide (fast (x.kid 0) < fast x)) (exW (d - 1) (x.kid 0)))) [(⟨#[32]⟩ : ByteArray), signW x.op, (⟨#[32]⟩ : ByteArray)] _ (BW.ext (Wr.bw wr107) (NewB.ext n110)) (Nat.le_trans (Nat.le_trans (Nat.le_trans (Nat.le_trans hB_ (Keep.size (NewB.ext n3))) (Keep.size x79)) (Wr.size wr107)) (Keep.size (NewB.ext n110))) (by decide) F_lies97 (NewB.blk n110) (by simp only [catL, ByteArray.size_append, z0, z1, z2, z3, z4, z5, z6]; omega) (by simp)) ?_
        rintro _ w111 ⟨rfl, wr112⟩
        refine c_done (n_then ?_)
        refine c_tail 17 mixed (by kernel_rfl) rfl rfl ?_
        intro w113 x114
        refine t_val (v := .pointer (some ⟨g, 0, none⟩)) (w0 rfl) (r_move (v := .pointer (some ⟨g, 0, none⟩)) (ev_t rfl rfl)) ?_
        refine t_val (v := .pointer (some ⟨g1, 5, none⟩)) (w0 rfl) (r_field (off := 5) (o' := 5) F_f36_2 (ev_t rfl rfl) rfl) ?_
        refine t_val (v := .slice A x.kids.length c) (w0 rfl) (r_load (v := .slice A x.kids.length c) F_o34 (ev_t rfl rfl) (cell_of_blk (i := 5) (Ext.blk x114 (Wr.blk wr112 (Ext.blk (NewB.ext n110) (Wr.blk wr107 (Ext.blk x79 (NewB.blk n3)) (Or.inl (by decide)) ne_g1)) (Or.inl (by decide)) ne_g1)) rfl)) ?_
        obtain ⟨b115, o116, x117, csx117, hA118, hx119, hR120, hc121⟩ := Row.at_ hr 1 (by omega)
        obtain rfl := Ex.kid_of hx119
        obtain ⟨A122, c123, rfl, ho124, hr125⟩ := RE.open_ hR120
        refine t_val (v := .pointer (some ⟨b115, o116 + 1 * 6, none⟩)) (w0 rfl) (r_indexR (j := 1) F_l34 (ev_t rfl rfl) hA118 ev_c rfl (by omega)) ?_
        have hk126 := ex_ops ((ex_two hb_ (by omega) (by omega) (by omega)).2.2)
        refine t_val (v := .agg #[.int .i8 ((x.kid 1).op), .string ((x.kid 1).t.v), .int .i8 ((x.kid 1).t.l.k), .int .i64 ((x.kid 1).t.l.n), .string ((x.kid 1).t.l.s), .slice A122 ((x.kid 1).kids.length) c123]) (w0 rfl) (r_loadL (cs := [.int .i8 ((x.kid 1).op), .string ((x.kid 1).t.v), .int .i8 ((x.kid 1).t.l.k), .int .i64 ((x.kid 1).t.l.n), .string ((x.kid 1).t.l.s), .slice A122 ((x.kid 1).kids.length) c123]) (ca := #[.int .i8 ((x.kid 1).op), .string ((x.kid 1).t.v), .int .i8 ((x.kid 1).t.l.k), .int .i64 ((x.kid 1).t.l.n), .string ((x.kid 1).t.l.s), .slice A122 ((x.kid 1).kids.length) c123]) F_m36 (ev_t rfl rfl) rfl rfl (sub_cells (cells_ext (Ext.trans (Wr.after wr112 (Ext.trans (Wr.after wr107 (Ext.trans (Ext.trans x0 (NewB.ext n3)) x79) rfl) (NewB.ext n110)) rfl) x114) hc121) 0 (cs2 := [.int .i8 ((x.kid 1).op), .string ((x.kid 1).t.v), .int .i8 ((x.kid 1).t.l.k), .int .i64 ((x.kid 1).t.l.n), .string ((x.kid 1).t.l.s), .slice A122 ((x.kid 1).kids.length) c123]) rfl)) ?_
        refine t_val (v := .pointer (some ⟨g1, 5, none⟩)) (w0 rfl) (r_field (off := 5) (o' := 5) F_f36_2 (ev_t rfl rfl) rfl) ?_
        refine t_val (v := .slice A x.kids.length c) (w0 rfl) (r_load (v := .slice A x.kids.length c) F_o34 (ev_t rfl rfl) (cell_of_blk (i := 5) (Ext.blk x114 (Wr.blk wr112 (Ext.blk (NewB.ext n110) (Wr.blk wr107 (Ext.blk x79 (NewB.blk n3)) (Or.inl (by decide)) ne_g1)) (Or.inl (by decide)) ne_g1)) rfl)) ?_
        obtain ⟨b127, o128, x129, csx129, hA130, hx131, hR132, hc133⟩ := Row.at_ hr 1 (by omega)
        obtain rfl := Ex.kid_of hx131
        obtain ⟨A134, c135, rfl, ho136, hr137⟩ := RE.open_ hR132
        refine t_val (v := .pointer (some ⟨b127, o128 + 1 * 6, none⟩)) (w0 rfl) (r_indexR (j := 1) F_l34 (ev_t rfl rfl) hA130 ev_c rfl (by omega)) ?_
        have hk138 := ex_ops ((ex_two hb_ (by omega) (by omega) (by omega)).2.2)
        refine t_val (v := .pointer (some ⟨b127, o128 + 1 * 6, none⟩)) (w0 rfl) (r_field (off := 0) (o' := o128 + 1 * 6) F_f36_0 (ev_t rfl rfl) rfl) ?_
        refine t_val (v := .int .i8 ((x.kid 1).op)) (w0 rfl) (r_load (v := .int .i8 ((x.kid 1).op)) F_o28 (ev_t rfl rfl) ((cells_ext (Ext.trans (Wr.after wr112 (Ext.trans (Wr.after wr107 (Ext.trans (Ext.trans x0 (NewB.ext n3)) x79) rfl) (NewB.ext n110)) rfl) x114) hc133) 0 _ rfl)) ?_
        refine t_val (v := .pointer (some ⟨1, 0 + ((x.kid 1).op).toNat * 1, none⟩)) (w0 rfl) (r_indexA (j := ((x.kid 1).op).toNat) F_ar156 ev_g (ev_t rfl rfl) (by omega) (by omega)) ?_
        refine t_val (v := .int .i64 (fast (x.kid 1))) (w0 rfl) (r_load (v := .int .i64 (fast (x.kid 1))) F_o3 (ev_t rfl rfl) (Tabs.hold_at (Tabs.ext tb (Ext.trans (Wr.after wr112 (Ext.trans (Wr.after wr107 (Ext.trans (Ext.trans x0 (NewB.ext n3)) x79) rfl) (NewB.ext n110)) rfl) x114)) F_gn1 (by omega))) ?_
        refine t_val (v := .pointer (some ⟨g1, 0, none⟩)) (w0 rfl) (r_field (off := 0) (o' := 0) F_f36_0 (ev_t rfl rfl) rfl) ?_
        refine t_val (v := .int .i8 x.op) (w0 rfl) (r_load (v := .int .i8 x.op) F_o28 (ev_t rfl rfl) (cell_of_blk (i := 0) (Ext.blk x114 (Wr.blk wr112 (Ext.blk (NewB.ext n110) (Wr.blk wr107 (Ext.blk x79 (NewB.blk n3)) (Or.inl (by decide)) ne_g1)) (Or.inl (by decide)) ne_g1)) rfl)) ?_
        refine t_val (v := .pointer (some ⟨1, 0 + x.op.toNat * 1, none⟩)) (w0 rfl) (r_indexA (j := x.op.toNat) F_ar156 ev_g (ev_t rfl rfl) (by omega) (by omega)) ?_
        refine t_val (v := .int .i64 (fast x)) (w0 rfl) (r_load (v := .int .i64 (fast x)) F_o3 (ev_t rfl rfl) (Tabs.hold_at (Tabs.ext tb (Ext.trans (Wr.after wr112 (Ext.trans (Wr.after wr107 (Ext.trans (Ext.trans x0 (NewB.ext n3)) x79) rfl) (NewB.ext n110)) rfl) x114)) F_gn1 (by omega))) ?_
        refine t_val (v := .bool (decide (fast (x.kid 1) ≤ fast x))) (w0 rfl) (r_cmp (r := decide (fast (x.kid 1) ≤ fast x)) (ev_t rfl rfl) (ev_t rfl rfl) rfl) ?_
        refine t_done ?_
        have hz139 := exW_size (d - 1) (x.kid 1) (ex_two hb_ (by omega) (by omega) (by omega)).2.2 (Ex.Ok.kid hk_ (kid_there (x := x) (j := 1) (by omega)))
        have hz140 := inB_size (decide (fast (x.kid 1) ≤ fast x)) (exW (d - 1) (x.kid 1))
        refine s_call F_e116 (w0 rfl) ev_f (m3 (ev_t rfl rfl) (ev_t rfl rfl) (ev_t rfl rfl)) (args := #[.pointer (some ⟨g, 0, none⟩), .agg #[.int .i8 ((x.kid 1).op), .string ((x.kid 1).t.v), .int .i8 ((x.kid 1).t.l.k), .int .i64 ((x.kid 1).t.l.n), .string ((x.kid 1).t.l.s), .slice A122 ((x.kid 1).kids.length) c123], .bool (decide (fast (x.kid 1) ≤ fast x))]) rfl (p_side (d - 1) (x.kid 1) A122 c123 (decide (fast (x.kid 1) ≤ fast x)) g (s0 ++ (inB (decide (fast (x.kid 0) < fast x)) (exW (d - 1) (x.kid 0))) ++ (catL [(⟨#[32]⟩ : ByteArray), signW x.op, (⟨#[32]⟩ : ByteArray)])) wz _ (Ext.trans (Wr.after wr112 (Ext.trans (Wr.after wr107 (Ext.trans (Ext.trans x0 (NewB.ext n3)) x79) rfl) (NewB.ext n110)) rfl) x114) tb (BW.ext (Wr.bw wr112) x114) ho124 hr125 (ex_two hb_ (by omega) (by omega) (by omega)).2.2 hz139 (by (try simp only [catL, ByteArray.size_append, z0, z1]); omega) (fun A_ c_ w_ s_ ho_ hr_ x_ hbw_ hs_ => ih (by omega) 1 _ (kid_there (x := x) (j := 1) (by omega)) (ex_two hb_ (by omega) (by omega) (by omega)).2.2 A_ c_ w_ s_ ho_ hr_ x_ hbw_ hs_)) ?_
        rintro _ w141 ⟨rfl, wr142⟩
        refine c_done (n_block ?_)
        refine ret0 rfl ?_
        exact ⟨_, rfl, rfl, Wr.cast (Wr.then_ (Wr.ext (Wr.then_ (Wr.ext (Wr.then_ (Wr.of_ext hb (Ext.trans (NewB.ext n3) x79) hB_) wr107) (NewB.ext n110) hB_) wr112) x114 hB_) wr142) (by rw [exW_pos hd0_]; first | (rw [if_pos (by omega)]; done) | (rw [if_neg (by omega), if_pos (by omega)]; simp only [inB, if_true, catL, app_nil, app_assoc]; done) | (have hf_ := fast_neg (x := x) (by omega); rw [if_neg (by omega), if_neg (by omega), if_pos (by omega), show (decide (fast (x.kid 0) < 3) || numB (x.kid 0)) = (decide (fast (x.kid 0) < fast x)) by simp only [hf_] at *; simp [numB, *]]; simp only [catL, app_nil, app_assoc]; done) | (rw [if_neg (by omega), if_neg (by omega), if_neg (by omega)]; simp only [catL, app_nil, app_assoc]; done))⟩
theorem p_expr (g : Nat) (wz : World) (tb : Tabs Tryz.prog wz) : ∀ (d : Nat) (x : Ex) (A : Option Addr) (c : Nat) (w : World) (s0 : ByteArray), d ≤ 8 → exB d x = true → x.okc c → Row RE 6 wz A x.kids → Ext wz w → BW 5 97 wz.heap.size w g s0 → s0.size + 2 ^ d * 900 ≤ 1000000000000 → Rt Tryz.prog 84 #[.pointer (some ⟨g, 0, none⟩), .agg #[.int .i8 x.op, .string x.t.v, .int .i8 x.t.l.k, .int .i64 x.t.l.n, .string x.t.l.s, .slice A x.kids.length c]] w fun v w' => v = .tuple #[] ∧ Wr 5 97 wz.heap.size g (s0 ++ exW d x) w w' := by
  intro d
  induction d with
  | zero =>
    intro x A c w s0 hd hb_ ho hr x0 hb hs
    simp [exB] at hb_
  | succ d ih =>
    intro x A c w s0 hd hb_ ho hr x0 hb hs
    exact p_expr_step (d + 1) x A c g s0 wz w x0 tb hb ho hr hd hb_ hs (fun _ j y hj hy A c w s0 ho hr x0 hb hs => ih y A c w s0 (by omega) hy ho hr x0 hb hs)
end Go.Proofs.Zw

set_option linter.unusedVariables false
set_option linter.unusedSimpArgs false
set_option maxRecDepth 10000
namespace Go.Proofs.Zw
open Go Go.Wk Go.Proofs Go.Lib
attribute [local irreducible] Go.wpList Go.wpStill Go.wpQuiet Go.Code.wp Go.Calls
theorem F_e76 : enterable Tryz.prog 76 = true := by kernel_rfl
theorem F_e83 : enterable Tryz.prog 83 = true := by kernel_rfl
theorem F_z97 : (Tryz.prog.info? 97).bind (·.zero) = some (.agg #[.pointer none, .slice none 0 0]) := by kernel_rfl
set_option maxHeartbeats 4000000 in
theorem p_toldE (x : Ex) (A : Option Addr) (c : Nat) (w : World) (ho : x.okc c) (hr : Row RE 6 w A x.kids) (tb : Tabs Tryz.prog w) :
    Rt Tryz.prog 83 #[.agg #[.int .i8 x.op, .string x.t.v, .int .i8 x.t.l.k, .int .i64 x.t.l.n, .string x.t.l.s, .slice A x.kids.length c], .func (.func 76) #[] #[], .func (.func 84) #[] #[]] w fun v w' => v = .tuple #[.string (if exB 8 x then exW 8 x else ⟨#[]⟩), .int .i64 (code (exB 8 x))] ∧ Ext w w' := by
  refine enter Tryz.func83 rfl (l := [.agg #[.int .i8 x.op, .string x.t.v, .int .i8 x.t.l.k, .int .i64 x.t.l.n, .string x.t.l.s, .slice A x.kids.length c], .func (.func 76) #[] #[], .func (.func 84) #[] #[]]) rfl Tryz.ntmps83 (Nat.le_of_ble_eq_true rfl) ?_
  have hl_ := Ex.okc.l ho
  have hc_ := Ex.okc.c ho
  refine c_seq (c_reg ?_)
  refine s_box (v := .agg #[.int .i8 x.op, .string x.t.v, .int .i8 x.t.l.k, .int .i64 x.t.l.n, .string x.t.l.s, .slice A x.kids.length c]) (cs := #[.int .i8 x.op, .string x.t.v, .int .i8 x.t.l.k, .int .i64 x.t.l.n, .string x.t.l.s, .slice A x.kids.length c]) (w0 rfl) (ev_t rfl rfl) rfl ?_
  intro w2 g1 n3
  refine s_assign (v := .string (⟨#[]⟩ : ByteArray)) ev_c (w0 rfl) ?_
  refine s_assign (v := .int .i64 0) ev_c (w0 rfl) ?_
  refine c_done (n_then (c_seq (c_seq (c_reg ?_))))
  refine s_move (v := .func (.func 76) #[] #[]) (ev_t rfl rfl) (w0 rfl) ?_
  refine s_loadL (cs := [.int .i8 x.op, .string x.t.v, .int .i8 x.t.l.k, .int .i64 x.t.l.n, .string x.t.l.s, .slice A x.kids.length c]) (ca := #[.int .i8 x.op, .string x.t.v, .int .i8 x.t.l.k, .int .i64 x.t.l.n, .string x.t.l.s, .slice A x.kids.length c]) F_m36 (ev_t rfl rfl) rfl rfl (blk_cells (NewB.blk n3) 0 (cs := [.int .i8 x.op, .string x.t.v, .int .i8 x.t.l.k, .int .i64 x.t.l.n, .string x.t.l.s, .slice A x.kids.length c]) rfl) (w0 rfl) ?_
  refine s_call F_e76 (w0 rfl) (ev_t rfl rfl) (m1 (ev_t rfl rfl)) (args := #[.agg #[.int .i8 x.op, .string x.t.v, .int .i8 x.t.l.k, .int .i64 x.t.l.n, .string x.t.l.s, .slice A x.kids.length c]]) rfl (t_CheckExpr x A c _ ho (Row.extE hr (NewB.ext n3))) ?_
  rintro _ w5 ⟨rfl, x4⟩
  refine s_cmp (r := !(exB 8 x)) (ev_t rfl rfl) ev_c (ci_tn (b := (exB 8 x)) (by decide)) (w0 rfl) ?_
  refine c_done (n_then ?_)
  rcases Bool.eq_false_or_eq_true (exB 8 x) with h6 | h6
  · refine c_cond0 (vb (ev_t rfl rfl) (nbt h6)) ?_
    refine c_skip (n_then (c_seq (c_reg ?_)))
    refine s_alloc (cs := #[.pointer none, .slice none 0 0]) (w0 rfl) F_z97 rfl ?_
    intro w8 g7 n9
    have bw_ : BW 5 97 w.heap.size w8 g7 ⟨#[]⟩ := BW.new n9 rfl (by decide) (Keep.size (Ext.trans (NewB.ext n3) x4))
    have hB_ := Keep.size (Ext.trans (Ext.trans (NewB.ext n3) x4) (NewB.ext n9))
    refine c_done (n_then (c_seq (c_reg ?_)))
    refine s_move (v := .func (.func 84) #[] #[]) (ev_t rfl rfl) (w0 rfl) ?_
    refine s_loadL (cs := [.int .i8 x.op, .string x.t.v, .int .i8 x.t.l.k, .int .i64 x.t.l.n, .string x.t.l.s, .slice A x.kids.length c]) (ca := #[.int .i8 x.op, .string x.t.v, .int .i8 x.t.l.k, .int .i64 x.t.l.n, .string x.t.l.s, .slice A x.kids.length c]) F_m36 (ev_t rfl rfl) rfl rfl (blk_cells (Ext.blk (NewB.ext n9) (Ext.blk x4 (NewB.blk n3))) 0 (cs := [.int .i8 x.op, .string x.t.v, .int .i8 x.t.l.k, .int .i64 x.t.l.n, .string x.t.l.s, .slice A x.kids.length c]) rfl) (w0 rfl) ?_
    refine s_call F_e84 (w0 rfl) (ev_t rfl rfl) (m2 (ev_t rfl rfl) (ev_t rfl rfl)) (args := #[.pointer (some ⟨g7, 0, none⟩), .agg #[.int .i8 x.op, .string x.t.v, .int .i8 x.t.l.k, .int .i64 x.t.l.n, .string x.t.l.s, .slice A x.kids.length c]]) rfl (p_expr g7 w (Tabs.ext tb (Ext.refl _)) 8 x A c _ ((⟨#[]⟩ : ByteArray)) (by decide) (by assumption) ho hr (Ext.trans (Ext.trans (NewB.ext n3) x4) (NewB.ext n9)) bw_ (by simp only [ByteArray.size_append, z0]; omega)) ?_
    rintro _ w10 ⟨rfl, wr11⟩
    refine c_done (n_then (c_seq (c_reg ?_)))
    refine s_field (off := 0) (o' := 0) F_f97_0 (ev_t rfl rfl) rfl (w0 rfl) ?_
    refine s_call F_e55 (w0 rfl) ev_f (m1 (ev_t rfl rfl)) (args := #[.pointer (some ⟨g7, 0, none⟩)]) rfl (b_String 97 _ g7 ((⟨#[]⟩ : ByteArray) ++ (exW 8 x)) _ (Wr.bw wr11) (Nat.le_trans hB_ (Wr.size wr11)) (by rw [nil_app]; exact exW_ne (by assumption))) ?_
    rintro _ w12 ⟨rfl, bl13⟩
    refine s_assign (v := .string ((⟨#[]⟩ : ByteArray) ++ (exW 8 x))) (ev_t rfl rfl) (w0 rfl) ?_
    refine s_assign (v := .int .i64 0) ev_c (w0 rfl) ?_
    refine c_done (n_then (c_ret ?_))
    refine ret2 (v := .string ((⟨#[]⟩ : ByteArray) ++ (exW 8 x))) (v2 := .int .i64 0) rfl rfl rfl rfl rfl ?_
    refine ⟨_, rfl, ?_, (ext_bel (Wr.after wr11 (Ext.trans (Ext.trans (NewB.ext n3) x4) (NewB.ext n9)) rfl) bl13)⟩
    (simp [code, nil_app, *])
  · refine c_cond1 (vb (ev_t rfl rfl) (nbf h6)) ?_
    refine c_seq (c_reg ?_)
    refine s_assign (v := .string (⟨#[]⟩ : ByteArray)) ev_c (w0 rfl) ?_
    refine s_assign (v := .int .i64 40) ev_c (w0 rfl) ?_
    refine c_done (n_then (c_ret (r_then ?_)))
    refine ret2 (v := .string (⟨#[]⟩ : ByteArray)) (v2 := .int .i64 40) rfl rfl rfl rfl rfl ?_
    refine ⟨_, rfl, ?_, (Ext.trans (NewB.ext n3) x4)⟩
    (simp [code, nil_app, *])
set_option maxHeartbeats 4000000 in
theorem p_Expr (x : Ex) (A : Option Addr) (c : Nat) (w : World) (ho : x.okc c) (hr : Row RE 6 w A x.kids) (tb : Tabs Tryz.prog w) :
    Rt Tryz.prog 43 #[.agg #[.int .i8 x.op, .string x.t.v, .int .i8 x.t.l.k, .int .i64 x.t.l.n, .string x.t.l.s, .slice A x.kids.length c]] w fun v w' => v = .tuple #[.string (if exB 8 x then exW 8 x else ⟨#[]⟩), .int .i64 (code (exB 8 x))] ∧ Ext w w' := by
  refine enter Tryz.func43 rfl (l := [.agg #[.int .i8 x.op, .string x.t.v, .int .i8 x.t.l.k, .int .i64 x.t.l.n, .string x.t.l.s, .slice A x.kids.length c]]) rfl Tryz.ntmps43 (Nat.le_of_ble_eq_true rfl) ?_
  have hl_ := Ex.okc.l ho
  have hc_ := Ex.okc.c ho
  refine c_seq (c_reg ?_)
  refine s_box (v := .agg #[.int .i8 x.op, .string x.t.v, .int .i8 x.t.l.k, .int .i64 x.t.l.n, .string x.t.l.s, .slice A x.kids.length c]) (cs := #[.int .i8 x.op, .string x.t.v, .int .i8 x.t.l.k, .int .i64 x.t.l.n, .string x.t.l.s, .slice A x.kids.length c]) (w0 rfl) (ev_t rfl rfl) rfl ?_
  intro w2 g1 n3
  refine s_assign (v := .string (⟨#[]⟩ : ByteArray)) ev_c (w0 rfl) ?_
  refine s_assign (v := .int .i64 0) ev_c (w0 rfl) ?_
  refine c_done (n_then (c_seq (c_reg ?_)))
  refine s_loadL (cs := [.int .i8 x.op, .string x.t.v, .int .i8 x.t.l.k, .int .i64 x.t.l.n, .string x.t.l.s, .slice A x.kids.length c]) (ca := #[.int .i8 x.op, .string x.t.v, .int .i8 x.t.l.k, .int .i64 x.t.l.n, .string x.t.l.s, .slice A x.kids.length c]) F_m36 (ev_t rfl rfl) rfl rfl (blk_cells (NewB.blk n3) 0 (cs := [.int .i8 x.op, .string x.t.v, .int .i8 x.t.l.k, .int .i64 x.t.l.n, .string x.t.l.s, .slice A x.kids.length c]) rfl) (w0 rfl) ?_
  refine s_call F_e83 (w0 rfl) ev_f (m3 (ev_t rfl rfl) ev_f ev_f) (args := #[.agg #[.int .i8 x.op, .string x.t.v, .int .i8 x.t.l.k, .int .i64 x.t.l.n, .string x.t.l.s, .slice A x.kids.length c], .func (.func 76) #[] #[], .func (.func 84) #[] #[]]) rfl (p_toldE x A c _ ho (Row.extE hr (NewB.ext n3)) (Tabs.ext tb (NewB.ext n3))) ?_
  rintro _ w5 ⟨rfl, x4⟩
  refine s_extract (v := .string (if exB 8 x then exW 8 x else ⟨#[]⟩)) (ev_t rfl rfl) rfl (w0 rfl) ?_
  refine s_extract (v := .int .i64 (code (exB 8 x))) (ev_t rfl rfl) rfl (w0 rfl) ?_
  refine s_assign (v := .string (if exB 8 x then exW 8 x else ⟨#[]⟩)) (ev_t rfl rfl) (w0 rfl) ?_
  refine s_assign (v := .int .i64 (code (exB 8 x))) (ev_t rfl rfl) (w0 rfl) ?_
  refine c_done (n_then (c_ret ?_))
  refine ret2 (v := .string (if exB 8 x then exW 8 x else ⟨#[]⟩)) (v2 := .int .i64 (code (exB 8 x))) rfl rfl rfl rfl rfl ?_
  refine ⟨_, rfl, ?_, (Ext.trans (NewB.ext n3) x4)⟩
  rfl
end Go.Proofs.Zw

set_option linter.unusedVariables false
set_option linter.unusedSimpArgs false
namespace Go.Wk
open Go Go.RowKit Go.Lib
/-! ### atoms -/
structure At where
  p : ByteArray
  args : List Tm
def Tm.none : Tm := ⟨⟨#[]⟩, ⟨0, 0, ⟨#[]⟩⟩⟩
def tmAt (l : List Tm) (j : Nat) : Tm := l.getD j Tm.none
theorem tmAt_of {l : List Tm} {y : Tm} {j : Nat} (h : l[j]? = some y) : tmAt l j = y := by simp [tmAt, List.getD_eq_getElem?_getD, h]
theorem tmAt_there {l : List Tm} {j : Nat} (h : j < l.length) : l[j]? = some (tmAt l j) := by simp [tmAt, List.getD_eq_getElem?_getD, h]
structure At.okc (x : At) (c : Nat) : Prop where
  p : x.p.size ≤ 140737488351232
  l : x.args.length ≤ c
  c : x.args.length * 48 ≤ 140737488351232
def RA (w : World) (x : At) (cs : List Value) : Prop := ∃ A c, cs = [.string x.p, .slice A x.args.length c] ∧ x.okc c ∧ Row RT 4 w A x.args
theorem RA.ext {w w' : World} (k : Ext w w') {x : At} {cs : List Value} (h : RA w x cs) : RA w' x cs := by
  obtain ⟨A, c, h1, h2, h3⟩ := h; exact ⟨A, c, h1, h2, h3.extT k⟩
def atB (x : At) : Bool := nameB x.p && decide ((x.args.length : Int) ≤ 24) && x.args.all tmB
/-! columns -/
def colP (l : List ByteArray) : Nat → ByteArray
  | 0 => ⟨#[]⟩
  | i + 1 => colP l i ++ (if i = 0 then ⟨#[40]⟩ else ⟨#[44, 32]⟩) ++ l.getD i ⟨#[]⟩
def colW (nm : ByteArray) (l : List ByteArray) : ByteArray := if l.length = 0 then nm else nm ++ colP l l.length ++ ⟨#[41]⟩
def atW (x : At) : ByteArray := colW x.p (x.args.map termW)
theorem colP_le {l : List ByteArray} {M : Nat} (h : ∀ i, i < l.length → (l.getD i ⟨#[]⟩).size ≤ M) : ∀ i, i ≤ l.length → (colP l i).size ≤ i * (M + 2)
  | 0, _ => by simp [colP, z0]
  | i + 1, hi => by
    have := colP_le h i (by omega)
    have h2 := h i (by omega)
    have h3 : (if i = 0 then (⟨#[40]⟩ : ByteArray) else ⟨#[44, 32]⟩).size ≤ 2 := by split <;> decide
    simp only [colP, ByteArray.size_append, Nat.add_mul, Nat.one_mul]
    omega
theorem termW_at {l : List Tm} {i : Nat} (h : i < l.length) : (l.map termW).getD i ⟨#[]⟩ = termW (tmAt l i) := by
  simp [tmAt, List.getD_eq_getElem?_getD, h]
theorem wordB_ne {s : ByteArray} {lo hi : Int} (h : wordB s lo hi = true) : s.size ≠ 0 := by
  simp only [wordB, decide_eq_true_eq] at h; omega
theorem atW_ne {x : At} (h : atB x = true) : (atW x).size ≠ 0 := by
  simp only [atB, nameB, Bool.and_eq_true] at h
  have := wordB_ne h.1.1.1
  unfold atW colW
  split
  · exact this
  · simp only [ByteArray.size_append]; omega
theorem atB_parts {x : At} (h : atB x = true) : nameB x.p = true ∧ x.p.size ≤ 120 ∧ x.args.length ≤ 24 ∧ ∀ i, i < x.args.length → tmB (tmAt x.args i) = true := by
  simp only [atB, Bool.and_eq_true, decide_eq_true_eq] at h
  have h1 := h.1.1
  simp only [nameB, Bool.and_eq_true] at h1
  exact ⟨h.1.1, wordB_size h1.1, by omega, fun i hi => all_kid h.2 (tmAt_there hi)⟩
theorem RT_wf {w : World} {A : Option Addr} {l : List Tm} {m i : Nat} (h : Row RT m w A l) (hi : i < l.length) : (tmAt l i).wf := by
  obtain ⟨_, _, y, _, _, hy, h, _⟩ := h.at_ i hi
  rw [tmAt_of hy]
  exact h.2
end Go.Wk

set_option linter.unusedVariables false
set_option linter.unusedSimpArgs false
set_option maxRecDepth 10000
namespace Go.Proofs.Zw
open Go Go.Wk Go.Proofs Go.Lib
attribute [local irreducible] Go.wpList Go.wpStill Go.wpQuiet Go.Code.wp Go.Calls
theorem F_e104 : enterable Tryz.prog 104 = true := by kernel_rfl
theorem F_e65 : enterable Tryz.prog 65 = true := by kernel_rfl
theorem F_e66 : enterable Tryz.prog 66 = true := by kernel_rfl
theorem F_e67 : enterable Tryz.prog 67 = true := by kernel_rfl
theorem F_f24_0 : fieldAt Tryz.prog 24 0 0 = true := by kernel_rfl
theorem F_f24_1 : fieldAt Tryz.prog 24 1 1 = true := by kernel_rfl
theorem F_l22 : sliceT Tryz.prog 22 4 = true := by kernel_rfl
theorem F_o22 : one Tryz.prog 22 = true := by kernel_rfl
set_option maxHeartbeats 4000000 in
theorem t_CheckAtom1 (x : Tm) (w : World) (hx : x.wf) :
    Rt Tryz.prog 67 #[.agg #[.string x.v, .int .i8 x.l.k, .int .i64 x.l.n, .string x.l.s]] w fun v w' => v = .bool (!tmB x) ∧ Ext w w' := by
  refine enter Tryz.func67 rfl (l := [.agg #[.string x.v, .int .i8 x.l.k, .int .i64 x.l.n, .string x.l.s]]) rfl Tryz.ntmps67 (Nat.le_of_ble_eq_true rfl) ?_
  refine c_seq (c_reg ?_)
  refine s_box (v := .agg #[.string x.v, .int .i8 x.l.k, .int .i64 x.l.n, .string x.l.s]) (cs := #[.string x.v, .int .i8 x.l.k, .int .i64 x.l.n, .string x.l.s]) (w0 rfl) (ev_t rfl rfl) rfl ?_
  intro w2 g1 n3
  refine s_assign (v := .bool false) ev_c (w0 rfl) ?_
  refine c_done (n_then (c_seq (c_reg ?_)))
  refine s_loadL (cs := [.string x.v, .int .i8 x.l.k, .int .i64 x.l.n, .string x.l.s]) (ca := #[.string x.v, .int .i8 x.l.k, .int .i64 x.l.n, .string x.l.s]) F_m33 (ev_t rfl rfl) rfl rfl (blk_cells (NewB.blk n3) 0 (cs := [.string x.v, .int .i8 x.l.k, .int .i64 x.l.n, .string x.l.s]) rfl) (w0 rfl) ?_
  refine s_call F_e68 (w0 rfl) ev_f (m1 (ev_t rfl rfl)) (args := #[.agg #[.string x.v, .int .i8 x.l.k, .int .i64 x.l.n, .string x.l.s]]) rfl (t_CheckTerm x _ hx) ?_
  rintro _ w5 ⟨rfl, x4⟩
  refine s_cmp (r := !(tmB x)) (ev_t rfl rfl) ev_c (ci_tn (b := (tmB x)) (by decide)) (w0 rfl) ?_
  refine s_assign (v := .bool (!(tmB x))) (ev_t rfl rfl) (w0 rfl) ?_
  refine c_done (n_then (c_ret ?_))
  refine ret1 (v := .bool (!(tmB x))) rfl rfl rfl ?_
  refine ⟨_, rfl, ?_, (Ext.trans (NewB.ext n3) x4)⟩
  rfl
set_option maxHeartbeats 4000000 in
theorem s_IndexFuncT (l : List Tm) (A : Option Addr) (c : Nat) (w : World) (hl : l.length ≤ 140737488351232) (hr : Row RT 4 w A l) :
    Rt Tryz.prog 104 #[.slice A l.length c, .func (.func 67) #[] #[]] w fun v w' => v = .int .i64 (posB (fun y => !tmB y) l) ∧ Ext w w' := by
  refine enter Tryz.func104 rfl (l := [.slice A l.length c, .func (.func 67) #[] #[]]) rfl Tryz.ntmps104 (Nat.le_of_ble_eq_true rfl) ?_
  refine c_seq (c_reg ?_)
  refine s_assign (v := .int .i64 0) ev_c (w0 rfl) ?_
  refine c_done (n_then (c_seq (c_seq (c_reg ?_))))
  refine s_move (v := .slice A l.length c) (ev_t rfl rfl) (w0 rfl) ?_
  refine s_lenL F_l22 (ev_t rfl rfl) (w0 rfl) ?_
  refine s_move (v := .int .i64 0) ev_c (w0 rfl) ?_
  refine c_done (n_then (c_block ?_))
  refine c_loop (α := Nat) (fun (i : Nat) env_ w_ => Ext w w_ ∧ (∀ j y, j < i → l[j]? = some y → (!tmB y) = false) ∧ env_ 0 = .slice A l.length c ∧ env_ 1 = .func (.func 67) #[] #[] ∧ env_ 7 = .int .i64 (l.length : Int) ∧ env_ 8 = .int .i64 ((i : Nat) : Int)) (fun i => l.length - i) (0) ⟨Ext.refl _, (fun j y h => absurd h (Nat.not_lt_zero j)), rfl, rfl, rfl, rfl⟩ ?_
  rintro i env3 w1 ⟨x2, i4, e5, e6, e7, e8⟩
  refine c_seq (c_reg ?_)
  refine s_cmp (r := decide (((i : Nat) : Int) < (l.length : Int))) (ev_t rfl e8) (ev_t rfl e7) rfl (w0 rfl) ?_
  refine c_done (n_then (c_seq ?_))
  by_cases h9 : ((i : Nat) : Int) < (l.length : Int)
  · refine c_cond1 (vb (ev_t rfl rfl) (decide_eq_true h9)) ?_
    refine c_skip (n_then (c_seq (c_block (c_seq (c_reg ?_)))))
    refine s_move (v := .int .i64 ((i : Nat) : Int)) (ev_t rfl e8) (w0 rfl) ?_
    refine s_assign (v := .int .i64 ((i : Nat) : Int)) (ev_t rfl rfl) (w0 rfl) ?_
    refine c_done (n_then (c_seq (c_reg ?_)))
    refine s_move (v := .func (.func 67) #[] #[]) (ev_t rfl e6) (w0 rfl) ?_
    refine s_move (v := .slice A l.length c) (ev_t rfl e5) (w0 rfl) ?_
    refine s_move (v := .int .i64 ((i : Nat) : Int)) (ev_t rfl rfl) (w0 rfl) ?_
    obtain ⟨b10, o11, x12, csx12, hA13, hx14, hR15, hc16⟩ := Row.at_ hr i (by omega)
    obtain rfl := tmAt_of hx14
    obtain ⟨rfl, wf17⟩ := hR15
    refine s_indexR (j := i) F_l22 (ev_t rfl rfl) hA13 (ev_t rfl rfl) rfl (by omega) (w0 rfl) ?_
    refine s_loadL (cs := [.string ((tmAt l i).v), .int .i8 ((tmAt l i).l.k), .int .i64 ((tmAt l i).l.n), .string ((tmAt l i).l.s)]) (ca := #[.string ((tmAt l i).v), .int .i8 ((tmAt l i).l.k), .int .i64 ((tmAt l i).l.n), .string ((tmAt l i).l.s)]) F_m33 (ev_t rfl rfl) rfl rfl (sub_cells (cells_ext x2 hc16) 0 (cs2 := [.string ((tmAt l i).v), .int .i8 ((tmAt l i).l.k), .int .i64 ((tmAt l i).l.n), .string ((tmAt l i).l.s)]) rfl) (w0 rfl) ?_
    refine s_call F_e67 (w0 rfl) (ev_t rfl rfl) (m1 (ev_t rfl rfl)) (args := #[.agg #[.string ((tmAt l i).v), .int .i8 ((tmAt l i).l.k), .int .i64 ((tmAt l i).l.n), .string ((tmAt l i).l.s)]]) rfl (t_CheckAtom1 (tmAt l i) _ wf17) ?_
    rintro _ w19 ⟨rfl, x18⟩
    refine c_done (n_then ?_)
    rcases Bool.eq_false_or_eq_true (!tmB (tmAt l i)) with h20 | h20
    · refine c_cond1 (vb (ev_t rfl rfl) h20) ?_
      refine c_seq (c_reg ?_)
      refine s_move (v := .int .i64 ((i : Nat) : Int)) (ev_t rfl rfl) (w0 rfl) ?_
      refine s_assign (v := .int .i64 ((i : Nat) : Int)) (ev_t rfl rfl) (w0 rfl) ?_
      refine c_done (n_then (c_ret (r_block (r_then (r_then (r_block (r_then ?_)))))))
      refine ret1 (v := .int .i64 ((i : Nat) : Int)) rfl rfl rfl ?_
      refine ⟨_, rfl, ?_, (Ext.trans x2 x18)⟩
      (refine congrArg (Value.int .i64) (Eq.symm (posB_at i4 (tmAt_there (l := l) (j := i) (by omega)) (by simp [*]))))
    · refine c_cond0 (vb (ev_t rfl rfl) h20) ?_
      refine c_skip (n_block (n_then (c_reg ?_)))
      refine s_add (r := ((i + 1 : Nat) : Int)) (ev_t rfl e8) ev_c (by omega) (by omega) (w0 rfl) ?_
      refine s_move (v := .int .i64 ((i + 1 : Nat) : Int)) (ev_t rfl rfl) (w0 rfl) ?_
      refine c_done ?_
      exact ⟨(i + 1), _, rfl, ⟨(Ext.trans x2 x18), (kids_stepF (p := fun y => !tmB y) i4 (tmAt_there (by omega)) (by assumption)), e5, e6, e7, rfl⟩, (show l.length - (i + 1) < l.length - i by omega)⟩
  · refine c_cond0 (vb (ev_t rfl rfl) (decide_eq_false h9)) ?_
    refine c_exit (e_then (e_then (e_hit (n_then (c_seq (c_reg ?_))))))
    refine s_assign (v := .int .i64 (-1)) ev_c (w0 rfl) ?_
    refine c_done (n_then (c_ret ?_))
    refine ret1 (v := .int .i64 (-1)) rfl rfl rfl ?_
    refine ⟨_, rfl, ?_, x2⟩
    (refine congrArg (Value.int .i64) (Eq.symm (posB_none (by assumption) i4)))
set_option maxHeartbeats 4000000 in
theorem s_ContainsFuncT (l : List Tm) (A : Option Addr) (c : Nat) (w : World) (hl : l.length ≤ 140737488351232) (hr : Row RT 4 w A l) :
    Rt Tryz.prog 66 #[.slice A l.length c, .func (.func 67) #[] #[]] w fun v w' => v = .bool (decide (0 ≤ posB (fun y => !tmB y) l)) ∧ Ext w w' := by
  refine enter Tryz.func66 rfl (l := [.slice A l.length c, .func (.func 67) #[] #[]]) rfl Tryz.ntmps66 (Nat.le_of_ble_eq_true rfl) ?_
  refine c_seq (c_reg ?_)
  refine s_assign (v := .bool false) ev_c (w0 rfl) ?_
  refine c_done (n_then (c_seq (c_reg ?_)))
  refine s_move (v := .slice A l.length c) (ev_t rfl rfl) (w0 rfl) ?_
  refine s_move (v := .func (.func 67) #[] #[]) (ev_t rfl rfl) (w0 rfl) ?_
  refine s_call F_e104 (w0 rfl) ev_f (m2 (ev_t rfl rfl) (ev_t rfl rfl)) (args := #[.slice A l.length c, .func (.func 67) #[] #[]]) rfl (s_IndexFuncT l A c _ (by omega) hr) ?_
  rintro _ w2 ⟨rfl, x1⟩
  refine s_cmp (r := decide (0 ≤ posB (fun y => !tmB y) l)) (ev_t rfl rfl) ev_c rfl (w0 rfl) ?_
  refine s_assign (v := .bool (decide (0 ≤ posB (fun y => !tmB y) l))) (ev_t rfl rfl) (w0 rfl) ?_
  refine c_done (n_then (c_ret ?_))
  refine ret1 (v := .bool (decide (0 ≤ posB (fun y => !tmB y) l))) rfl rfl rfl ?_
  refine ⟨_, rfl, ?_, x1⟩
  rfl
set_option maxHeartbeats 4000000 in
theorem t_CheckAtom (x : At) (A : Option Addr) (c : Nat) (w : World) (ho : x.okc c) (hr : Row RT 4 w A x.args) :
    Rt Tryz.prog 34 #[.agg #[.string x.p, .slice A x.args.length c]] w fun v w' => v = .int .i64 (code (atB x)) ∧ Ext w w' := by
  refine enter Tryz.func34 rfl (l := [.agg #[.string x.p, .slice A x.args.length c]]) rfl Tryz.ntmps34 (Nat.le_of_ble_eq_true rfl) ?_
  have hl_ := At.okc.l ho
  have hc_ := At.okc.c ho
  have hp_ := At.okc.p ho
  refine c_seq (c_reg ?_)
  refine s_box (v := .agg #[.string x.p, .slice A x.args.length c]) (cs := #[.string x.p, .slice A x.args.length c]) (w0 rfl) (ev_t rfl rfl) rfl ?_
  intro w2 g1 n3
  refine s_assign (v := .int .i64 0) ev_c (w0 rfl) ?_
  refine c_done (n_then (c_seq (c_reg ?_)))
  refine s_field (off := 0) (o' := 0) F_f24_0 (ev_t rfl rfl) rfl (w0 rfl) ?_
  refine s_load (v := .string x.p) F_o9 (ev_t rfl rfl) (cell_of_blk (i := 0) (NewB.blk n3) rfl) (w0 rfl) ?_
  refine s_call F_e65 (w0 rfl) ev_f (m1 (ev_t rfl rfl)) (args := #[.string x.p]) rfl (t_name x.p _ (by omega)) ?_
  rintro _ w5 ⟨rfl, x4⟩
  rcases Bool.eq_false_or_eq_true (nameB x.p) with h6 | h6
  · refine s_move (v := .bool true) (vb (ev_t rfl rfl) h6) (w0 rfl) ?_
    refine s_field (off := 1) (o' := 1) F_f24_1 (ev_t rfl rfl) rfl (wy rfl rfl rfl rfl) ?_
    refine s_load (v := .slice A x.args.length c) F_o22 (ev_t rfl rfl) (cell_of_blk (i := 1) (Ext.blk x4 (NewB.blk n3)) rfl) (wy rfl rfl rfl rfl) ?_
    refine s_lenL F_l22 (ev_t rfl rfl) (wy rfl rfl rfl rfl) ?_
    refine s_cmp (r := decide ((x.args.length : Int) ≤ 24)) (ev_t rfl rfl) ev_c rfl (wy rfl rfl rfl rfl) ?_
    refine s_pick1 (v := .bool (decide ((x.args.length : Int) ≤ 24))) (ev_t rfl rfl) (ev_t rfl rfl) (w0 rfl) ?_
    by_cases h7 : (x.args.length : Int) ≤ 24
    · refine s_move (v := .bool true) (vb (ev_t rfl rfl) (decide_eq_true h7)) (w0 rfl) ?_
      refine s_field (off := 1) (o' := 1) F_f24_1 (ev_t rfl rfl) rfl (wy rfl rfl rfl rfl) ?_
      refine s_load (v := .slice A x.args.length c) F_o22 (ev_t rfl rfl) (cell_of_blk (i := 1) (Ext.blk x4 (NewB.blk n3)) rfl) (wy rfl rfl rfl rfl) ?_
      refine s_call F_e66 (wy rfl rfl rfl rfl) ev_f (m2 (ev_t rfl rfl) ev_f) (args := #[.slice A x.args.length c, .func (.func 67) #[] #[]]) rfl (s_ContainsFuncT x.args A c _ (by omega) (Row.extT (Row.extT hr (NewB.ext n3)) x4)) ?_
      rintro _ w9 ⟨rfl, x8⟩
      refine s_not (b := decide (0 ≤ posB (fun y => !tmB y) x.args)) (ev_t rfl rfl) (wy rfl rfl rfl rfl) ?_
      refine s_pick1 (v := .bool (!(decide (0 ≤ posB (fun y => !tmB y) x.args)))) (ev_t rfl rfl) (ev_t rfl rfl) (w0 rfl) ?_
      refine s_call F_e64 (w0 rfl) ev_f (m1 (ev_t rfl rfl)) (args := #[.bool (!(decide (0 ≤ posB (fun y => !tmB y) x.args)))]) rfl (t_code (!(decide (0 ≤ posB (fun y => !tmB y) x.args))) _) ?_
      rintro _ w11 ⟨rfl, x10⟩
      refine s_assign (v := .int .i64 (code (!(decide (0 ≤ posB (fun y => !tmB y) x.args))))) (ev_t rfl rfl) (w0 rfl) ?_
      refine c_done (n_then (c_ret ?_))
      refine ret1 (v := .int .i64 (code (!(decide (0 ≤ posB (fun y => !tmB y) x.args))))) rfl rfl rfl ?_
      refine ⟨_, rfl, ?_, (Ext.trans (Ext.trans (Ext.trans (NewB.ext n3) x4) x8) x10)⟩
      (refine congrArg (Value.int .i64) (congrArg code ?_); unfold atB; try rw [← posB_all]; simp only [*, decide_true, decide_false, if_true, if_false, Bool.and_true, Bool.true_and, Bool.false_and, Bool.and_false, Bool.not_true, Bool.not_false, Bool.false_eq_true, reduceIte, not_true_eq_false, not_false_eq_true])
    · refine s_move (v := .bool false) (vb (ev_t rfl rfl) (decide_eq_false h7)) (w0 rfl) ?_
      refine s_skip (wn rfl rfl rfl rfl rfl) ?_
      refine s_skip (wn rfl rfl rfl rfl rfl) ?_
      refine s_skip (wn rfl rfl rfl rfl rfl) ?_
      refine s_skip (wn rfl rfl rfl rfl rfl) ?_
      refine s_pick0 (v := .bool false) (ev_t rfl rfl) ev_c (w0 rfl) ?_
      refine s_call F_e64 (w0 rfl) ev_f (m1 (ev_t rfl rfl)) (args := #[.bool false]) rfl (t_code false _) ?_
      rintro _ w13 ⟨rfl, x12⟩
      refine s_assign (v := .int .i64 (code false)) (ev_t rfl rfl) (w0 rfl) ?_
      refine c_done (n_then (c_ret ?_))
      refine ret1 (v := .int .i64 (code false)) rfl rfl rfl ?_
      refine ⟨_, rfl, ?_, (Ext.trans (Ext.trans (NewB.ext n3) x4) x12)⟩
      (refine congrArg (Value.int .i64) (congrArg code ?_); unfold atB; try rw [← posB_all]; simp only [*, decide_true, decide_false, if_true, if_false, Bool.and_true, Bool.true_and, Bool.false_and, Bool.and_false, Bool.not_true, Bool.not_false, Bool.false_eq_true, reduceIte, not_true_eq_false, not_false_eq_true])
  · refine s_move (v := .bool false) (vb (ev_t rfl rfl) h6) (w0 rfl) ?_
    refine s_skip (wn rfl rfl rfl rfl rfl) ?_
    refine s_skip (wn rfl rfl rfl rfl rfl) ?_
    refine s_skip (wn rfl rfl rfl rfl rfl) ?_
    refine s_skip (wn rfl rfl rfl rfl rfl) ?_
    refine s_pick0 (v := .bool false) (ev_t rfl rfl) ev_c (w0 rfl) ?_
    refine s_move (v := .bool false) (ev_t rfl rfl) (w0 rfl) ?_
    refine s_skip (wn rfl rfl rfl rfl rfl) ?_
    refine s_skip (wn rfl rfl rfl rfl rfl) ?_
    refine s_skip (wn rfl rfl rfl rfl rfl) ?_
    refine s_skip (wn rfl rfl rfl rfl rfl) ?_
    refine s_pick0 (v := .bool false) (ev_t rfl rfl) ev_c (w0 rfl) ?_
    refine s_call F_e64 (w0 rfl) ev_f (m1 (ev_t rfl rfl)) (args := #[.bool false]) rfl (t_code false _) ?_
    rintro _ w15 ⟨rfl, x14⟩
    refine s_assign (v := .int .i64 (code false)) (ev_t rfl rfl) (w0 rfl) ?_
    refine c_done (n_then (c_ret ?_))
    refine ret1 (v := .int .i64 (code false)) rfl rfl rfl ?_
    refine ⟨_, rfl, ?_, (Ext.trans (Ext.trans (NewB.ext n3) x4) x14)⟩
    (refine congrArg (Value.int .i64) (congrArg code ?_); unfold atB; try rw [← posB_all]; simp only [*, decide_true, decide_false, if_true, if_false, Bool.and_true, Bool.true_and, Bool.false_and, Bool.and_false, Bool.not_true, Bool.not_false, Bool.false_eq_true, reduceIte, not_true_eq_false, not_false_eq_true])
end Go.Proofs.Zw

set_option linter.unusedVariables false
set_option linter.unusedSimpArgs false
set_option maxRecDepth 10000
namespace Go.Proofs.Zw
open Go Go.Wk Go.Proofs Go.Lib
attribute [local irreducible] Go.wpList Go.wpStill Go.wpQuiet Go.Code.wp Go.Calls
theorem F_e33 : enterable Tryz.prog 33 = true := by kernel_rfl
theorem F_e34 : enterable Tryz.prog 34 = true := by kernel_rfl
theorem F_e35 : enterable Tryz.prog 35 = true := by kernel_rfl
theorem F_e69 : enterable Tryz.prog 69 = true := by kernel_rfl
theorem F_e70 : enterable Tryz.prog 70 = true := by kernel_rfl
theorem F_m24 : many Tryz.prog 24 2 = true := by kernel_rfl
theorem F_o73 : one Tryz.prog 73 = true := by kernel_rfl
set_option maxHeartbeats 4000000 in
theorem p_columnsA (nm : ByteArray) (n : Nat) (l : List ByteArray) (g p1 p2 : Nat) (s0 : ByteArray) (wz : World) (w : World) (x0 : Ext wz w) (tb : Tabs Tryz.prog wz) (hb : BW 5 97 wz.heap.size w g s0) (hnl : n = l.length) (hn : l.length ≤ 24) (hM : ∀ i, i < l.length → (l.getD i ⟨#[]⟩).size ≤ 1000) (hs : s0.size + nm.size + 30000 ≤ 1000000000000) (hone : ∀ (i : Nat) (w' : World) (s1 : ByteArray), i < l.length → Ext wz w' → Bld 5 g w w' → BW 5 97 wz.heap.size w' g s1 → s1.size ≤ 1000000000000 → Rt Tryz.prog 70 #[.int .i64 ((i : Nat) : Int), .pointer (some ⟨p1, 0, none⟩), .pointer (some ⟨p2, 0, none⟩)] w' fun v w2 => v = .tuple #[] ∧ Wr 5 97 wz.heap.size g (s1 ++ l.getD i ⟨#[]⟩) w' w2) :
    Rt Tryz.prog 69 #[.pointer (some ⟨g, 0, none⟩), .string nm, .int .i64 ((n : Nat) : Int), .func (.func 70) #[] #[.pointer (some ⟨p1, 0, none⟩), .pointer (some ⟨p2, 0, none⟩)]] w fun v w' => v = .tuple #[] ∧ Wr 5 97 wz.heap.size g (s0 ++ colW nm l) w w' := by
  refine enter Tryz.func69 rfl (l := [.pointer (some ⟨g, 0, none⟩), .string nm, .int .i64 ((n : Nat) : Int), .func (.func 70) #[] #[.pointer (some ⟨p1, 0, none⟩), .pointer (some ⟨p2, 0, none⟩)]]) rfl Tryz.ntmps69 (Nat.le_of_ble_eq_true rfl) ?_
  subst hnl
  have hB_ := Keep.size x0
  refine c_seq (c_reg ?_)
  refine s_move (v := .pointer (some ⟨g, 0, none⟩)) (ev_t rfl rfl) (w0 rfl) ?_
  refine s_move (v := .string nm) (ev_t rfl rfl) (w0 rfl) ?_
  refine s_bslice (vs := [(0, .string nm)]) (cs := #[.string nm]) (b1 (ev_t rfl rfl)) (bs106_1_0s nm) (w0 rfl) ?_
  intro w2 g1 n3
  have ne_g1 : g1 ≠ g := by have a_ := NewB.eq n3; have b_ := BW.lt hb; omega
  refine s_call F_e54 (w0 rfl) ev_f (m2 (ev_t rfl rfl) (ev_t rfl rfl)) (args := #[.pointer (some ⟨g, 0, none⟩), .slice (some ⟨g1, 0, none⟩) 1 1]) rfl (p_put 97 _ g g1 (s0) [nm] _ (BW.ext hb (NewB.ext n3)) (Nat.le_trans hB_ (Keep.size (NewB.ext n3))) (by decide) F_lies97 (NewB.blk n3) (by simp only [catL, ByteArray.size_append, z0, z1, z2, z3, z4, z5, z6]; omega) (by simp)) ?_
  rintro _ w4 ⟨rfl, wr5⟩
  refine c_done (n_then (c_seq (c_seq (c_reg ?_))))
  refine s_move (v := .int .i64 ((l.length : Nat) : Int)) (ev_t rfl rfl) (w0 rfl) ?_
  refine s_move (v := .int .i64 0) ev_c (w0 rfl) ?_
  refine c_done (n_then (c_block ?_))
  refine c_loop (α := Nat) (fun (i : Nat) env_ w_ => Wr 5 97 wz.heap.size g (s0 ++ nm ++ colP l i) w w_ ∧ i ≤ l.length ∧ env_ 0 = .pointer (some ⟨g, 0, none⟩) ∧ env_ 2 = .int .i64 ((l.length : Nat) : Int) ∧ env_ 3 = .func (.func 70) #[] #[.pointer (some ⟨p1, 0, none⟩), .pointer (some ⟨p2, 0, none⟩)] ∧ env_ 13 = .int .i64 ((l.length : Nat) : Int) ∧ env_ 14 = .int .i64 ((i : Nat) : Int)) (fun i => l.length - i) (0) ⟨(Wr.cast (Wr.then_ (Wr.of_ext hb (NewB.ext n3) hB_) wr5) (by simp [catL, app_nil, colP])), Nat.zero_le _, rfl, rfl, rfl, rfl, rfl⟩ ?_
  rintro i env8 w6 ⟨x7, i9, e10, e11, e12, e13, e14⟩
  have hP_ := colP_le hM i i9
  have hM2_ := hM i
  refine c_seq (c_reg ?_)
  refine s_cmp (r := decide (((i : Nat) : Int) < ((l.length : Nat) : Int))) (ev_t rfl e14) (ev_t rfl e13) rfl (w0 rfl) ?_
  refine c_done (n_then (c_seq ?_))
  by_cases h15 : ((i : Nat) : Int) < ((l.length : Nat) : Int)
  · refine c_cond1 (vb (ev_t rfl rfl) (decide_eq_true h15)) ?_
    refine c_skip (n_then (c_seq (c_block (c_seq (c_reg ?_)))))
    refine s_move (v := .int .i64 ((i : Nat) : Int)) (ev_t rfl e14) (w0 rfl) ?_
    refine s_assign (v := .int .i64 ((i : Nat) : Int)) (ev_t rfl rfl) (w0 rfl) ?_
    refine c_done (n_then (c_seq (c_seq (c_reg ?_))))
    refine s_move (v := .int .i64 ((i : Nat) : Int)) (ev_t rfl rfl) (w0 rfl) ?_
    refine s_cmp (r := decide (((i : Nat) : Int) = 0)) (ev_t rfl rfl) ev_c rfl (w0 rfl) ?_
    refine c_done (n_then ?_)
    by_cases h16 : ((i : Nat) : Int) = 0
    · refine c_cond1 (vb (ev_t rfl rfl) (decide_eq_true h16)) ?_
      refine c_reg ?_
      refine s_move (v := .pointer (some ⟨g, 0, none⟩)) (ev_t rfl e10) (w0 rfl) ?_
      refine s_bslice (vs := [(0, .string (⟨#[40]⟩ : ByteArray))]) (cs := #[.string (⟨#[40]⟩ : ByteArray)]) (b1 ev_c) (bs106_1_0s (⟨#[40]⟩ : ByteArray)) (w0 rfl) ?_
      intro w18 g17 n19
      have ne_g17 : g17 ≠ g := by have a_ := NewB.eq n19; have b_ := BW.lt (Wr.bw x7); omega
      refine s_call F_e54 (w0 rfl) ev_f (m2 (ev_t rfl rfl) (ev_t rfl rfl)) (args := #[.pointer (some ⟨g, 0, none⟩), .slice (some ⟨g17, 0, none⟩) 1 1]) rfl (p_put 97 _ g g17 (s0 ++ nm ++ colP l i) [(⟨#[40]⟩ : ByteArray)] _ (BW.ext (Wr.bw x7) (NewB.ext n19)) (Nat.le_trans (Nat.le_trans hB_ (Wr.size x7)) (Keep.size (NewB.ext n19))) (by decide) F_lies97 (NewB.blk n19) (by simp only [catL, ByteArray.size_append, z0, z1, z2, z3, z4, z5, z6]; omega) (by simp)) ?_
      rintro _ w20 ⟨rfl, wr21⟩
      refine c_done (n_then (c_reg ?_))
      refine s_move (v := .func (.func 70) #[] #[.pointer (some ⟨p1, 0, none⟩), .pointer (some ⟨p2, 0, none⟩)]) (ev_t rfl e12) (w0 rfl) ?_
      refine s_move (v := .int .i64 ((i : Nat) : Int)) (ev_t rfl rfl) (w0 rfl) ?_
      refine s_call F_e70 (w0 rfl) (ev_t rfl rfl) (m1 (ev_t rfl rfl)) (args := #[.int .i64 ((i : Nat) : Int), .pointer (some ⟨p1, 0, none⟩), .pointer (some ⟨p2, 0, none⟩)]) rfl (hone i _ (s0 ++ nm ++ colP l i ++ (catL [(⟨#[40]⟩ : ByteArray)])) (by omega) (Wr.after wr21 (Ext.trans (Wr.after x7 x0 rfl) (NewB.ext n19)) rfl) (Wr.bld (Wr.then_ (Wr.ext x7 (NewB.ext n19) hB_) wr21)) (Wr.bw wr21) (by simp only [catL, ByteArray.size_append, z0, z1, z2]; omega)) ?_
      rintro _ w22 ⟨rfl, wr23⟩
      refine c_done (n_block (n_then (c_reg ?_)))
      refine s_add (r := ((i + 1 : Nat) : Int)) (ev_t rfl e14) ev_c (by omega) (by omega) (w0 rfl) ?_
      refine s_move (v := .int .i64 ((i + 1 : Nat) : Int)) (ev_t rfl rfl) (w0 rfl) ?_
      refine c_done ?_
      exact ⟨(i + 1), _, rfl, ⟨(Wr.cast (Wr.then_ (Wr.then_ (Wr.ext x7 (NewB.ext n19) hB_) wr21) wr23) (by simp only [colP]; (first | rw [if_pos (by omega)] | rw [if_neg (by omega)]); simp only [catL, app_nil, app_assoc])), by omega, e10, e11, e12, e13, rfl⟩, (show l.length - (i + 1) < l.length - i by omega)⟩
    · refine c_cond0 (vb (ev_t rfl rfl) (decide_eq_false h16)) ?_
      refine c_reg ?_
      refine s_move (v := .pointer (some ⟨g, 0, none⟩)) (ev_t rfl e10) (w0 rfl) ?_
      refine s_bslice (vs := [(0, .string (⟨#[44, 32]⟩ : ByteArray))]) (cs := #[.string (⟨#[44, 32]⟩ : ByteArray)]) (b1 ev_c) (bs106_1_0s (⟨#[44, 32]⟩ : ByteArray)) (w0 rfl) ?_
      intro w25 g24 n26
      have ne_g24 : g24 ≠ g := by have a_ := NewB.eq n26; have b_ := BW.lt (Wr.bw x7); omega
      refine s_call F_e54 (w0 rfl) ev_f (m2 (ev_t rfl rfl) (ev_t rfl rfl)) (args := #[.pointer (some ⟨g, 0, none⟩), .slice (some ⟨g24, 0, none⟩) 1 1]) rfl (p_put 97 _ g g24 (s0 ++ nm ++ colP l i) [(⟨#[44, 32]⟩ : ByteArray)] _ (BW.ext (Wr.bw x7) (NewB.ext n26)) (Nat.le_trans (Nat.le_trans hB_ (Wr.size x7)) (Keep.size (NewB.ext n26))) (by decide) F_lies97 (NewB.blk n26) (by simp only [catL, ByteArray.size_append, z0, z1, z2, z3, z4, z5, z6]; omega) (by simp)) ?_
      rintro _ w27 ⟨rfl, wr28⟩
      refine c_done (n_then (c_reg ?_))
      refine s_move (v := .func (.func 70) #[] #[.pointer (some ⟨p1, 0, none⟩), .pointer (some ⟨p2, 0, none⟩)]) (ev_t rfl e12) (w0 rfl) ?_
      refine s_move (v := .int .i64 ((i : Nat) : Int)) (ev_t rfl rfl) (w0 rfl) ?_
      refine s_call F_e70 (w0 rfl) (ev_t rfl rfl) (m1 (ev_t rfl rfl)) (args := #[.int .i64 ((i : Nat) : Int), .pointer (some ⟨p1, 0, none⟩), .pointer (some ⟨p2, 0, none⟩)]) rfl (hone i _ (s0 ++ nm ++ colP l i ++ (catL [(⟨#[44, 32]⟩ : ByteArray)])) (by omega) (Wr.after wr28 (Ext.trans (Wr.after x7 x0 rfl) (NewB.ext n26)) rfl) (Wr.bld (Wr.then_ (Wr.ext x7 (NewB.ext n26) hB_) wr28)) (Wr.bw wr28) (by simp only [catL, ByteArray.size_append, z0, z1, z2]; omega)) ?_
      rintro _ w29 ⟨rfl, wr30⟩
      refine c_done (n_block (n_then (c_reg ?_)))
      refine s_add (r := ((i + 1 : Nat) : Int)) (ev_t rfl e14) ev_c (by omega) (by omega) (w0 rfl) ?_
      refine s_move (v := .int .i64 ((i + 1 : Nat) : Int)) (ev_t rfl rfl) (w0 rfl) ?_
      refine c_done ?_
      exact ⟨(i + 1), _, rfl, ⟨(Wr.cast (Wr.then_ (Wr.then_ (Wr.ext x7 (NewB.ext n26) hB_) wr28) wr30) (by simp only [colP]; (first | rw [if_pos (by omega)] | rw [if_neg (by omega)]); simp only [catL, app_nil, app_assoc])), by omega, e10, e11, e12, e13, rfl⟩, (show l.length - (i + 1) < l.length - i by omega)⟩
  · refine c_cond0 (vb (ev_t rfl rfl) (decide_eq_false h15)) ?_
    refine c_exit (e_then (e_then (e_hit (n_then (c_seq (c_reg ?_))))))
    refine s_move (v := .int .i64 ((l.length : Nat) : Int)) (ev_t rfl e11) (w0 rfl) ?_
    refine s_cmp (r := decide (0 < ((l.length : Nat) : Int))) (ev_t rfl rfl) ev_c rfl (w0 rfl) ?_
    refine c_done (n_then ?_)
    by_cases h31 : 0 < ((l.length : Nat) : Int)
    · refine c_cond1 (vb (ev_t rfl rfl) (decide_eq_true h31)) ?_
      refine c_reg ?_
      refine s_move (v := .pointer (some ⟨g, 0, none⟩)) (ev_t rfl e10) (w0 rfl) ?_
      refine s_bslice (vs := [(0, .string (⟨#[41]⟩ : ByteArray))]) (cs := #[.string (⟨#[41]⟩ : ByteArray)]) (b1 ev_c) (bs106_1_0s (⟨#[41]⟩ : ByteArray)) (w0 rfl) ?_
      intro w33 g32 n34
      have ne_g32 : g32 ≠ g := by have a_ := NewB.eq n34; have b_ := BW.lt (Wr.bw x7); omega
      refine s_call F_e54 (w0 rfl) ev_f (m2 (ev_t rfl rfl) (ev_t rfl rfl)) (args := #[.pointer (some ⟨g, 0, none⟩), .slice (some ⟨g32, 0, none⟩) 1 1]) rfl (p_put 97 _ g g32 (s0 ++ nm ++ colP l i) [(⟨#[41]⟩ : ByteArray)] _ (BW.ext (Wr.bw x7) (NewB.ext n34)) (Nat.le_trans (Nat.le_trans hB_ (Wr.size x7)) (Keep.size (NewB.ext n34))) (by decide) F_lies97 (NewB.blk n34) (by simp only [catL, ByteArray.size_append, z0, z1, z2, z3, z4, z5, z6]; omega) (by simp)) ?_
      rintro _ w35 ⟨rfl, wr36⟩
      refine c_done ?_
      refine ret0 rfl ?_
      exact ⟨_, rfl, rfl, Wr.cast (Wr.then_ (Wr.ext x7 (NewB.ext n34) hB_) wr36) (by (have e_ : i = l.length := by omega); subst e_; unfold colW; first | (rw [if_neg (by omega)]; simp only [catL, app_nil, app_assoc]; done) | ((have e2_ : l.length = 0 := by omega); rw [if_pos e2_, e2_]; simp [colP, app_nil]))⟩
    · refine c_cond0 (vb (ev_t rfl rfl) (decide_eq_false h31)) ?_
      refine c_skip ?_
      refine ret0 rfl ?_
      exact ⟨_, rfl, rfl, Wr.cast x7 (by (have e_ : i = l.length := by omega); subst e_; unfold colW; first | (rw [if_neg (by omega)]; simp only [catL, app_nil, app_assoc]; done) | ((have e2_ : l.length = 0 := by omega); rw [if_pos e2_, e2_]; simp [colP, app_nil]))⟩
set_option maxHeartbeats 4000000 in
theorem p_atom1 (i : Nat) (x : At) (A : Option Addr) (c g p1 p2 : Nat) (s0 : ByteArray) (wz : World) (w : World) (x0 : Ext wz w) (tb : Tabs Tryz.prog wz) (hb : BW 5 97 wz.heap.size w g s0) (hr : Row RT 4 wz A x.args) (hp1 : w.heap[p1]? = some (.cells #[.pointer (some ⟨g, 0, none⟩)] 73 (0, 0))) (hp2 : w.heap[p2]? = some (.cells #[.string x.p, .slice A x.args.length c] 24 (0, 0))) (hi : i < x.args.length) (hv : tmB (tmAt x.args i) = true) (hs : s0.size ≤ 1000000000000) :
    Rt Tryz.prog 70 #[.int .i64 ((i : Nat) : Int), .pointer (some ⟨p1, 0, none⟩), .pointer (some ⟨p2, 0, none⟩)] w fun v w' => v = .tuple #[] ∧ Wr 5 97 wz.heap.size g (s0 ++ termW (tmAt x.args i)) w w' := by
  refine enter Tryz.func70 rfl (l := [.int .i64 ((i : Nat) : Int), .pointer (some ⟨p1, 0, none⟩), .pointer (some ⟨p2, 0, none⟩)]) rfl Tryz.ntmps70 (Nat.le_of_ble_eq_true rfl) ?_
  have hB_ := Keep.size x0
  refine c_tail 6 mixed (by kernel_rfl) rfl rfl ?_
  intro w1 x2
  refine t_val (v := .pointer (some ⟨g, 0, none⟩)) (w0 rfl) (r_load (v := .pointer (some ⟨g, 0, none⟩)) F_o73 (ev_t rfl rfl) (cell_of_blk (i := 0) (Ext.blk x2 hp1) rfl)) ?_
  refine t_val (v := .pointer (some ⟨p2, 1, none⟩)) (w0 rfl) (r_field (off := 1) (o' := 1) F_f24_1 (ev_t rfl rfl) rfl) ?_
  refine t_val (v := .slice A x.args.length c) (w0 rfl) (r_load (v := .slice A x.args.length c) F_o22 (ev_t rfl rfl) (cell_of_blk (i := 1) (Ext.blk x2 hp2) rfl)) ?_
  refine t_val (v := .int .i64 ((i : Nat) : Int)) (w0 rfl) (r_move (v := .int .i64 ((i : Nat) : Int)) (ev_t rfl rfl)) ?_
  obtain ⟨b3, o4, x5, csx5, hA6, hx7, hR8, hc9⟩ := Row.at_ hr i (by omega)
  obtain rfl := tmAt_of hx7
  obtain ⟨rfl, wf10⟩ := hR8
  refine t_val (v := .pointer (some ⟨b3, o4 + i * 4, none⟩)) (w0 rfl) (r_indexR (j := i) F_l22 (ev_t rfl rfl) hA6 (ev_t rfl rfl) rfl (by omega)) ?_
  refine t_val (v := .agg #[.string ((tmAt x.args i).v), .int .i8 ((tmAt x.args i).l.k), .int .i64 ((tmAt x.args i).l.n), .string ((tmAt x.args i).l.s)]) (w0 rfl) (r_loadL (cs := [.string ((tmAt x.args i).v), .int .i8 ((tmAt x.args i).l.k), .int .i64 ((tmAt x.args i).l.n), .string ((tmAt x.args i).l.s)]) (ca := #[.string ((tmAt x.args i).v), .int .i8 ((tmAt x.args i).l.k), .int .i64 ((tmAt x.args i).l.n), .string ((tmAt x.args i).l.s)]) F_m33 (ev_t rfl rfl) rfl rfl (sub_cells (cells_ext x2 (cells_ext x0 hc9)) 0 (cs2 := [.string ((tmAt x.args i).v), .int .i8 ((tmAt x.args i).l.k), .int .i64 ((tmAt x.args i).l.n), .string ((tmAt x.args i).l.s)]) rfl)) ?_
  refine t_done ?_
  refine s_call F_e71 (w0 rfl) ev_f (m2 (ev_t rfl rfl) (ev_t rfl rfl)) (args := #[.pointer (some ⟨g, 0, none⟩), .agg #[.string ((tmAt x.args i).v), .int .i8 ((tmAt x.args i).l.k), .int .i64 ((tmAt x.args i).l.n), .string ((tmAt x.args i).l.s)]]) rfl (p_term (tmAt x.args i) g (s0) wz _ (Ext.trans x0 x2) tb (BW.ext hb x2) wf10 (by have := termW_size hv wf10; omega)) ?_
  rintro _ w11 ⟨rfl, wr12⟩
  refine c_done ?_
  refine ret0 rfl ?_
  exact ⟨_, rfl, rfl, Wr.cast (Wr.then_ (Wr.of_ext hb x2 hB_) wr12) (rfl)⟩
set_option maxHeartbeats 4000000 in
theorem p_atom (x : At) (A : Option Addr) (c : Nat) (g : Nat) (s0 : ByteArray) (wz : World) (w : World) (x0 : Ext wz w) (tb : Tabs Tryz.prog wz) (hb : BW 5 97 wz.heap.size w g s0) (ho : x.okc c) (hr : Row RT 4 wz A x.args) (hat : atB x = true) (hs : s0.size + 40000 ≤ 1000000000000) :
    Rt Tryz.prog 35 #[.pointer (some ⟨g, 0, none⟩), .agg #[.string x.p, .slice A x.args.length c]] w fun v w' => v = .tuple #[] ∧ Wr 5 97 wz.heap.size g (s0 ++ atW x) w w' := by
  refine enter Tryz.func35 rfl (l := [.pointer (some ⟨g, 0, none⟩), .agg #[.string x.p, .slice A x.args.length c]]) rfl Tryz.ntmps35 (Nat.le_of_ble_eq_true rfl) ?_
  have hB_ := Keep.size x0
  have hl_ := At.okc.l ho
  have hc_ := At.okc.c ho
  have hp_ := At.okc.p ho
  obtain ⟨_, hpz_, hn_, hq_⟩ := atB_parts hat
  refine c_seq (c_reg ?_)
  refine s_box (v := .pointer (some ⟨g, 0, none⟩)) (cs := #[.pointer (some ⟨g, 0, none⟩)]) (w0 rfl) (ev_t rfl rfl) rfl ?_
  intro w2 g1 n3
  have ne_g1 : g1 ≠ g := by have a_ := NewB.eq n3; have b_ := BW.lt hb; omega
  refine s_box (v := .agg #[.string x.p, .slice A x.args.length c]) (cs := #[.string x.p, .slice A x.args.length c]) (w0 rfl) (ev_t rfl rfl) rfl ?_
  intro w5 g4 n6
  have ne_g4 : g4 ≠ g := by have a_ := NewB.eq n6; have b_ := BW.lt (BW.ext hb (NewB.ext n3)); omega
  refine c_done (n_then (c_reg ?_))
  refine s_load (v := .pointer (some ⟨g, 0, none⟩)) F_o73 (ev_t rfl rfl) (cell_of_blk (i := 0) (Ext.blk (NewB.ext n6) (NewB.blk n3)) rfl) (w0 rfl) ?_
  refine s_field (off := 0) (o' := 0) F_f24_0 (ev_t rfl rfl) rfl (w0 rfl) ?_
  refine s_load (v := .string x.p) F_o9 (ev_t rfl rfl) (cell_of_blk (i := 0) (NewB.blk n6) rfl) (w0 rfl) ?_
  refine s_field (off := 1) (o' := 1) F_f24_1 (ev_t rfl rfl) rfl (w0 rfl) ?_
  refine s_load (v := .slice A x.args.length c) F_o22 (ev_t rfl rfl) (cell_of_blk (i := 1) (NewB.blk n6) rfl) (w0 rfl) ?_
  refine s_lenL F_l22 (ev_t rfl rfl) (w0 rfl) ?_
  refine s_makeFunc (vf := #[]) (vc := #[.pointer (some ⟨g1, 0, none⟩), .pointer (some ⟨g4, 0, none⟩)]) m0 (m2 (ev_t rfl rfl) (ev_t rfl rfl)) (w0 rfl) ?_
  refine s_call F_e69 (w0 rfl) ev_f (m4 (ev_t rfl rfl) (ev_t rfl rfl) (ev_t rfl rfl) (ev_t rfl rfl)) (args := #[.pointer (some ⟨g, 0, none⟩), .string x.p, .int .i64 (x.args.length : Int), .func (.func 70) #[] #[.pointer (some ⟨g1, 0, none⟩), .pointer (some ⟨g4, 0, none⟩)]]) rfl (p_columnsA x.p _ (x.args.map termW) g g1 g4 (s0) wz _ (Ext.trans (Ext.trans x0 (NewB.ext n3)) (NewB.ext n6)) tb (BW.ext (BW.ext hb (NewB.ext n3)) (NewB.ext n6)) (by rw [List.length_map]) (by rw [List.length_map]; exact hn_) (fun i_ hi_ => by rw [List.length_map] at hi_; rw [termW_at hi_]; have z_ := termW_size (hq_ i_ hi_) (RT_wf hr hi_); omega) (by omega) (fun i_ w_ s_ hi_ x_ bl_ hb_ hs_ => by rw [List.length_map] at hi_; rw [termW_at hi_]; exact p_atom1 i_ x A c g g1 g4 s_ wz w_ x_ tb hb_ hr (Bld.blk bl_ (Ext.blk (NewB.ext n6) (NewB.blk n3)) (Or.inl (by decide)) ne_g1) (Bld.blk bl_ (NewB.blk n6) (Or.inl (by decide)) ne_g4) hi_ (hq_ i_ hi_) hs_)) ?_
  rintro _ w7 ⟨rfl, wr8⟩
  refine c_done ?_
  refine ret0 rfl ?_
  exact ⟨_, rfl, rfl, Wr.cast (Wr.then_ (Wr.of_ext hb (Ext.trans (NewB.ext n3) (NewB.ext n6)) hB_) wr8) (rfl)⟩
set_option maxHeartbeats 4000000 in
theorem p_toldA (x : At) (A : Option Addr) (c : Nat) (w : World) (ho : x.okc c) (hr : Row RT 4 w A x.args) (tb : Tabs Tryz.prog w) :
    Rt Tryz.prog 33 #[.agg #[.string x.p, .slice A x.args.length c], .func (.func 34) #[] #[], .func (.func 35) #[] #[]] w fun v w' => v = .tuple #[.string (if atB x then atW x else ⟨#[]⟩), .int .i64 (code (atB x))] ∧ Ext w w' := by
  refine enter Tryz.func33 rfl (l := [.agg #[.string x.p, .slice A x.args.length c], .func (.func 34) #[] #[], .func (.func 35) #[] #[]]) rfl Tryz.ntmps33 (Nat.le_of_ble_eq_true rfl) ?_
  have hl_ := At.okc.l ho
  have hc_ := At.okc.c ho
  have hp_ := At.okc.p ho
  refine c_seq (c_reg ?_)
  refine s_box (v := .agg #[.string x.p, .slice A x.args.length c]) (cs := #[.string x.p, .slice A x.args.length c]) (w0 rfl) (ev_t rfl rfl) rfl ?_
  intro w2 g1 n3
  refine s_assign (v := .string (⟨#[]⟩ : ByteArray)) ev_c (w0 rfl) ?_
  refine s_assign (v := .int .i64 0) ev_c (w0 rfl) ?_
  refine c_done (n_then (c_seq (c_seq (c_reg ?_))))
  refine s_move (v := .func (.func 34) #[] #[]) (ev_t rfl rfl) (w0 rfl) ?_
  refine s_loadL (cs := [.string x.p, .slice A x.args.length c]) (ca := #[.string x.p, .slice A x.args.length c]) F_m24 (ev_t rfl rfl) rfl rfl (blk_cells (NewB.blk n3) 0 (cs := [.string x.p, .slice A x.args.length c]) rfl) (w0 rfl) ?_
  refine s_call F_e34 (w0 rfl) (ev_t rfl rfl) (m1 (ev_t rfl rfl)) (args := #[.agg #[.string x.p, .slice A x.args.length c]]) rfl (t_CheckAtom x A c _ ho (Row.extT hr (NewB.ext n3))) ?_
  rintro _ w5 ⟨rfl, x4⟩
  refine s_cmp (r := !(atB x)) (ev_t rfl rfl) ev_c (ci_tn (b := (atB x)) (by decide)) (w0 rfl) ?_
  refine c_done (n_then ?_)
  rcases Bool.eq_false_or_eq_true (atB x) with h6 | h6
  · refine c_cond0 (vb (ev_t rfl rfl) (nbt h6)) ?_
    refine c_skip (n_then (c_seq (c_reg ?_)))
    refine s_alloc (cs := #[.pointer none, .slice none 0 0]) (w0 rfl) F_z97 rfl ?_
    intro w8 g7 n9
    have bw_ : BW 5 97 w.heap.size w8 g7 ⟨#[]⟩ := BW.new n9 rfl (by decide) (Keep.size (Ext.trans (NewB.ext n3) x4))
    have hB_ := Keep.size (Ext.trans (Ext.trans (NewB.ext n3) x4) (NewB.ext n9))
    refine c_done (n_then (c_seq (c_reg ?_)))
    refine s_move (v := .func (.func 35) #[] #[]) (ev_t rfl rfl) (w0 rfl) ?_
    refine s_loadL (cs := [.string x.p, .slice A x.args.length c]) (ca := #[.string x.p, .slice A x.args.length c]) F_m24 (ev_t rfl rfl) rfl rfl (blk_cells (Ext.blk (NewB.ext n9) (Ext.blk x4 (NewB.blk n3))) 0 (cs := [.string x.p, .slice A x.args.length c]) rfl) (w0 rfl) ?_
    refine s_call F_e35 (w0 rfl) (ev_t rfl rfl) (m2 (ev_t rfl rfl) (ev_t rfl rfl)) (args := #[.pointer (some ⟨g7, 0, none⟩), .agg #[.string x.p, .slice A x.args.length c]]) rfl (p_atom x A c g7 ((⟨#[]⟩ : ByteArray)) w _ (Ext.trans (Ext.trans (NewB.ext n3) x4) (NewB.ext n9)) (Tabs.ext tb (Ext.refl _)) bw_ ho hr (by assumption) (by simp only [ByteArray.size_append, z0]; omega)) ?_
    rintro _ w10 ⟨rfl, wr11⟩
    refine c_done (n_then (c_seq (c_reg ?_)))
    refine s_field (off := 0) (o' := 0) F_f97_0 (ev_t rfl rfl) rfl (w0 rfl) ?_
    refine s_call F_e55 (w0 rfl) ev_f (m1 (ev_t rfl rfl)) (args := #[.pointer (some ⟨g7, 0, none⟩)]) rfl (b_String 97 _ g7 ((⟨#[]⟩ : ByteArray) ++ (atW x)) _ (Wr.bw wr11) (Nat.le_trans hB_ (Wr.size wr11)) (by rw [nil_app]; exact atW_ne (by assumption))) ?_
    rintro _ w12 ⟨rfl, bl13⟩
    refine s_assign (v := .string ((⟨#[]⟩ : ByteArray) ++ (atW x))) (ev_t rfl rfl) (w0 rfl) ?_
    refine s_assign (v := .int .i64 0) ev_c (w0 rfl) ?_
    refine c_done (n_then (c_ret ?_))
    refine ret2 (v := .string ((⟨#[]⟩ : ByteArray) ++ (atW x))) (v2 := .int .i64 0) rfl rfl rfl rfl rfl ?_
    refine ⟨_, rfl, ?_, (ext_bel (Wr.after wr11 (Ext.trans (Ext.trans (NewB.ext n3) x4) (NewB.ext n9)) rfl) bl13)⟩
    (simp [code, nil_app, *])
  · refine c_cond1 (vb (ev_t rfl rfl) (nbf h6)) ?_
    refine c_seq (c_reg ?_)
    refine s_assign (v := .string (⟨#[]⟩ : ByteArray)) ev_c (w0 rfl) ?_
    refine s_assign (v := .int .i64 40) ev_c (w0 rfl) ?_
    refine c_done (n_then (c_ret (r_then ?_)))
    refine ret2 (v := .string (⟨#[]⟩ : ByteArray)) (v2 := .int .i64 40) rfl rfl rfl rfl rfl ?_
    refine ⟨_, rfl, ?_, (Ext.trans (NewB.ext n3) x4)⟩
    (simp [code, nil_app, *])
set_option maxHeartbeats 4000000 in
theorem p_Atom (x : At) (A : Option Addr) (c : Nat) (w : World) (ho : x.okc c) (hr : Row RT 4 w A x.args) (tb : Tabs Tryz.prog w) :
    Rt Tryz.prog 10 #[.agg #[.string x.p, .slice A x.args.length c]] w fun v w' => v = .tuple #[.string (if atB x then atW x else ⟨#[]⟩), .int .i64 (code (atB x))] ∧ Ext w w' := by
  refine enter Tryz.func10 rfl (l := [.agg #[.string x.p, .slice A x.args.length c]]) rfl Tryz.ntmps10 (Nat.le_of_ble_eq_true rfl) ?_
  have hl_ := At.okc.l ho
  have hc_ := At.okc.c ho
  have hp_ := At.okc.p ho
  refine c_seq (c_reg ?_)
  refine s_box (v := .agg #[.string x.p, .slice A x.args.length c]) (cs := #[.string x.p, .slice A x.args.length c]) (w0 rfl) (ev_t rfl rfl) rfl ?_
  intro w2 g1 n3
  refine s_assign (v := .string (⟨#[]⟩ : ByteArray)) ev_c (w0 rfl) ?_
  refine s_assign (v := .int .i64 0) ev_c (w0 rfl) ?_
  refine c_done (n_then (c_seq (c_reg ?_)))
  refine s_loadL (cs := [.string x.p, .slice A x.args.length c]) (ca := #[.string x.p, .slice A x.args.length c]) F_m24 (ev_t rfl rfl) rfl rfl (blk_cells (NewB.blk n3) 0 (cs := [.string x.p, .slice A x.args.length c]) rfl) (w0 rfl) ?_
  refine s_call F_e33 (w0 rfl) ev_f (m3 (ev_t rfl rfl) ev_f ev_f) (args := #[.agg #[.string x.p, .slice A x.args.length c], .func (.func 34) #[] #[], .func (.func 35) #[] #[]]) rfl (p_toldA x A c _ ho (Row.extT hr (NewB.ext n3)) (Tabs.ext tb (NewB.ext n3))) ?_
  rintro _ w5 ⟨rfl, x4⟩
  refine s_extract (v := .string (if atB x then atW x else ⟨#[]⟩)) (ev_t rfl rfl) rfl (w0 rfl) ?_
  refine s_extract (v := .int .i64 (code (atB x))) (ev_t rfl rfl) rfl (w0 rfl) ?_
  refine s_assign (v := .string (if atB x then atW x else ⟨#[]⟩)) (ev_t rfl rfl) (w0 rfl) ?_
  refine s_assign (v := .int .i64 (code (atB x))) (ev_t rfl rfl) (w0 rfl) ?_
  refine c_done (n_then (c_ret ?_))
  refine ret2 (v := .string (if atB x then atW x else ⟨#[]⟩)) (v2 := .int .i64 (code (atB x))) rfl rfl rfl rfl rfl ?_
  refine ⟨_, rfl, ?_, (Ext.trans (NewB.ext n3) x4)⟩
  rfl
end Go.Proofs.Zw

set_option linter.unusedVariables false
set_option linter.unusedSimpArgs false
namespace Go.Wk
open Go Go.RowKit Go.Lib
section
variable {P : Program} {ops : Array Oper} {Q : Exit → Act → World → Prop} {rest : List Oper} {n d t : Nat} {env : Nat → Value} {ds : List Deferred} {w w' : World} {v u : Value}
  {ty T : TypeId} {pos : String} {af : Array Edge} {gd : Option (Nat × Bool)} {x y z : Operand}
/-- A result that lies in memory. -/
theorem retC {fn : Func} {R : Ending → World → Prop} {m b o : Nat} {cs : List Value} {ca : Array Value} (hr : fn.results = #[.cell t T]) (ht : Nat.blt t n = true) (hv : env t = .pointer (some ⟨b, o, none⟩)) (h1 : many P T m = true) (hs : cs.length = m) (hca : ca = cs.toArray)
    (hc : ∀ (i : Nat) u, cs[i]? = some u → w.cell? ⟨b, o + i, none⟩ = some u) (hR : R (.returned (.agg ca)) w) : bodyPost P fn R .ret (mkA n env []) w := by
  subst hca
  have h' : t < n := Nat.lt_of_succ_le (by simpa [Nat.blt] using ht)
  obtain ⟨D, i, hu, hD, hi, hz⟩ := many_spec h1
  have hl : (loadCells ⟨b, o, none⟩ m).run P w = .ok cs.toArray w := by
    have := run_loadCells_list (P := P) (w := w) ⟨b, o, none⟩ cs (fun j v hv => by rw [add0]; exact hc j v hv)
    simpa [hs] using this
  refine ⟨rfl, .agg cs.toArray, ?_, hR⟩
  have hg : (mkA n env []).tmps[t]? = some (.pointer (some ⟨b, o, none⟩)) := by rw [mkA_get h', hv]
  simp only [results, hr]
  simp [hg, asAddr, loadVar, run_isAgg hu, hD, sizeOf, typeInfo, hi, hz, hl]
/-- make([]T, k) -/
theorem s_make {e m bytes k : Nat} {zv : Value} (ht : P.underlying T = some (.slice e)) (hinfo : (P.info? e).map (fun i => (i.zero, i.size, i.bytes)) = some (some zv, m, bytes)) (hx : (mkA n env ds).eval x = .int .i64 (k : Int)) (hy : (mkA n env ds).eval y = .int .i64 (k : Int)) (hb : bytes * k ≤ 281474976710656) (h63 : k ≤ 9223372036854775807)
    (hw : Region.wanted ⟨some d, .makeSlice T x y, ty, pos, af, gd⟩ (yielded ops (mkA n env ds).tmps) = true)
    (kont : ∀ w' g cs, cs.size = k * m → NewB w g (.cells cs e (0, 0)) w' → wpList P ops Q rest (mkA n (upd env d (.slice (some ⟨g, 0, none⟩) k k)) ds) w') : wpList P ops Q (⟨some d, .makeSlice T x y, ty, pos, af, gd⟩ :: rest) (mkA n env ds) w := by
  obtain ⟨i, hi, hh⟩ := Option.map_eq_some_iff.1 hinfo
  simp only [Prod.mk.injEq] at hh
  have hb' : (i.bytes : Int) * (k : Int) ≤ 281474976710656 := by
    have h : ((i.bytes * k : Nat) : Int) ≤ 281474976710656 := by rw [hh.2.2]; omega
    rwa [Int.natCast_mul] at h
  have hr := run_make (P := P) w T e i zv ht hi hh.1 .i64 .i64 k k (by omega) (Int.le_refl _) hb' (by omega)
  simp only [Int.toNat_natCast] at hr
  refine s_val hw (w' := w.alloc (.cells (madeCells zv.cells (k * i.size)) e)) (v := .slice (some ⟨w.heap.size, 0, none⟩) k k) ?_ (kont _ _ _ (by rw [size_madeCells, hh.2.1]) (newB w _))
  simp only [execOp, hx, hy]
  rw [Sem.run_bind, hr]
  rfl
/-- x[:h] -/
theorem r_sliceH {h cap ln : Nat} {b o : Nat} (ht : P.underlying T = some (.slice (P.elem T))) (hsz : (P.info? (P.elem T)).isSome = true) (hx : (mkA n env ds).eval x = .slice (some ⟨b, o, none⟩) ln cap) (hy : (mkA n env ds).eval y = .int .i64 (h : Int)) (hh : h ≤ cap) :
    (execOp (mkA n env ds).eval ⟨some d, .slice T x none (some y) none, ty, pos, af, gd⟩).run P w = .ok (.value (.slice (some ⟨b, o, none⟩) h cap)) w := by
  obtain ⟨i, hi⟩ := Option.isSome_iff_exists.1 hsz
  have := run_slice_h (P := P) (w := w) (T) (some ⟨b, o, none⟩) ln cap ht .i64 (h : Int) (by omega) (by omega)
  simp only [sizeOf, typeInfo, Sem.run_bind, run_program, Result.andThen_ok, hi, Int.toNat_natCast] at this
  simp only [execOp, hx, Option.map_none, Option.map_some, hy]
  rw [Sem.run_bind, run_sliceAt_slice (h := ht), this]
  simp [sliced, add0]
theorem s_sliceH {h cap ln : Nat} {b o : Nat} (ht : P.underlying T = some (.slice (P.elem T))) (hsz : (P.info? (P.elem T)).isSome = true) (hx : (mkA n env ds).eval x = .slice (some ⟨b, o, none⟩) ln cap) (hy : (mkA n env ds).eval y = .int .i64 (h : Int)) (hh : h ≤ cap)
    (hw : Region.wanted ⟨some d, .slice T x none (some y) none, ty, pos, af, gd⟩ (yielded ops (mkA n env ds).tmps) = true) (k : wpList P ops Q rest (mkA n (upd env d (.slice (some ⟨b, o, none⟩) h cap)) ds) w) : wpList P ops Q (⟨some d, .slice T x none (some y) none, ty, pos, af, gd⟩ :: rest) (mkA n env ds) w :=
  s_val hw (r_sliceH ht hsz hx hy hh) k
end
/-! ### a block that is filled, element by element -/
def Fill (E : World → Nat → List Value → Prop) (m : Nat) (e : TypeId) (w : World) (b N i : Nat) : Prop :=
  ∃ cs, w.heap[b]? = some (.cells cs e (0, 0)) ∧ cs.size = N * m ∧ ∀ j, j < i → ∃ l : List Value, E w j l ∧ l.length = m ∧ ∀ k u, l[k]? = some u → cs[j * m + k]? = some u
section
variable {E : World → Nat → List Value → Prop} {m e b N i : Nat} {w w' : World}
theorem Fill.start {cs : Array Value} (nb : NewB w b (.cells cs e (0, 0)) w') (hs : cs.size = N * m) : Fill E m e w' b N 0 :=
  ⟨cs, nb.blk, hs, fun j hj => absurd hj (Nat.not_lt_zero j)⟩
theorem Fill.ext (h : Fill E m e w b N i) (k : Ext w w') (hR : ∀ j l, E w j l → E w' j l) : Fill E m e w' b N i := by
  obtain ⟨cs, h1, h2, h3⟩ := h
  refine ⟨cs, k.blk h1, h2, fun j hj => ?_⟩
  obtain ⟨l, a1, a2, a3⟩ := h3 j hj
  exact ⟨l, hR j l a1, a2, a3⟩
theorem Fill.cells (h : Fill E m e w b N i) (j : Nat) (hj : j < i) : ∃ l : List Value, E w j l ∧ l.length = m ∧ ∀ (k : Nat) (u : Value), l[k]? = some u → w.cell? ⟨b, 0 + j * m + k, none⟩ = some u := by
  obtain ⟨cs, h1, h2, h3⟩ := h
  obtain ⟨l, a1, a2, a3⟩ := h3 j hj
  refine ⟨l, a1, a2, fun k u hu => ?_⟩
  rw [Nat.zero_add]
  exact cell_of_blk h1 (a3 k u hu)
theorem Fill.lt (h : Fill E m e w b N i) : b < w.heap.size := by obtain ⟨cs, h1, _⟩ := h; exact lt_of_blk h1
end
section
variable {P : Program} {ops : Array Oper} {Q : Exit → Act → World → Prop} {rest : List Oper} {n d t : Nat} {env : Nat → Value} {ds : List Deferred} {w w' : World} {v u : Value}
  {ty T : TypeId} {pos : String} {af : Array Edge} {gd : Option (Nat × Bool)} {x y z : Operand}
theorem s_storeF {E : World → Nat → List Value → Prop} {m e b N i : Nat} {l : List Value} (hF : Fill E m e w b N i) (hi : i < N) (hsz : (P.info? T).map (·.size) = some m) (hx : (mkA n env ds).eval x = .pointer (some ⟨b, 0 + i * m, none⟩)) (hy : (mkA n env ds).eval y = v) (hv : v.cells = l.toArray) (hl : l.length = m) (h1 : (l.all (·.oneCell')) = true)
    (hE : ∀ w', Keep (fun k => k = b) w w' → (∀ j l, j < i → E w j l → E w' j l) ∧ E w' i l) (hw : Region.wanted ⟨none, .store T x y, ty, pos, af, gd⟩ (yielded ops (mkA n env ds).tmps) = true)
    (k : ∀ w', Fill E m e w' b N (i + 1) → Keep (fun k => k = b) w w' → wpList P ops Q rest (mkA n env ds) w') : wpList P ops Q (⟨none, .store T x y, ty, pos, af, gd⟩ :: rest) (mkA n env ds) w := by
  obtain ⟨cs, hb, hs, hc⟩ := hF
  have hN : i * m + m ≤ N * m := by
    have := Nat.mul_le_mul_right m (Nat.succ_le_of_lt hi)
    rw [Nat.succ_mul] at this; exact this
  refine s_store (g := b) (o := 0 + i * m) (m := m) (l := l) hsz hx hy hv hl h1 hb (by rw [hs]; omega) rfl hw fun w' hwr => k w' ?_ hwr.keep
  obtain ⟨e1, e2⟩ := hE w' hwr.keep
  refine ⟨_, hwr.blk, ?_, fun j hj => ?_⟩
  · simp only [List.size_toArray, List.length_append, List.length_take, List.length_drop, Array.length_toList, hs, hl]
    omega
  · rcases Nat.lt_succ_iff_lt_or_eq.1 hj with hj | rfl
    · obtain ⟨l2, a1, a2, a3⟩ := hc j hj
      refine ⟨l2, e1 j l2 hj a1, a2, fun k u hu => ?_⟩
      have hk : k < m := by rw [← a2]; exact (List.getElem?_eq_some_iff.1 hu).1
      have hj2 : j * m + m ≤ i * m := by
        have := Nat.mul_le_mul_right m (Nat.succ_le_of_lt hj)
        rw [Nat.succ_mul] at this; exact this
      rw [List.getElem?_toArray, List.getElem?_append_left (by simp only [List.length_append, List.length_take, Array.length_toList, hs]; omega), List.getElem?_append_left (by simp only [List.length_take, Array.length_toList, hs]; omega), List.getElem?_take, if_pos (by omega)]
      simpa using a3 k u hu
    · refine ⟨l, e2, hl, fun k u hu => ?_⟩
      have hk : k < m := by rw [← hl]; exact (List.getElem?_eq_some_iff.1 hu).1
      have hlen : (cs.toList.take (0 + j * m)).length = j * m := by simp only [List.length_take, Array.length_toList, hs]; omega
      rw [List.getElem?_toArray, List.getElem?_append_left (by simp only [List.length_append, hlen, hl]; omega), List.getElem?_append_right (by rw [hlen]; omega), hlen, show j * m + k - j * m = k by omega]
      exact hu
end
/-! ### copies with a mark behind each list -/
def spareW : ByteArray := (⟨#[35]⟩ : ByteArray) ++ itoaB 777777
def markE : List Value := [.int .i8 99, .string spareW, .int .i8 0, .int .i64 0, .string ⟨#[]⟩, .slice none 0 0]
inductive LE (lo : Nat) (w : World) : Ex → List Value → Prop
  | mk (op : Int) (t : Tm) (kids : List Ex) (b : Nat) (f : Nat → List Value) (hlo : lo ≤ b) (hop : -128 ≤ op ∧ op ≤ 127) (ht : t.wf) (hc : kids.length * 80 ≤ 140737488351232)
    (hr : ∀ (j : Nat) (x : Ex), kids[j]? = some x → LE lo w x (f j)) (hcell : ∀ (j : Nat) (x : Ex), kids[j]? = some x → ∀ (i : Nat) (u : Value), (f j)[i]? = some u → w.cell? ⟨b, 0 + j * 6 + i, none⟩ = some u)
    (hm : ∀ (i : Nat) (u : Value), markE[i]? = some u → w.cell? ⟨b, 0 + kids.length * 6 + i, none⟩ = some u) :
    LE lo w (.mk op t kids) [.int .i8 op, .string t.v, .int .i8 t.l.k, .int .i64 t.l.n, .string t.l.s, .slice (some ⟨b, 0, none⟩) kids.length (kids.length + 1)]
/-- A marked row of copies. -/
structure TwE (lo : Nat) (w : World) (b : Nat) (kids : List Ex) : Prop where
  above : lo ≤ b
  row : ∀ (j : Nat) (x : Ex), kids[j]? = some x → ∃ l, LE lo w x l ∧ ∀ (i : Nat) (u : Value), l[i]? = some u → w.cell? ⟨b, 0 + j * 6 + i, none⟩ = some u
  mark : ∀ (i : Nat) (u : Value), markE[i]? = some u → w.cell? ⟨b, 0 + kids.length * 6 + i, none⟩ = some u
theorem LE.mono {lo lo' : Nat} {w : World} {x : Ex} {cs : List Value} (h : LE lo w x cs) (hl : lo' ≤ lo) : LE lo' w x cs := by
  induction h with
  | mk op t kids b f hlo hop ht hc hr hcell hm ih => exact .mk op t kids b f (Nat.le_trans hl hlo) hop ht hc ih hcell hm
theorem LE.keep {lo : Nat} {w w' : World} {x : Ex} {cs : List Value} {S : Nat → Prop} (h : LE lo w x cs) (k : Keep S w w') (hS : ∀ i, S i → i < lo) : LE lo w' x cs := by
  induction h with
  | mk op t kids b f hlo hop ht hc hr hcell hm ih =>
    have hn : ¬ S b := fun h => by have := hS b h; omega
    exact .mk op t kids b f hlo hop ht hc ih (fun j x hx i u hu => k.cell (hcell j x hx i u hu) hn) (fun i u hu => k.cell (hm i u hu) hn)
theorem LE.ext {lo : Nat} {w w' : World} {x : Ex} {cs : List Value} (h : LE lo w x cs) (k : Ext w w') : LE lo w' x cs := h.keep k (fun _ h => h.elim)
theorem LE.open_ {lo : Nat} {w : World} {x : Ex} {cs : List Value} (h : LE lo w x cs) : ∃ b, cs = [.int .i8 x.op, .string x.t.v, .int .i8 x.t.l.k, .int .i64 x.t.l.n, .string x.t.l.s, .slice (some ⟨b, 0, none⟩) x.kids.length (x.kids.length + 1)] ∧ TwE lo w b x.kids := by
  cases h with
  | mk op t kids b f hlo hop ht hc hr hcell hm => exact ⟨b, rfl, hlo, fun j x hx => ⟨f j, hr j x hx, hcell j x hx⟩, hm⟩
theorem LE.mk_ {lo : Nat} {w : World} {x : Ex} {b : Nat} (ho : -128 ≤ x.op ∧ x.op ≤ 127) (ht : x.t.wf) (hc : x.kids.length * 80 ≤ 140737488351232) (h : TwE lo w b x.kids) : LE lo w x [.int .i8 x.op, .string x.t.v, .int .i8 x.t.l.k, .int .i64 x.t.l.n, .string x.t.l.s, .slice (some ⟨b, 0, none⟩) x.kids.length (x.kids.length + 1)] := by
  obtain ⟨op, t, kids⟩ := x
  obtain ⟨h1, h2, h3⟩ := h
  have hf : ∃ f : Nat → List Value, ∀ (j : Nat) (x : Ex), kids[j]? = some x → LE lo w x (f j) ∧ ∀ (i : Nat) (u : Value), (f j)[i]? = some u → w.cell? ⟨b, 0 + j * 6 + i, none⟩ = some u := by
    refine ⟨fun j => if hj : j < kids.length then Classical.choose (h2 j _ (List.getElem?_eq_getElem hj)) else [], fun j x hx => ?_⟩
    have hj : j < kids.length := (List.getElem?_eq_some_iff.1 hx).1
    have hx2 : kids[j] = x := (List.getElem?_eq_some_iff.1 hx).2
    simp only [dif_pos hj]
    have hs := Classical.choose_spec (h2 j _ (List.getElem?_eq_getElem hj))
    exact ⟨hx2 ▸ hs.1, hs.2⟩
  obtain ⟨f, hf⟩ := hf
  exact .mk op t kids b f h1 ho ht hc (fun j x hx => (hf j x hx).1) (fun j x hx => (hf j x hx).2) h3
theorem TwE.ext {lo : Nat} {w w' : World} {b : Nat} {kids : List Ex} (h : TwE lo w b kids) (k : Ext w w') : TwE lo w' b kids :=
  ⟨h.above, fun j x hx => by obtain ⟨l, h1, h2⟩ := h.row j x hx; exact ⟨l, h1.ext k, fun i u hu => k.cell (h2 i u hu)⟩, fun i u hu => k.cell (h.mark i u hu)⟩
/-- A copy is an expression. -/
theorem LE.re {lo : Nat} {w : World} {x : Ex} {cs : List Value} (h : LE lo w x cs) : RE w x cs := by
  induction h with
  | mk op t kids b f hlo hop ht hc hr hcell hm ih => exact .mk op t kids (some ⟨b, 0, none⟩) (kids.length + 1) b 0 f hop ht (Nat.le_succ _) hc (.inr rfl) ih hcell
theorem TwE.rows {lo : Nat} {w : World} {b : Nat} {x : Ex} (h : TwE lo w b x.kids) : Row RE 6 w (some ⟨b, 0, none⟩) x.kids := .inr ⟨b, 0, rfl, fun j y hy => by
  obtain ⟨l, h1, h2⟩ := h.row j y hy; exact ⟨l, h1.re, h2⟩⟩
/-- What a filled block holds, with its mark: a marked row. -/
def EE (lo : Nat) (kids : List Ex) (w : World) (j : Nat) (l : List Value) : Prop := if j < kids.length then ∀ x, kids[j]? = some x → LE lo w x l else l = markE
theorem EE.keep {lo : Nat} {kids : List Ex} {w w' : World} {j : Nat} {l : List Value} {S : Nat → Prop} (h : EE lo kids w j l) (k : Keep S w w') (hS : ∀ i, S i → i < lo) : EE lo kids w' j l := by
  unfold EE at *
  split
  · rename_i hj; rw [if_pos hj] at h; exact fun x hx => (h x hx).keep k hS
  · rename_i hj; rw [if_neg hj] at h; exact h
theorem TwE.of_fill {lo lo' e b N : Nat} {w : World} {kids : List Ex} (h : Fill (EE lo kids) 6 e w b N (kids.length + 1)) (hl : lo' ≤ lo) (hb : lo' ≤ b) : TwE lo' w b kids := by
  refine ⟨hb, fun j x hx => ?_, ?_⟩
  · have hj : j < kids.length := (List.getElem?_eq_some_iff.1 hx).1
    obtain ⟨l, a1, _, a3⟩ := h.cells j (by omega)
    unfold EE at a1
    rw [if_pos hj] at a1
    exact ⟨l, (a1 x hx).mono hl, a3⟩
  · obtain ⟨l, a1, _, a3⟩ := h.cells kids.length (by omega)
    unfold EE at a1
    rw [if_neg (Nat.lt_irrefl _)] at a1
    subst a1
    exact a3
theorem TwE.keep {lo : Nat} {w w' : World} {b : Nat} {kids : List Ex} {S : Nat → Prop} (h : TwE lo w b kids) (k : Keep S w w') (hS : ∀ i, S i → i < lo) : TwE lo w' b kids := by
  have hn : ¬ S b := fun hb => by have := hS b hb; have := h.above; omega
  exact ⟨h.above, fun j x hx => by obtain ⟨l, h1, h2⟩ := h.row j x hx; exact ⟨l, h1.keep k hS, fun i u hu => k.cell (h2 i u hu) hn⟩, fun i u hu => k.cell (h.mark i u hu) hn⟩
theorem TwE.mono {lo lo' : Nat} {w : World} {b : Nat} {kids : List Ex} (h : TwE lo w b kids) (hl : lo' ≤ lo) : TwE lo' w b kids :=
  ⟨Nat.le_trans hl h.above, fun j x hx => by obtain ⟨l, h1, h2⟩ := h.row j x hx; exact ⟨l, h1.mono hl, h2⟩, h.mark⟩
theorem EE.of_tw {lo lo2 b c i : Nat} {w : World} {kids : List Ex} {y : Ex} (hx : kids[i]? = some y) (ho : y.okc c) (h : TwE lo2 w b y.kids) (hl : lo ≤ lo2) : EE lo kids w i [.int .i8 y.op, .string y.t.v, .int .i8 y.t.l.k, .int .i64 y.t.l.n, .string y.t.l.s, .slice (some ⟨b, 0, none⟩) y.kids.length (y.kids.length + 1)] := by
  unfold EE
  rw [if_pos (List.getElem?_eq_some_iff.1 hx).1]
  intro x hx2
  rw [hx] at hx2
  cases hx2
  exact LE.mk_ ho.op ho.t ho.c (h.mono hl)
theorem EE.mark {lo : Nat} {w : World} {kids : List Ex} : EE lo kids w kids.length markE := by unfold EE; rw [if_neg (Nat.lt_irrefl _)]
theorem Fill.cast {E : World → Nat → List Value → Prop} {m e b N i i' : Nat} {w : World} (h : Fill E m e w b N i) (hi : i = i') : Fill E m e w b N i' := hi ▸ h
theorem cmpI_self (a : Int) : cmpI .eql a a = some true := by simp [cmpI]
theorem cmpI_selfn (a : Int) : cmpI .neq a a = some false := by simp [cmpI]
end Go.Wk

set_option linter.unusedVariables false
set_option linter.unusedSimpArgs false
set_option maxRecDepth 10000
namespace Go.Proofs.Zw
open Go Go.Wk Go.Proofs Go.Lib
attribute [local irreducible] Go.wpList Go.wpStill Go.wpQuiet Go.Code.wp Go.Calls
theorem F_e121 : enterable Tryz.prog 121 = true := by kernel_rfl
theorem F_e96 : enterable Tryz.prog 96 = true := by kernel_rfl
theorem bd33_0s : ∀ (a0 : ByteArray), ∀ w : World, (Instr.build 33 [(0, .string a0)].toArray).run Tryz.prog w = .ok (.agg #[.string a0, .int .i8 0, .int .i64 0, .string (⟨#[]⟩ : ByteArray)]) w := by
  intros
  kernel_rfl
theorem bd36_0ii8_1s_1ii8_1ii64_1s : ∀ (a0 : Int) (a1 : ByteArray) (a2 : Int) (a3 : Int) (a4 : ByteArray), ∀ w : World, (Instr.build 36 [(0, .int .i8 a0), (1, .agg #[.string a1, .int .i8 a2, .int .i64 a3, .string a4])].toArray).run Tryz.prog w = .ok (.agg #[.int .i8 a0, .string a1, .int .i8 a2, .int .i64 a3, .string a4, .slice none 0 0]) w := by
  intros
  kernel_rfl
theorem eqs33 (a0 : ByteArray) (a1 : Int) (a2 : Int) (a3 : ByteArray) (a b : Operand) (w : World) : (do eqGuard .eql 33 a b (.agg #[.string a0, .int .i8 a1, .int .i64 a2, .string a3]) (.agg #[.string a0, .int .i8 a1, .int .i64 a2, .string a3]); binOp .eql 33 (.agg #[.string a0, .int .i8 a1, .int .i64 a2, .string a3]) (.agg #[.string a0, .int .i8 a1, .int .i64 a2, .string a3]) : Sem Value).run Tryz.prog w = .ok (.bool true) w := by
  have hu := Tryz.underlying33
  go_simp
theorem v_Itoa (n : Int) (w : World) (tb : Tabs Tryz.prog w) (h : -9223372036854775808 ≤ n ∧ n ≤ 9223372036854775807) : Rt Tryz.prog 121 #[.int .i64 n] w fun v w' => v = .string (itoaB n) ∧ Ext w w' := by
  refine Calls.mono (Tryz.strconv_Itoa n h.1 h.2 w tb.pow) ?_
  rintro e w' ⟨rfl, k, os, h⟩
  exact ⟨_, rfl, rfl, ext_grow h⟩
set_option maxHeartbeats 4000000 in
theorem l_word (n : Int) (w : World) (tb : Tabs Tryz.prog w) (hn : 0 ≤ n ∧ n ≤ 1000000) :
    Rt Tryz.prog 96 #[.int .i64 n] w fun v w' => v = .string ((⟨#[35]⟩ : ByteArray) ++ itoaB n) ∧ Ext w w' := by
  refine enter Tryz.func96 rfl (l := [.int .i64 n]) rfl Tryz.ntmps96 (Nat.le_of_ble_eq_true rfl) ?_
  refine c_seq (c_reg ?_)
  refine s_assign (v := .string (⟨#[]⟩ : ByteArray)) ev_c (w0 rfl) ?_
  refine c_done (n_then (c_seq (c_reg ?_)))
  refine s_move (v := .int .i64 n) (ev_t rfl rfl) (w0 rfl) ?_
  refine s_call F_e121 (w0 rfl) ev_f (m1 (ev_t rfl rfl)) (args := #[.int .i64 n]) rfl (v_Itoa n _ (Tabs.ext tb (Ext.refl w)) (by omega)) ?_
  rintro _ w2 ⟨rfl, x1⟩
  refine s_cat ev_c (ev_t rfl rfl) (by have z_ := itoaB_size (n := n) (by omega); simp only [z1]; omega) (w0 rfl) ?_
  refine s_assign (v := .string ((⟨#[35]⟩ : ByteArray) ++ (itoaB n))) (ev_t rfl rfl) (w0 rfl) ?_
  refine c_done (n_then (c_ret ?_))
  refine ret1 (v := .string ((⟨#[35]⟩ : ByteArray) ++ (itoaB n))) rfl rfl rfl ?_
  refine ⟨_, rfl, ?_, x1⟩
  rfl
set_option maxHeartbeats 4000000 in
theorem l_markExpr (n : Int) (w : World) (tb : Tabs Tryz.prog w) (hn : 0 ≤ n ∧ n ≤ 1000000) :
    Rt Tryz.prog 99 #[.int .i64 n] w fun v w' => v = .agg #[.int .i8 99, .string ((⟨#[35]⟩ : ByteArray) ++ itoaB n), .int .i8 0, .int .i64 0, .string (⟨#[]⟩ : ByteArray), .slice none 0 0] ∧ Ext w w' := by
  refine enter Tryz.func99 rfl (l := [.int .i64 n]) rfl Tryz.ntmps99 (Nat.le_of_ble_eq_true rfl) ?_
  refine c_seq (c_reg ?_)
  refine s_alloc (cs := #[.int .i8 0, .string (⟨#[]⟩ : ByteArray), .int .i8 0, .int .i64 0, .string (⟨#[]⟩ : ByteArray), .slice none 0 0]) (w0 rfl) F_z36 rfl ?_
  intro w2 g1 n3
  refine c_done (n_then (c_seq (c_reg ?_)))
  refine s_move (v := .int .i64 n) (ev_t rfl rfl) (w0 rfl) ?_
  refine s_call F_e96 (w0 rfl) ev_f (m1 (ev_t rfl rfl)) (args := #[.int .i64 n]) rfl (l_word n _ (Tabs.ext tb (NewB.ext n3)) (by omega)) ?_
  rintro _ w5 ⟨rfl, x4⟩
  refine s_build (v := .agg #[.string ((⟨#[35]⟩ : ByteArray) ++ itoaB n), .int .i8 0, .int .i64 0, .string (⟨#[]⟩ : ByteArray)]) (vs := [(0, .string ((⟨#[35]⟩ : ByteArray) ++ itoaB n))]) (b1 (ev_t rfl rfl)) (bd33_0s ((⟨#[35]⟩ : ByteArray) ++ itoaB n)) (w0 rfl) ?_
  refine s_build (v := .agg #[.int .i8 99, .string ((⟨#[35]⟩ : ByteArray) ++ itoaB n), .int .i8 0, .int .i64 0, .string (⟨#[]⟩ : ByteArray), .slice none 0 0]) (vs := [(0, .int .i8 99), (1, .agg #[.string ((⟨#[35]⟩ : ByteArray) ++ itoaB n), .int .i8 0, .int .i64 0, .string (⟨#[]⟩ : ByteArray)])]) (b2 ev_c (ev_t rfl rfl)) (bd36_0ii8_1s_1ii8_1ii64_1s 99 ((⟨#[35]⟩ : ByteArray) ++ itoaB n) 0 0 (⟨#[]⟩ : ByteArray)) (w0 rfl) ?_
  refine s_store (cs' := #[.int .i8 99, .string ((⟨#[35]⟩ : ByteArray) ++ itoaB n), .int .i8 0, .int .i64 0, .string (⟨#[]⟩ : ByteArray), .slice none 0 0]) F_sz36 (ev_t rfl rfl) (ev_t rfl rfl) (l := [.int .i8 99, .string ((⟨#[35]⟩ : ByteArray) ++ itoaB n), .int .i8 0, .int .i64 0, .string (⟨#[]⟩ : ByteArray), .slice none 0 0]) rfl rfl rfl (Ext.blk x4 (NewB.blk n3)) (Nat.le_of_ble_eq_true rfl) rfl (w0 rfl) ?_
  intro w6 k7
  refine c_done (n_then (c_ret ?_))
  refine retC (cs := [.int .i8 99, .string ((⟨#[35]⟩ : ByteArray) ++ itoaB n), .int .i8 0, .int .i64 0, .string (⟨#[]⟩ : ByteArray), .slice none 0 0]) (ca := #[.int .i8 99, .string ((⟨#[35]⟩ : ByteArray) ++ itoaB n), .int .i8 0, .int .i64 0, .string (⟨#[]⟩ : ByteArray), .slice none 0 0]) rfl rfl rfl F_m36 rfl rfl (blk_cells (Wrote.blk k7) 0 (cs := [.int .i8 99, .string ((⟨#[35]⟩ : ByteArray) ++ itoaB n), .int .i8 0, .int .i64 0, .string (⟨#[]⟩ : ByteArray), .slice none 0 0]) rfl) ?_
  refine ⟨_, rfl, ?_, (Keep.then_ (Ext.trans (NewB.ext n3) x4) (Wrote.keep k7) (fun i_ hi_ h_ => by have a_ := NewB.eq n3; have b_ := Keep.size (Ext.refl w); omega))⟩
  rfl
set_option maxHeartbeats 4000000 in
theorem l_isExpr (n : Int) (w : World) (tb : Tabs Tryz.prog w) (hn : 0 ≤ n ∧ n ≤ 1000000) :
    Rt Tryz.prog 115 #[.agg #[.int .i8 99, .string ((⟨#[35]⟩ : ByteArray) ++ itoaB n), .int .i8 0, .int .i64 0, .string (⟨#[]⟩ : ByteArray), .slice none 0 0], .int .i64 n] w fun v w' => v = .bool true ∧ Ext w w' := by
  refine enter Tryz.func115 rfl (l := [.agg #[.int .i8 99, .string ((⟨#[35]⟩ : ByteArray) ++ itoaB n), .int .i8 0, .int .i64 0, .string (⟨#[]⟩ : ByteArray), .slice none 0 0], .int .i64 n]) rfl Tryz.ntmps115 (Nat.le_of_ble_eq_true rfl) ?_
  refine c_seq (c_reg ?_)
  refine s_box (v := .agg #[.int .i8 99, .string ((⟨#[35]⟩ : ByteArray) ++ itoaB n), .int .i8 0, .int .i64 0, .string (⟨#[]⟩ : ByteArray), .slice none 0 0]) (cs := #[.int .i8 99, .string ((⟨#[35]⟩ : ByteArray) ++ itoaB n), .int .i8 0, .int .i64 0, .string (⟨#[]⟩ : ByteArray), .slice none 0 0]) (w0 rfl) (ev_t rfl rfl) rfl ?_
  intro w2 g1 n3
  refine s_assign (v := .bool false) ev_c (w0 rfl) ?_
  refine c_done (n_then (c_seq ?_))
  refine c_quiet mixed (by kernel_rfl) ?_
  refine q_val (v := .pointer (some ⟨g1, 0, none⟩)) (w0 rfl) (fun w_ c_ => r_field (off := 0) (o' := 0) F_f36_0 (ev_t rfl rfl) rfl) ?_
  refine q_val (v := .int .i8 99) (w0 rfl) (fun w_ c_ => r_load (v := .int .i8 99) F_o28 (ev_t rfl rfl) (cell_of_blk (i := 0) (Ext.blk c_ (NewB.blk n3)) rfl)) ?_
  refine q_val (v := .bool true) (w0 rfl) (fun w_ c_ => r_cmp (r := true) (ev_t rfl rfl) ev_c rfl) ?_
  refine q_val (v := .bool true) (w0 rfl) (fun w_ c_ => r_move (v := .bool true) (ev_t rfl rfl)) ?_
  refine q_val (v := .pointer (some ⟨g1, 1, none⟩)) (wy rfl rfl rfl rfl) (fun w_ c_ => r_field (off := 1) (o' := 1) F_f36_1 (ev_t rfl rfl) rfl) ?_
  refine q_val (v := .agg #[.string ((⟨#[35]⟩ : ByteArray) ++ itoaB n), .int .i8 0, .int .i64 0, .string (⟨#[]⟩ : ByteArray)]) (wy rfl rfl rfl rfl) (fun w_ c_ => r_loadL (cs := [.string ((⟨#[35]⟩ : ByteArray) ++ itoaB n), .int .i8 0, .int .i64 0, .string (⟨#[]⟩ : ByteArray)]) (ca := #[.string ((⟨#[35]⟩ : ByteArray) ++ itoaB n), .int .i8 0, .int .i64 0, .string (⟨#[]⟩ : ByteArray)]) F_m33 (ev_t rfl rfl) rfl rfl (blk_cells (Ext.blk c_ (NewB.blk n3)) 1 (cs := [.string ((⟨#[35]⟩ : ByteArray) ++ itoaB n), .int .i8 0, .int .i64 0, .string (⟨#[]⟩ : ByteArray)]) rfl)) ?_
  refine q_val (v := .int .i64 n) (wy rfl rfl rfl rfl) (fun w_ c_ => r_move (v := .int .i64 n) (ev_t rfl rfl)) ?_
  refine q_call (v := .string ((⟨#[35]⟩ : ByteArray) ++ itoaB n)) F_e96 (wy rfl rfl rfl rfl) ev_f (m1 (ev_t rfl rfl)) (args := #[.int .i64 n]) rfl (fun w_ c_ => Rt.mono (l_word n _ (Tabs.ext tb (Ext.trans (NewB.ext n3) c_)) (by omega)) (fun v_ w2_ h_ => ⟨h_.1, Ext.trans c_ h_.2⟩)) ?_
  refine q_val (v := .agg #[.string ((⟨#[35]⟩ : ByteArray) ++ itoaB n), .int .i8 0, .int .i64 0, .string (⟨#[]⟩ : ByteArray)]) (wy rfl rfl rfl rfl) (fun w_ c_ => r_build (v := .agg #[.string ((⟨#[35]⟩ : ByteArray) ++ itoaB n), .int .i8 0, .int .i64 0, .string (⟨#[]⟩ : ByteArray)]) (vs := [(0, .string ((⟨#[35]⟩ : ByteArray) ++ itoaB n))]) (b1 (ev_t rfl rfl)) (bd33_0s ((⟨#[35]⟩ : ByteArray) ++ itoaB n))) ?_
  refine q_val (v := .bool true) (wy rfl rfl rfl rfl) (fun w_ c_ => r_cmpG (r := true) (ev_t rfl rfl) (ev_t rfl rfl) ((fun w_ => eqs33 ((⟨#[35]⟩ : ByteArray) ++ itoaB n) 0 0 (⟨#[]⟩ : ByteArray) _ _ w_))) ?_
  refine q_val (v := .bool true) (w0 rfl) (fun w_ c_ => r_pick1 (v := .bool true) (ev_t rfl rfl) (ev_t rfl rfl)) ?_
  refine q_val (v := .bool true) (w0 rfl) (fun w_ c_ => r_move (v := .bool true) (ev_t rfl rfl)) ?_
  refine q_val (v := .pointer (some ⟨g1, 5, none⟩)) (wy rfl rfl rfl rfl) (fun w_ c_ => r_field (off := 5) (o' := 5) F_f36_2 (ev_t rfl rfl) rfl) ?_
  refine q_val (v := .slice none 0 0) (wy rfl rfl rfl rfl) (fun w_ c_ => r_load (v := .slice none 0 0) F_o34 (ev_t rfl rfl) (cell_of_blk (i := 5) (Ext.blk c_ (NewB.blk n3)) rfl)) ?_
  refine q_val (v := .int .i64 0) (wy rfl rfl rfl rfl) (fun w_ c_ => r_lenL F_l34 (ev_t rfl rfl)) ?_
  refine q_val (v := .bool true) (wy rfl rfl rfl rfl) (fun w_ c_ => r_cmp (r := true) (ev_t rfl rfl) ev_c rfl) ?_
  refine q_val (v := .bool true) (w0 rfl) (fun w_ c_ => r_pick1 (v := .bool true) (ev_t rfl rfl) (ev_t rfl rfl)) ?_
  refine q_val (v := .bool true) (w0 rfl) (fun w_ c_ => r_assign (v := .bool true) (ev_t rfl rfl)) ?_
  refine q_done ?_
  intro w4 x5
  refine n_then (c_ret ?_)
  refine ret1 (v := .bool true) rfl rfl rfl ?_
  refine ⟨_, rfl, ?_, (Ext.trans (NewB.ext n3) x5)⟩
  rfl
end Go.Proofs.Zw

set_option linter.unusedVariables false
set_option linter.unusedSimpArgs false
set_option maxRecDepth 10000
namespace Go.Proofs.Zw
open Go Go.Wk Go.Proofs Go.Lib
attribute [local irreducible] Go.wpList Go.wpStill Go.wpQuiet Go.Code.wp Go.Calls
theorem F_e30 : enterable Tryz.prog 30 = true := by kernel_rfl
theorem F_e59 : enterable Tryz.prog 59 = true := by kernel_rfl
theorem F_e99 : enterable Tryz.prog 99 = true := by kernel_rfl
theorem F_iE34 : (Tryz.prog.info? (Tryz.prog.elem 34)).isSome = true := by kernel_rfl
theorem F_if36 : (Tryz.prog.info? 36).map (fun i => (i.zero, i.size, i.bytes)) = some (some (.agg #[.int .i8 0, .string (⟨#[]⟩ : ByteArray), .int .i8 0, .int .i64 0, .string (⟨#[]⟩ : ByteArray), .slice none 0 0]), 6, 80) := by kernel_rfl
theorem F_sz34 : (Tryz.prog.info? 34).map (·.size) = some 1 := by kernel_rfl
theorem F_uE34 : Tryz.prog.underlying 34 = some (.slice (Tryz.prog.elem 34)) := by kernel_rfl
theorem F_ul34 : Tryz.prog.underlying 34 = some (.slice 36) := by kernel_rfl
set_option maxHeartbeats 4000000 in
theorem l_TwinExpr_of (x : Ex) (A : Option Addr) (c : Nat) (w : World) (ho : x.okc c) (hr : Row RE 6 w A x.kids) (tb : Tabs Tryz.prog w) (htw : ∀ (A : Option Addr) (c : Nat) (w : World), x.okc c → Row RE 6 w A x.kids → Tabs Tryz.prog w → Rt Tryz.prog 59 #[.slice A x.kids.length c] w fun v w' => ∃ b, v = .slice (some ⟨b, 0, none⟩) x.kids.length (x.kids.length + 1) ∧ TwE w.heap.size w' b x.kids ∧ Ext w w') :
    Rt Tryz.prog 30 #[.agg #[.int .i8 x.op, .string x.t.v, .int .i8 x.t.l.k, .int .i64 x.t.l.n, .string x.t.l.s, .slice A x.kids.length c]] w fun v w' => ∃ b, v = .agg #[.int .i8 x.op, .string x.t.v, .int .i8 x.t.l.k, .int .i64 x.t.l.n, .string x.t.l.s, .slice (some ⟨b, 0, none⟩) x.kids.length (x.kids.length + 1)] ∧ TwE w.heap.size w' b x.kids ∧ Ext w w' := by
  refine enter Tryz.func30 rfl (l := [.agg #[.int .i8 x.op, .string x.t.v, .int .i8 x.t.l.k, .int .i64 x.t.l.n, .string x.t.l.s, .slice A x.kids.length c]]) rfl Tryz.ntmps30 (Nat.le_of_ble_eq_true rfl) ?_
  have hl_ := Ex.okc.l ho
  have hc_ := Ex.okc.c ho
  refine c_seq (c_reg ?_)
  refine s_box (v := .agg #[.int .i8 x.op, .string x.t.v, .int .i8 x.t.l.k, .int .i64 x.t.l.n, .string x.t.l.s, .slice A x.kids.length c]) (cs := #[.int .i8 x.op, .string x.t.v, .int .i8 x.t.l.k, .int .i64 x.t.l.n, .string x.t.l.s, .slice A x.kids.length c]) (w0 rfl) (ev_t rfl rfl) rfl ?_
  intro w2 g1 n3
  refine s_alloc (cs := #[.int .i8 0, .string (⟨#[]⟩ : ByteArray), .int .i8 0, .int .i64 0, .string (⟨#[]⟩ : ByteArray), .slice none 0 0]) (w0 rfl) F_z36 rfl ?_
  intro w5 g4 n6
  refine c_done (n_then (c_seq (c_reg ?_)))
  refine s_field (off := 5) (o' := 5) F_f36_2 (ev_t rfl rfl) rfl (w0 rfl) ?_
  refine s_load (v := .slice A x.kids.length c) F_o34 (ev_t rfl rfl) (cell_of_blk (i := 5) (Ext.blk (NewB.ext n6) (NewB.blk n3)) rfl) (w0 rfl) ?_
  refine s_call F_e59 (w0 rfl) ev_f (m1 (ev_t rfl rfl)) (args := #[.slice A x.kids.length c]) rfl (htw A c _ ho (Row.extE (Row.extE hr (NewB.ext n3)) (NewB.ext n6)) (Tabs.ext tb (Ext.trans (NewB.ext n3) (NewB.ext n6)))) ?_
  rintro _ w8 ⟨b7, rfl, tw9, x10⟩
  refine s_field (off := 5) (o' := 5) F_f36_2 (ev_t rfl rfl) rfl (w0 rfl) ?_
  refine s_store (cs' := #[.int .i8 x.op, .string x.t.v, .int .i8 x.t.l.k, .int .i64 x.t.l.n, .string x.t.l.s, .slice (some ⟨b7, 0, none⟩) x.kids.length (x.kids.length + 1)]) F_sz34 (ev_t rfl rfl) (ev_t rfl rfl) (l := [.slice (some ⟨b7, 0, none⟩) x.kids.length (x.kids.length + 1)]) rfl rfl rfl (Ext.blk x10 (Ext.blk (NewB.ext n6) (NewB.blk n3))) (Nat.le_of_ble_eq_true rfl) rfl (w0 rfl) ?_
  intro w11 k12
  refine c_done (n_then (c_seq (c_reg ?_)))
  refine s_loadL (cs := [.int .i8 x.op, .string x.t.v, .int .i8 x.t.l.k, .int .i64 x.t.l.n, .string x.t.l.s, .slice (some ⟨b7, 0, none⟩) x.kids.length (x.kids.length + 1)]) (ca := #[.int .i8 x.op, .string x.t.v, .int .i8 x.t.l.k, .int .i64 x.t.l.n, .string x.t.l.s, .slice (some ⟨b7, 0, none⟩) x.kids.length (x.kids.length + 1)]) F_m36 (ev_t rfl rfl) rfl rfl (blk_cells (Wrote.blk k12) 0 (cs := [.int .i8 x.op, .string x.t.v, .int .i8 x.t.l.k, .int .i64 x.t.l.n, .string x.t.l.s, .slice (some ⟨b7, 0, none⟩) x.kids.length (x.kids.length + 1)]) rfl) (w0 rfl) ?_
  refine s_store (cs' := #[.int .i8 x.op, .string x.t.v, .int .i8 x.t.l.k, .int .i64 x.t.l.n, .string x.t.l.s, .slice (some ⟨b7, 0, none⟩) x.kids.length (x.kids.length + 1)]) F_sz36 (ev_t rfl rfl) (ev_t rfl rfl) (l := [.int .i8 x.op, .string x.t.v, .int .i8 x.t.l.k, .int .i64 x.t.l.n, .string x.t.l.s, .slice (some ⟨b7, 0, none⟩) x.kids.length (x.kids.length + 1)]) rfl rfl rfl (Keep.blk (Wrote.keep k12) (Ext.blk x10 (NewB.blk n6)) (by have a_ := NewB.eq n6; have b_ := lt_of_blk (NewB.blk n3); omega)) (Nat.le_of_ble_eq_true rfl) rfl (w0 rfl) ?_
  intro w13 k14
  refine c_done (n_then (c_ret ?_))
  refine retC (cs := [.int .i8 x.op, .string x.t.v, .int .i8 x.t.l.k, .int .i64 x.t.l.n, .string x.t.l.s, .slice (some ⟨b7, 0, none⟩) x.kids.length (x.kids.length + 1)]) (ca := #[.int .i8 x.op, .string x.t.v, .int .i8 x.t.l.k, .int .i64 x.t.l.n, .string x.t.l.s, .slice (some ⟨b7, 0, none⟩) x.kids.length (x.kids.length + 1)]) rfl rfl rfl F_m36 rfl rfl (blk_cells (Wrote.blk k14) 0 (cs := [.int .i8 x.op, .string x.t.v, .int .i8 x.t.l.k, .int .i64 x.t.l.n, .string x.t.l.s, .slice (some ⟨b7, 0, none⟩) x.kids.length (x.kids.length + 1)]) rfl) ?_
  exact ⟨_, rfl, b7, rfl, TwE.mono (TwE.keep (TwE.keep tw9 (Wrote.keep k12) (fun i_ h_ => by have a_ := NewB.eq n3; have b_ := NewB.size n3; have c_ := Keep.size (NewB.ext n6); omega)) (Wrote.keep k14) (fun i_ h_ => by have a_ := NewB.eq n6; have b_ := NewB.size n6; have c_ := Keep.size (Ext.refl w5); omega)) (Keep.size (Ext.trans (NewB.ext n3) (NewB.ext n6))), (Keep.then_ (Keep.then_ (Ext.trans (Ext.trans (NewB.ext n3) (NewB.ext n6)) x10) (Wrote.keep k12) (fun i_ hi_ h_ => by have a_ := NewB.eq n3; have b_ := Keep.size (Ext.refl w); omega)) (Wrote.keep k14) (fun i_ hi_ h_ => by have a_ := NewB.eq n6; have b_ := Keep.size (NewB.ext n3); omega))⟩
set_option maxHeartbeats 4000000 in
theorem l_TwinExprs_of (x : Ex) (A : Option Addr) (c : Nat) (w : World) (ho : x.okc c) (hr : Row RE 6 w A x.kids) (tb : Tabs Tryz.prog w) (ih : ∀ (j : Nat) (y : Ex), x.kids[j]? = some y → ∀ (A : Option Addr) (c : Nat) (w : World), y.okc c → Row RE 6 w A y.kids → Tabs Tryz.prog w → Rt Tryz.prog 30 #[.agg #[.int .i8 y.op, .string y.t.v, .int .i8 y.t.l.k, .int .i64 y.t.l.n, .string y.t.l.s, .slice A y.kids.length c]] w fun v w' => ∃ b, v = .agg #[.int .i8 y.op, .string y.t.v, .int .i8 y.t.l.k, .int .i64 y.t.l.n, .string y.t.l.s, .slice (some ⟨b, 0, none⟩) y.kids.length (y.kids.length + 1)] ∧ TwE w.heap.size w' b y.kids ∧ Ext w w') :
    Rt Tryz.prog 59 #[.slice A x.kids.length c] w fun v w' => ∃ b, v = .slice (some ⟨b, 0, none⟩) x.kids.length (x.kids.length + 1) ∧ TwE w.heap.size w' b x.kids ∧ Ext w w' := by
  refine enter Tryz.func59 rfl (l := [.slice A x.kids.length c]) rfl Tryz.ntmps59 (Nat.le_of_ble_eq_true rfl) ?_
  have hl_ := Ex.okc.l ho
  have hc_ := Ex.okc.c ho
  refine c_seq (c_reg ?_)
  refine s_assign (v := .slice none 0 0) ev_c (w0 rfl) ?_
  refine c_done (n_then (c_seq (c_reg ?_)))
  refine s_move (v := .slice A x.kids.length c) (ev_t rfl rfl) (w0 rfl) ?_
  refine s_lenL F_l34 (ev_t rfl rfl) (w0 rfl) ?_
  refine s_add (r := ((x.kids.length + 1 : Nat) : Int)) (ev_t rfl rfl) ev_c (by omega) (by omega) (w0 rfl) ?_
  refine s_make (k := x.kids.length + 1) F_ul34 F_if36 (ev_t rfl rfl) (ev_t rfl rfl) (by omega) (by omega) (w0 rfl) ?_
  intro w1 g2 cs3 hs4 n5
  have ge_g2 : w.heap.size ≤ g2 := by have a_ := NewB.eq n5; have b_ := Keep.size (Ext.refl w); omega
  have fl_g2 : Fill (EE (g2 + 1) x.kids) 6 36 w1 g2 (x.kids.length + 1) 0 := Fill.start n5 hs4
  refine s_assign (v := .slice (some ⟨g2, 0, none⟩) (x.kids.length + 1) (x.kids.length + 1)) (ev_t rfl rfl) (w0 rfl) ?_
  refine c_done (n_then (c_seq (c_seq (c_reg ?_))))
  refine s_assign (v := .int .i64 0) ev_c (w0 rfl) ?_
  refine c_done (n_then (c_block ?_))
  refine c_loop (α := Nat) (fun (i : Nat) env_ w_ => Ext w w_ ∧ i ≤ x.kids.length ∧ Fill (EE (g2 + 1) x.kids) 6 36 w_ g2 (x.kids.length + 1) i ∧ env_ 0 = .slice A x.kids.length c ∧ env_ 2 = .slice none 0 0 ∧ env_ 3 = .slice (some ⟨g2, 0, none⟩) (x.kids.length + 1) (x.kids.length + 1) ∧ env_ 4 = .int .i64 ((i : Nat) : Int)) (fun i => x.kids.length - i) (0) ⟨(NewB.ext n5), Nat.zero_le _, fl_g2, rfl, rfl, rfl, rfl⟩ ?_
  rintro i env8 w6 ⟨x7, i9, i10, e11, e12, e13, e14⟩
  refine c_seq (c_seq (c_reg ?_))
  refine s_move (v := .int .i64 ((i : Nat) : Int)) (ev_t rfl e14) (w0 rfl) ?_
  refine s_move (v := .slice A x.kids.length c) (ev_t rfl e11) (w0 rfl) ?_
  refine s_lenL F_l34 (ev_t rfl rfl) (w0 rfl) ?_
  refine s_cmp (r := decide (((i : Nat) : Int) < (x.kids.length : Int))) (ev_t rfl rfl) (ev_t rfl rfl) rfl (w0 rfl) ?_
  refine c_done (n_then ?_)
  by_cases h15 : ((i : Nat) : Int) < (x.kids.length : Int)
  · refine c_cond1 (vb (ev_t rfl rfl) (decide_eq_true h15)) ?_
    refine c_skip (n_then (c_seq (c_block (c_reg ?_))))
    refine s_move (v := .slice (some ⟨g2, 0, none⟩) (x.kids.length + 1) (x.kids.length + 1)) (ev_t rfl e13) (w0 rfl) ?_
    refine s_move (v := .int .i64 ((i : Nat) : Int)) (ev_t rfl e14) (w0 rfl) ?_
    refine s_move (v := .slice A x.kids.length c) (ev_t rfl e11) (w0 rfl) ?_
    refine s_move (v := .int .i64 ((i : Nat) : Int)) (ev_t rfl e14) (w0 rfl) ?_
    obtain ⟨b16, o17, x18, csx18, hA19, hx20, hR21, hc22⟩ := Row.at_ hr i (by omega)
    obtain rfl := Ex.kid_of hx20
    obtain ⟨A23, c24, rfl, ho25, hr26⟩ := RE.open_ hR21
    refine s_indexR (j := i) F_l34 (ev_t rfl rfl) hA19 (ev_t rfl rfl) rfl (by omega) (w0 rfl) ?_
    refine s_loadL (cs := [.int .i8 ((x.kid i).op), .string ((x.kid i).t.v), .int .i8 ((x.kid i).t.l.k), .int .i64 ((x.kid i).t.l.n), .string ((x.kid i).t.l.s), .slice A23 ((x.kid i).kids.length) c24]) (ca := #[.int .i8 ((x.kid i).op), .string ((x.kid i).t.v), .int .i8 ((x.kid i).t.l.k), .int .i64 ((x.kid i).t.l.n), .string ((x.kid i).t.l.s), .slice A23 ((x.kid i).kids.length) c24]) F_m36 (ev_t rfl rfl) rfl rfl (sub_cells (cells_ext x7 hc22) 0 (cs2 := [.int .i8 ((x.kid i).op), .string ((x.kid i).t.v), .int .i8 ((x.kid i).t.l.k), .int .i64 ((x.kid i).t.l.n), .string ((x.kid i).t.l.s), .slice A23 ((x.kid i).kids.length) c24]) rfl) (w0 rfl) ?_
    refine s_call F_e30 (w0 rfl) ev_f (m1 (ev_t rfl rfl)) (args := #[.agg #[.int .i8 ((x.kid i).op), .string ((x.kid i).t.v), .int .i8 ((x.kid i).t.l.k), .int .i64 ((x.kid i).t.l.n), .string ((x.kid i).t.l.s), .slice A23 ((x.kid i).kids.length) c24]]) rfl (ih i (x.kid i) (kid_there (x := x) (j := i) (by omega)) A23 c24 _ ho25 (Row.extE hr26 x7) (Tabs.ext tb x7)) ?_
    rintro _ w28 ⟨b27, rfl, tw29, x30⟩
    refine s_indexR (j := i) F_l34 (ev_t rfl rfl) rfl (ev_t rfl rfl) rfl (by omega) (w0 rfl) ?_
    refine s_storeF (i := i) (l := [.int .i8 ((x.kid i).op), .string ((x.kid i).t.v), .int .i8 ((x.kid i).t.l.k), .int .i64 ((x.kid i).t.l.n), .string ((x.kid i).t.l.s), .slice (some ⟨b27, 0, none⟩) ((x.kid i).kids.length) ((x.kid i).kids.length + 1)]) (Fill.cast (Fill.ext i10 x30 (fun j_ l_ h_ => EE.keep h_ x30 (fun _ h_ => h_.elim))) (by omega)) (by omega) F_sz36 (ev_t rfl rfl) (ev_t rfl rfl) rfl rfl rfl (fun w_ k_ => ⟨fun j_ l_ _ h_ => EE.keep h_ k_ (fun i_ q_ => by omega), EE.keep (EE.of_tw (kid_there (x := x) (j := i) (by omega)) ho25 tw29 (by have a_ := Fill.lt i10; omega)) k_ (fun i_ q_ => by omega)⟩) (w0 rfl) ?_
    intro w31 fl32 k33
    refine c_done (n_block (n_then (c_reg ?_)))
    refine s_move (v := .int .i64 ((i : Nat) : Int)) (ev_t rfl e14) (w0 rfl) ?_
    refine s_add (r := ((i + 1 : Nat) : Int)) (ev_t rfl rfl) ev_c (by omega) (by omega) (w0 rfl) ?_
    refine s_assign (v := .int .i64 ((i + 1 : Nat) : Int)) (ev_t rfl rfl) (w0 rfl) ?_
    refine c_done ?_
    exact ⟨(i + 1), _, rfl, ⟨(Keep.then_ (Ext.trans x7 x30) k33 (fun i_ hi_ h_ => by have a_ := ge_g2; omega)), by omega, fl32, e11, e12, e13, rfl⟩, (show x.kids.length - (i + 1) < x.kids.length - i by omega)⟩
  · refine c_cond0 (vb (ev_t rfl rfl) (decide_eq_false h15)) ?_
    refine c_exit (e_then (e_then (e_hit (n_then (c_seq (c_reg ?_))))))
    refine s_move (v := .slice (some ⟨g2, 0, none⟩) (x.kids.length + 1) (x.kids.length + 1)) (ev_t rfl e13) (w0 rfl) ?_
    refine s_move (v := .slice A x.kids.length c) (ev_t rfl e11) (w0 rfl) ?_
    refine s_lenL F_l34 (ev_t rfl rfl) (w0 rfl) ?_
    refine s_call F_e99 (w0 rfl) ev_f (m1 ev_c) (args := #[.int .i64 777777]) rfl (l_markExpr 777777 _ (Tabs.ext tb x7) (by omega)) ?_
    rintro _ w35 ⟨rfl, x34⟩
    refine s_indexR (j := x.kids.length) F_l34 (ev_t rfl rfl) rfl (ev_t rfl rfl) rfl (by omega) (w0 rfl) ?_
    refine s_storeF (i := x.kids.length) (l := [.int .i8 99, .string ((⟨#[35]⟩ : ByteArray) ++ itoaB 777777), .int .i8 0, .int .i64 0, .string (⟨#[]⟩ : ByteArray), .slice none 0 0]) (Fill.cast (Fill.ext i10 x34 (fun j_ l_ h_ => EE.keep h_ x34 (fun _ h_ => h_.elim))) (by omega)) (by omega) F_sz36 (ev_t rfl rfl) (ev_t rfl rfl) rfl rfl rfl (fun w_ k_ => ⟨fun j_ l_ _ h_ => EE.keep h_ k_ (fun i_ q_ => by omega), EE.keep EE.mark k_ (fun i_ q_ => by omega)⟩) (w0 rfl) ?_
    intro w36 fl37 k38
    refine c_done (n_then (c_seq (c_reg ?_)))
    refine s_move (v := .slice (some ⟨g2, 0, none⟩) (x.kids.length + 1) (x.kids.length + 1)) (ev_t rfl e13) (w0 rfl) ?_
    refine s_move (v := .slice A x.kids.length c) (ev_t rfl e11) (w0 rfl) ?_
    refine s_lenL F_l34 (ev_t rfl rfl) (w0 rfl) ?_
    refine s_sliceH (h := x.kids.length) F_uE34 F_iE34 (ev_t rfl rfl) (ev_t rfl rfl) (by omega) (w0 rfl) ?_
    refine s_assign (v := .slice (some ⟨g2, 0, none⟩) x.kids.length (x.kids.length + 1)) (ev_t rfl rfl) (w0 rfl) ?_
    refine c_done (n_then (c_ret ?_))
    refine ret1 (v := .slice (some ⟨g2, 0, none⟩) x.kids.length (x.kids.length + 1)) rfl rfl rfl ?_
    exact ⟨_, rfl, g2, rfl, TwE.of_fill (Fill.cast fl37 (by omega)) (by omega) (by omega), (Keep.then_ (Ext.trans x7 x34) k38 (fun i_ hi_ h_ => by have a_ := ge_g2; omega))⟩
theorem l_TwinExpr : ∀ (k : Nat) (x : Ex), SizeOf.sizeOf x < k → ∀ (A : Option Addr) (c : Nat) (w : World), x.okc c → Row RE 6 w A x.kids → Tabs Tryz.prog w → Rt Tryz.prog 30 #[.agg #[.int .i8 x.op, .string x.t.v, .int .i8 x.t.l.k, .int .i64 x.t.l.n, .string x.t.l.s, .slice A x.kids.length c]] w fun v w' => ∃ b, v = .agg #[.int .i8 x.op, .string x.t.v, .int .i8 x.t.l.k, .int .i64 x.t.l.n, .string x.t.l.s, .slice (some ⟨b, 0, none⟩) x.kids.length (x.kids.length + 1)] ∧ TwE w.heap.size w' b x.kids ∧ Ext w w' := by
  intro k
  induction k with
  | zero => intro x h; omega
  | succ k ih =>
    intro x hk A c w ho hr tb
    exact l_TwinExpr_of x A c w ho hr tb (fun A c w ho hr tb => l_TwinExprs_of x A c w ho hr tb (fun j y hy A c w ho hr tb => ih y (by have := Ex.kid_lt hy; omega) A c w ho hr tb))
end Go.Proofs.Zw
