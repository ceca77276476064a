/- YtjjkfbjidpolmaaDoorDM: part of the proof of this seat, by an AI agent: walks of the functions that the law reaches. No condition of its own but those that its theorems state. -/
import Derived.Test.YtjjkfbjidpolmaaDoorDL
set_option linter.unusedVariables false
set_option linter.unusedSimpArgs false
set_option maxRecDepth 10000
namespace Go.Proofs.Dw
open Go Go.Wk Go.Proofs Go.Lib
attribute [local irreducible] Go.wpList Go.wpStill Go.wpQuiet Go.Code.wp Go.Calls
theorem F_e39 : enterable Tryd.prog 39 = true := by kernel_rfl
theorem F_e54 : enterable Tryd.prog 54 = true := by kernel_rfl
theorem F_e55 : enterable Tryd.prog 55 = true := by kernel_rfl
theorem F_e56 : enterable Tryd.prog 56 = true := by kernel_rfl
theorem F_e85 : enterable Tryd.prog 85 = true := by kernel_rfl
theorem F_m46 : many Tryd.prog 46 2 = true := by kernel_rfl
theorem F_o72 : one Tryd.prog 72 = true := by kernel_rfl
set_option maxHeartbeats 4000000 in
theorem p_columnsA (nm : ByteArray) (n : Nat) (l : List ByteArray) (g p1 p2 : Nat) (s0 : ByteArray) (wz : World) (w : World) (x0 : Ext wz w) (tb : Tabs Tryd.prog wz) (hb : BW 5 85 wz.heap.size w g s0) (hnl : n = l.length) (hn : l.length ≤ 24) (hM : ∀ i, i < l.length → (l.getD i ⟨#[]⟩).size ≤ 1000) (hs : s0.size + nm.size + 30000 ≤ 1000000000000) (hone : ∀ (i : Nat) (w' : World) (s1 : ByteArray), i < l.length → Ext wz w' → Bld 5 g w w' → BW 5 85 wz.heap.size w' g s1 → s1.size ≤ 1000000000000 → Rt Tryd.prog 85 #[.int .i64 ((i : Nat) : Int), .pointer (some ⟨p1, 0, none⟩), .pointer (some ⟨p2, 0, none⟩)] w' fun v w2 => v = .tuple #[] ∧ Wr 5 85 wz.heap.size g (s1 ++ l.getD i ⟨#[]⟩) w' w2) :
    Rt Tryd.prog 39 #[.pointer (some ⟨g, 0, none⟩), .string nm, .int .i64 ((n : Nat) : Int), .func (.func 85) #[] #[.pointer (some ⟨p1, 0, none⟩), .pointer (some ⟨p2, 0, none⟩)]] w fun v w' => v = .tuple #[] ∧ Wr 5 85 wz.heap.size g (s0 ++ colW nm l) w w' := by
  refine enter Tryd.func39 rfl (l := [.pointer (some ⟨g, 0, none⟩), .string nm, .int .i64 ((n : Nat) : Int), .func (.func 85) #[] #[.pointer (some ⟨p1, 0, none⟩), .pointer (some ⟨p2, 0, none⟩)]]) rfl Tryd.ntmps39 (Nat.le_of_ble_eq_true rfl) ?_
  subst hnl
  have hB_ := Keep.size x0
  refine c_seq ?_
  refine c_reg ?_
  refine s_move (v := .pointer (some ⟨g, 0, none⟩)) (ev_t rfl rfl) (w0 rfl) ?_
  refine s_move (v := .string nm) (ev_t rfl rfl) (w0 rfl) ?_
  refine s_bslice (vs := [(0, .string nm)]) (cs := #[.string nm]) (b1 (ev_t rfl rfl)) (bs122_1_0s nm) (w0 rfl) ?_
  intro w2 g1 n3
  have ne_g1 : g1 ≠ g := by have a_ := NewB.eq n3; have b_ := BW.lt hb; omega
  refine s_call F_e35 (w0 rfl) ev_f (m2 (ev_t rfl rfl) (ev_t rfl rfl)) (args := #[.pointer (some ⟨g, 0, none⟩), .slice (some ⟨g1, 0, none⟩) 1 1]) rfl (p_put 85 _ g g1 (s0) [nm] _ (BW.ext hb (NewB.ext n3)) (Nat.le_trans hB_ (Keep.size (NewB.ext n3))) (by decide) F_lies85 (NewB.blk n3) (by simp only [catL, ByteArray.size_append, z0, z1, z2, z3, z4, z5, z6]; omega) (by simp)) ?_
  rintro _ w4 ⟨rfl, wr5⟩
  refine c_done ?_
  refine n_then ?_
  refine c_seq ?_
  refine c_seq ?_
  refine c_reg ?_
  refine s_move (v := .int .i64 ((l.length : Nat) : Int)) (ev_t rfl rfl) (w0 rfl) ?_
  refine s_move (v := .int .i64 0) ev_c (w0 rfl) ?_
  refine c_done ?_
  refine n_then ?_
  refine c_block ?_
  refine c_loop (α := Nat) (fun (i : Nat) env_ w_ => Wr 5 85 wz.heap.size g (s0 ++ nm ++ colP l i) w w_ ∧ i ≤ l.length ∧ env_ 0 = .pointer (some ⟨g, 0, none⟩) ∧ env_ 2 = .int .i64 ((l.length : Nat) : Int) ∧ env_ 3 = .func (.func 85) #[] #[.pointer (some ⟨p1, 0, none⟩), .pointer (some ⟨p2, 0, none⟩)] ∧ env_ 13 = .int .i64 ((l.length : Nat) : Int) ∧ env_ 14 = .int .i64 ((i : Nat) : Int)) (fun i => l.length - i) (0) ⟨(Wr.cast (Wr.then_ (Wr.of_ext hb (NewB.ext n3) hB_) wr5) (by simp [catL, app_nil, colP])), Nat.zero_le _, rfl, rfl, rfl, rfl, rfl⟩ ?_
  rintro i env8 w6 ⟨x7, i9, e10, e11, e12, e13, e14⟩
  have hP_ := colP_le hM i i9
  have hM2_ := hM i
  refine c_seq ?_
  refine c_reg ?_
  refine s_cmp (r := decide (((i : Nat) : Int) < ((l.length : Nat) : Int))) (ev_t rfl e14) (ev_t rfl e13) rfl (w0 rfl) ?_
  refine c_done ?_
  refine n_then ?_
  refine c_seq ?_
  by_cases h15 : ((i : Nat) : Int) < ((l.length : Nat) : Int)
  · refine c_cond1 (vb (ev_t rfl rfl) (decide_eq_true h15)) ?_
    refine c_skip ?_
    refine n_then ?_
    refine c_seq ?_
    refine c_block ?_
    refine c_seq ?_
    refine c_reg ?_
    refine s_move (v := .int .i64 ((i : Nat) : Int)) (ev_t rfl e14) (w0 rfl) ?_
    refine s_assign (v := .int .i64 ((i : Nat) : Int)) (ev_t rfl rfl) (w0 rfl) ?_
    refine c_done ?_
    refine n_then ?_
    refine c_seq ?_
    refine c_seq ?_
    refine c_reg ?_
    refine s_move (v := .int .i64 ((i : Nat) : Int)) (ev_t rfl rfl) (w0 rfl) ?_
    refine s_cmp (r := decide (((i : Nat) : Int) = 0)) (ev_t rfl rfl) ev_c rfl (w0 rfl) ?_
    refine c_done ?_
    refine n_then ?_
    by_cases h16 : ((i : Nat) : Int) = 0
    · refine c_cond1 (vb (ev_t rfl rfl) (decide_eq_true h16)) ?_
      refine c_reg ?_
      refine s_move (v := .pointer (some ⟨g, 0, none⟩)) (ev_t rfl e10) (w0 rfl) ?_
      refine s_bslice (vs := [(0, .string (⟨#[40]⟩ : ByteArray))]) (cs := #[.string (⟨#[40]⟩ : ByteArray)]) (b1 ev_c) (bs122_1_0s (⟨#[40]⟩ : ByteArray)) (w0 rfl) ?_
      intro w18 g17 n19
      have ne_g17 : g17 ≠ g := by have a_ := NewB.eq n19; have b_ := BW.lt (Wr.bw x7); omega
      refine s_call F_e35 (w0 rfl) ev_f (m2 (ev_t rfl rfl) (ev_t rfl rfl)) (args := #[.pointer (some ⟨g, 0, none⟩), .slice (some ⟨g17, 0, none⟩) 1 1]) rfl (p_put 85 _ g g17 (s0 ++ nm ++ colP l i) [(⟨#[40]⟩ : ByteArray)] _ (BW.ext (Wr.bw x7) (NewB.ext n19)) (Nat.le_trans (Nat.le_trans hB_ (Wr.size x7)) (Keep.size (NewB.ext n19))) (by decide) F_lies85 (NewB.blk n19) (by simp only [catL, ByteArray.size_append, z0, z1, z2, z3, z4, z5, z6]; omega) (by simp)) ?_
      rintro _ w20 ⟨rfl, wr21⟩
      refine c_done ?_
      refine n_then ?_
      refine c_reg ?_
      refine s_move (v := .func (.func 85) #[] #[.pointer (some ⟨p1, 0, none⟩), .pointer (some ⟨p2, 0, none⟩)]) (ev_t rfl e12) (w0 rfl) ?_
      refine s_move (v := .int .i64 ((i : Nat) : Int)) (ev_t rfl rfl) (w0 rfl) ?_
      refine s_call F_e85 (w0 rfl) (ev_t rfl rfl) (m1 (ev_t rfl rfl)) (args := #[.int .i64 ((i : Nat) : Int), .pointer (some ⟨p1, 0, none⟩), .pointer (some ⟨p2, 0, none⟩)]) rfl (hone i _ (s0 ++ nm ++ colP l i ++ (catL [(⟨#[40]⟩ : ByteArray)])) (by omega) (Wr.after wr21 (Ext.trans (Wr.after x7 x0 rfl) (NewB.ext n19)) rfl) (Wr.bld (Wr.then_ (Wr.ext x7 (NewB.ext n19) hB_) wr21)) (Wr.bw wr21) (by simp only [catL, ByteArray.size_append, z0, z1, z2]; omega)) ?_
      rintro _ w22 ⟨rfl, wr23⟩
      refine c_done ?_
      refine n_block ?_
      refine n_then ?_
      refine c_reg ?_
      refine s_add (r := ((i + 1 : Nat) : Int)) (ev_t rfl e14) ev_c (by omega) (by omega) (w0 rfl) ?_
      refine s_move (v := .int .i64 ((i + 1 : Nat) : Int)) (ev_t rfl rfl) (w0 rfl) ?_
      refine c_done ?_
      exact ⟨(i + 1), _, rfl, ⟨(Wr.cast (Wr.then_ (Wr.then_ (Wr.ext x7 (NewB.ext n19) hB_) wr21) wr23) (by simp only [colP]; (first | rw [if_pos (by omega)] | rw [if_neg (by omega)]); simp only [catL, app_nil, app_assoc])), by omega, e10, e11, e12, e13, rfl⟩, (show l.length - (i + 1) < l.length - i by omega)⟩
    · refine c_cond0 (vb (ev_t rfl rfl) (decide_eq_false h16)) ?_
      refine c_reg ?_
      refine s_move (v := .pointer (some ⟨g, 0, none⟩)) (ev_t rfl e10) (w0 rfl) ?_
      refine s_bslice (vs := [(0, .string (⟨#[44, 32]⟩ : ByteArray))]) (cs := #[.string (⟨#[44, 32]⟩ : ByteArray)]) (b1 ev_c) (bs122_1_0s (⟨#[44, 32]⟩ : ByteArray)) (w0 rfl) ?_
      intro w25 g24 n26
      have ne_g24 : g24 ≠ g := by have a_ := NewB.eq n26; have b_ := BW.lt (Wr.bw x7); omega
      refine s_call F_e35 (w0 rfl) ev_f (m2 (ev_t rfl rfl) (ev_t rfl rfl)) (args := #[.pointer (some ⟨g, 0, none⟩), .slice (some ⟨g24, 0, none⟩) 1 1]) rfl (p_put 85 _ g g24 (s0 ++ nm ++ colP l i) [(⟨#[44, 32]⟩ : ByteArray)] _ (BW.ext (Wr.bw x7) (NewB.ext n26)) (Nat.le_trans (Nat.le_trans hB_ (Wr.size x7)) (Keep.size (NewB.ext n26))) (by decide) F_lies85 (NewB.blk n26) (by simp only [catL, ByteArray.size_append, z0, z1, z2, z3, z4, z5, z6]; omega) (by simp)) ?_
      rintro _ w27 ⟨rfl, wr28⟩
      refine c_done ?_
      refine n_then ?_
      refine c_reg ?_
      refine s_move (v := .func (.func 85) #[] #[.pointer (some ⟨p1, 0, none⟩), .pointer (some ⟨p2, 0, none⟩)]) (ev_t rfl e12) (w0 rfl) ?_
      refine s_move (v := .int .i64 ((i : Nat) : Int)) (ev_t rfl rfl) (w0 rfl) ?_
      refine s_call F_e85 (w0 rfl) (ev_t rfl rfl) (m1 (ev_t rfl rfl)) (args := #[.int .i64 ((i : Nat) : Int), .pointer (some ⟨p1, 0, none⟩), .pointer (some ⟨p2, 0, none⟩)]) rfl (hone i _ (s0 ++ nm ++ colP l i ++ (catL [(⟨#[44, 32]⟩ : ByteArray)])) (by omega) (Wr.after wr28 (Ext.trans (Wr.after x7 x0 rfl) (NewB.ext n26)) rfl) (Wr.bld (Wr.then_ (Wr.ext x7 (NewB.ext n26) hB_) wr28)) (Wr.bw wr28) (by simp only [catL, ByteArray.size_append, z0, z1, z2]; omega)) ?_
      rintro _ w29 ⟨rfl, wr30⟩
      refine c_done ?_
      refine n_block ?_
      refine n_then ?_
      refine c_reg ?_
      refine s_add (r := ((i + 1 : Nat) : Int)) (ev_t rfl e14) ev_c (by omega) (by omega) (w0 rfl) ?_
      refine s_move (v := .int .i64 ((i + 1 : Nat) : Int)) (ev_t rfl rfl) (w0 rfl) ?_
      refine c_done ?_
      exact ⟨(i + 1), _, rfl, ⟨(Wr.cast (Wr.then_ (Wr.then_ (Wr.ext x7 (NewB.ext n26) hB_) wr28) wr30) (by simp only [colP]; (first | rw [if_pos (by omega)] | rw [if_neg (by omega)]); simp only [catL, app_nil, app_assoc])), by omega, e10, e11, e12, e13, rfl⟩, (show l.length - (i + 1) < l.length - i by omega)⟩
  · refine c_cond0 (vb (ev_t rfl rfl) (decide_eq_false h15)) ?_
    refine c_exit ?_
    refine e_then ?_
    refine e_then ?_
    refine e_hit ?_
    refine n_then ?_
    refine c_seq ?_
    refine c_reg ?_
    refine s_move (v := .int .i64 ((l.length : Nat) : Int)) (ev_t rfl e11) (w0 rfl) ?_
    refine s_cmp (r := decide (0 < ((l.length : Nat) : Int))) (ev_t rfl rfl) ev_c rfl (w0 rfl) ?_
    refine c_done ?_
    refine n_then ?_
    by_cases h31 : 0 < ((l.length : Nat) : Int)
    · refine c_cond1 (vb (ev_t rfl rfl) (decide_eq_true h31)) ?_
      refine c_reg ?_
      refine s_move (v := .pointer (some ⟨g, 0, none⟩)) (ev_t rfl e10) (w0 rfl) ?_
      refine s_bslice (vs := [(0, .string (⟨#[41]⟩ : ByteArray))]) (cs := #[.string (⟨#[41]⟩ : ByteArray)]) (b1 ev_c) (bs122_1_0s (⟨#[41]⟩ : ByteArray)) (w0 rfl) ?_
      intro w33 g32 n34
      have ne_g32 : g32 ≠ g := by have a_ := NewB.eq n34; have b_ := BW.lt (Wr.bw x7); omega
      refine s_call F_e35 (w0 rfl) ev_f (m2 (ev_t rfl rfl) (ev_t rfl rfl)) (args := #[.pointer (some ⟨g, 0, none⟩), .slice (some ⟨g32, 0, none⟩) 1 1]) rfl (p_put 85 _ g g32 (s0 ++ nm ++ colP l i) [(⟨#[41]⟩ : ByteArray)] _ (BW.ext (Wr.bw x7) (NewB.ext n34)) (Nat.le_trans (Nat.le_trans hB_ (Wr.size x7)) (Keep.size (NewB.ext n34))) (by decide) F_lies85 (NewB.blk n34) (by simp only [catL, ByteArray.size_append, z0, z1, z2, z3, z4, z5, z6]; omega) (by simp)) ?_
      rintro _ w35 ⟨rfl, wr36⟩
      refine c_done ?_
      refine ret0 rfl ?_
      exact ⟨_, rfl, rfl, Wr.cast (Wr.then_ (Wr.ext x7 (NewB.ext n34) hB_) wr36) (by (have e_ : i = l.length := by omega); subst e_; unfold colW; first | (rw [if_neg (by omega)]; simp only [catL, app_nil, app_assoc]; done) | ((have e2_ : l.length = 0 := by omega); rw [if_pos e2_, e2_]; simp [colP, app_nil]))⟩
    · refine c_cond0 (vb (ev_t rfl rfl) (decide_eq_false h31)) ?_
      refine c_skip ?_
      refine ret0 rfl ?_
      exact ⟨_, rfl, rfl, Wr.cast x7 (by (have e_ : i = l.length := by omega); subst e_; unfold colW; first | (rw [if_neg (by omega)]; simp only [catL, app_nil, app_assoc]; done) | ((have e2_ : l.length = 0 := by omega); rw [if_pos e2_, e2_]; simp [colP, app_nil]))⟩
set_option maxHeartbeats 4000000 in
theorem p_atom1 (i : Nat) (x : At) (A : Option Addr) (c g p1 p2 : Nat) (s0 : ByteArray) (wz : World) (w : World) (x0 : Ext wz w) (tb : Tabs Tryd.prog wz) (hb : BW 5 85 wz.heap.size w g s0) (hr : Row RT 4 wz A x.args) (hp1 : w.heap[p1]? = some (.cells #[.pointer (some ⟨g, 0, none⟩)] 72 (0, 0))) (hp2 : w.heap[p2]? = some (.cells #[.string x.p, .slice A x.args.length c] 46 (0, 0))) (hi : i < x.args.length) (hv : tmB (tmAt x.args i) = true) (hs : s0.size ≤ 1000000000000) :
    Rt Tryd.prog 85 #[.int .i64 ((i : Nat) : Int), .pointer (some ⟨p1, 0, none⟩), .pointer (some ⟨p2, 0, none⟩)] w fun v w' => v = .tuple #[] ∧ Wr 5 85 wz.heap.size g (s0 ++ termW (tmAt x.args i)) w w' := by
  refine enter Tryd.func85 rfl (l := [.int .i64 ((i : Nat) : Int), .pointer (some ⟨p1, 0, none⟩), .pointer (some ⟨p2, 0, none⟩)]) rfl Tryd.ntmps85 (Nat.le_of_ble_eq_true rfl) ?_
  have hB_ := Keep.size x0
  refine c_tail 6 mixed (by kernel_rfl) rfl rfl ?_
  intro w1 x2
  refine t_val (v := .pointer (some ⟨g, 0, none⟩)) (w0 rfl) (r_load (v := .pointer (some ⟨g, 0, none⟩)) F_o72 (ev_t rfl rfl) (cell_of_blk (i := 0) (Ext.blk x2 hp1) rfl)) ?_
  refine t_val (v := .pointer (some ⟨p2, 1, none⟩)) (w0 rfl) (r_field (off := 1) (o' := 1) F_f46_1 (ev_t rfl rfl) rfl) ?_
  refine t_val (v := .slice A x.args.length c) (w0 rfl) (r_load (v := .slice A x.args.length c) F_o44 (ev_t rfl rfl) (cell_of_blk (i := 1) (Ext.blk x2 hp2) rfl)) ?_
  refine t_val (v := .int .i64 ((i : Nat) : Int)) (w0 rfl) (r_move (v := .int .i64 ((i : Nat) : Int)) (ev_t rfl rfl)) ?_
  obtain ⟨b3, o4, x5, csx5, hA6, hx7, hR8, hc9⟩ := Row.at_ hr i (by omega)
  obtain rfl := tmAt_of hx7
  obtain ⟨rfl, wf10⟩ := hR8
  refine t_val (v := .pointer (some ⟨b3, o4 + i * 4, none⟩)) (w0 rfl) (r_indexR (j := i) F_l44 (ev_t rfl rfl) hA6 (ev_t rfl rfl) rfl (by omega)) ?_
  refine t_val (v := .agg #[.string ((tmAt x.args i).v), .int .i8 ((tmAt x.args i).l.k), .int .i64 ((tmAt x.args i).l.n), .string ((tmAt x.args i).l.s)]) (w0 rfl) (r_loadL (cs := [.string ((tmAt x.args i).v), .int .i8 ((tmAt x.args i).l.k), .int .i64 ((tmAt x.args i).l.n), .string ((tmAt x.args i).l.s)]) (ca := #[.string ((tmAt x.args i).v), .int .i8 ((tmAt x.args i).l.k), .int .i64 ((tmAt x.args i).l.n), .string ((tmAt x.args i).l.s)]) F_m28 (ev_t rfl rfl) rfl rfl (sub_cells (cells_ext x2 (cells_ext x0 hc9)) 0 (cs2 := [.string ((tmAt x.args i).v), .int .i8 ((tmAt x.args i).l.k), .int .i64 ((tmAt x.args i).l.n), .string ((tmAt x.args i).l.s)]) rfl)) ?_
  refine t_done ?_
  refine s_call F_e41 (w0 rfl) ev_f (m2 (ev_t rfl rfl) (ev_t rfl rfl)) (args := #[.pointer (some ⟨g, 0, none⟩), .agg #[.string ((tmAt x.args i).v), .int .i8 ((tmAt x.args i).l.k), .int .i64 ((tmAt x.args i).l.n), .string ((tmAt x.args i).l.s)]]) rfl (p_term (tmAt x.args i) g (s0) wz _ (Ext.trans x0 x2) tb (BW.ext hb x2) wf10 (by have := termW_size hv wf10; omega)) ?_
  rintro _ w11 ⟨rfl, wr12⟩
  refine c_done ?_
  refine ret0 rfl ?_
  exact ⟨_, rfl, rfl, Wr.cast (Wr.then_ (Wr.of_ext hb x2 hB_) wr12) (rfl)⟩
set_option maxHeartbeats 4000000 in
theorem p_atom (x : At) (A : Option Addr) (c : Nat) (g : Nat) (s0 : ByteArray) (wz : World) (w : World) (x0 : Ext wz w) (tb : Tabs Tryd.prog wz) (hb : BW 5 85 wz.heap.size w g s0) (ho : x.okc c) (hr : Row RT 4 wz A x.args) (hat : atB x = true) (hs : s0.size + 40000 ≤ 1000000000000) :
    Rt Tryd.prog 56 #[.pointer (some ⟨g, 0, none⟩), .agg #[.string x.p, .slice A x.args.length c]] w fun v w' => v = .tuple #[] ∧ Wr 5 85 wz.heap.size g (s0 ++ atW x) w w' := by
  refine enter Tryd.func56 rfl (l := [.pointer (some ⟨g, 0, none⟩), .agg #[.string x.p, .slice A x.args.length c]]) rfl Tryd.ntmps56 (Nat.le_of_ble_eq_true rfl) ?_
  have hB_ := Keep.size x0
  have hl_ := At.okc.l ho
  have hc_ := At.okc.c ho
  have hp_ := At.okc.p ho
  obtain ⟨_, hpz_, hn_, hq_⟩ := atB_parts hat
  refine c_seq ?_
  refine c_reg ?_
  refine s_box (v := .pointer (some ⟨g, 0, none⟩)) (cs := #[.pointer (some ⟨g, 0, none⟩)]) (w0 rfl) (ev_t rfl rfl) rfl ?_
  intro w2 g1 n3
  have ne_g1 : g1 ≠ g := by have a_ := NewB.eq n3; have b_ := BW.lt hb; omega
  refine s_box (v := .agg #[.string x.p, .slice A x.args.length c]) (cs := #[.string x.p, .slice A x.args.length c]) (w0 rfl) (ev_t rfl rfl) rfl ?_
  intro w5 g4 n6
  have ne_g4 : g4 ≠ g := by have a_ := NewB.eq n6; have b_ := BW.lt (BW.ext hb (NewB.ext n3)); omega
  refine c_done ?_
  refine n_then ?_
  refine c_reg ?_
  refine s_load (v := .pointer (some ⟨g, 0, none⟩)) F_o72 (ev_t rfl rfl) (cell_of_blk (i := 0) (Ext.blk (NewB.ext n6) (NewB.blk n3)) rfl) (w0 rfl) ?_
  refine s_field (off := 0) (o' := 0) F_f46_0 (ev_t rfl rfl) rfl (w0 rfl) ?_
  refine s_load (v := .string x.p) F_o9 (ev_t rfl rfl) (cell_of_blk (i := 0) (NewB.blk n6) rfl) (w0 rfl) ?_
  refine s_field (off := 1) (o' := 1) F_f46_1 (ev_t rfl rfl) rfl (w0 rfl) ?_
  refine s_load (v := .slice A x.args.length c) F_o44 (ev_t rfl rfl) (cell_of_blk (i := 1) (NewB.blk n6) rfl) (w0 rfl) ?_
  refine s_lenL F_l44 (ev_t rfl rfl) (w0 rfl) ?_
  refine s_makeFunc (vf := #[]) (vc := #[.pointer (some ⟨g1, 0, none⟩), .pointer (some ⟨g4, 0, none⟩)]) m0 (m2 (ev_t rfl rfl) (ev_t rfl rfl)) (w0 rfl) ?_
  refine s_call F_e39 (w0 rfl) ev_f (m4 (ev_t rfl rfl) (ev_t rfl rfl) (ev_t rfl rfl) (ev_t rfl rfl)) (args := #[.pointer (some ⟨g, 0, none⟩), .string x.p, .int .i64 (x.args.length : Int), .func (.func 85) #[] #[.pointer (some ⟨g1, 0, none⟩), .pointer (some ⟨g4, 0, none⟩)]]) rfl (p_columnsA x.p _ (x.args.map termW) g g1 g4 (s0) wz _ (Ext.trans (Ext.trans x0 (NewB.ext n3)) (NewB.ext n6)) tb (BW.ext (BW.ext hb (NewB.ext n3)) (NewB.ext n6)) (by rw [List.length_map]) (by rw [List.length_map]; exact hn_) (fun i_ hi_ => by rw [List.length_map] at hi_; rw [termW_at hi_]; have z_ := termW_size (hq_ i_ hi_) (RT_wf hr hi_); omega) (by omega) (fun i_ w_ s_ hi_ x_ bl_ hb_ hs_ => by rw [List.length_map] at hi_; rw [termW_at hi_]; exact p_atom1 i_ x A c g g1 g4 s_ wz w_ x_ tb hb_ hr (Bld.blk bl_ (Ext.blk (NewB.ext n6) (NewB.blk n3)) (Or.inl (by decide)) ne_g1) (Bld.blk bl_ (NewB.blk n6) (Or.inl (by decide)) ne_g4) hi_ (hq_ i_ hi_) hs_)) ?_
  rintro _ w7 ⟨rfl, wr8⟩
  refine c_done ?_
  refine ret0 rfl ?_
  exact ⟨_, rfl, rfl, Wr.cast (Wr.then_ (Wr.of_ext hb (Ext.trans (NewB.ext n3) (NewB.ext n6)) hB_) wr8) (rfl)⟩
set_option maxHeartbeats 4000000 in
theorem p_toldA (x : At) (A : Option Addr) (c : Nat) (w : World) (ho : x.okc c) (hr : Row RT 4 w A x.args) (tb : Tabs Tryd.prog w) :
    Rt Tryd.prog 54 #[.agg #[.string x.p, .slice A x.args.length c], .func (.func 55) #[] #[], .func (.func 56) #[] #[]] w fun v w' => v = .tuple #[.string (if atB x then atW x else ⟨#[]⟩), .int .i64 (code (atB x))] ∧ Ext w w' := by
  refine enter Tryd.func54 rfl (l := [.agg #[.string x.p, .slice A x.args.length c], .func (.func 55) #[] #[], .func (.func 56) #[] #[]]) rfl Tryd.ntmps54 (Nat.le_of_ble_eq_true rfl) ?_
  have hl_ := At.okc.l ho
  have hc_ := At.okc.c ho
  have hp_ := At.okc.p ho
  refine c_seq ?_
  refine c_reg ?_
  refine s_box (v := .agg #[.string x.p, .slice A x.args.length c]) (cs := #[.string x.p, .slice A x.args.length c]) (w0 rfl) (ev_t rfl rfl) rfl ?_
  intro w2 g1 n3
  refine s_assign (v := .string (⟨#[]⟩ : ByteArray)) ev_c (w0 rfl) ?_
  refine s_assign (v := .int .i64 0) ev_c (w0 rfl) ?_
  refine c_done ?_
  refine n_then ?_
  refine c_seq ?_
  refine c_seq ?_
  refine c_reg ?_
  refine s_move (v := .func (.func 55) #[] #[]) (ev_t rfl rfl) (w0 rfl) ?_
  refine s_loadL (cs := [.string x.p, .slice A x.args.length c]) (ca := #[.string x.p, .slice A x.args.length c]) F_m46 (ev_t rfl rfl) rfl rfl (blk_cells (NewB.blk n3) 0 (cs := [.string x.p, .slice A x.args.length c]) rfl) (w0 rfl) ?_
  refine s_call F_e55 (w0 rfl) (ev_t rfl rfl) (m1 (ev_t rfl rfl)) (args := #[.agg #[.string x.p, .slice A x.args.length c]]) rfl (t_CheckAtom x A c _ ho (Row.extT hr (NewB.ext n3))) ?_
  rintro _ w5 ⟨rfl, x4⟩
  refine s_cmp (r := !(atB x)) (ev_t rfl rfl) ev_c (ci_tn (b := (atB x)) (by decide)) (w0 rfl) ?_
  refine c_done ?_
  refine n_then ?_
  rcases Bool.eq_false_or_eq_true (atB x) with h6 | h6
  · refine c_cond0 (vb (ev_t rfl rfl) (nbt h6)) ?_
    refine c_skip ?_
    refine n_then ?_
    refine c_seq ?_
    refine c_reg ?_
    refine s_alloc (cs := #[.pointer none, .slice none 0 0]) (w0 rfl) F_z85 rfl ?_
    intro w8 g7 n9
    have bw_ : BW 5 85 w.heap.size w8 g7 ⟨#[]⟩ := BW.new n9 rfl (by decide) (Keep.size (Ext.trans (NewB.ext n3) x4))
    have hB_ := Keep.size (Ext.trans (Ext.trans (NewB.ext n3) x4) (NewB.ext n9))
    refine c_done ?_
    refine n_then ?_
    refine c_seq ?_
    refine c_reg ?_
    refine s_move (v := .func (.func 56) #[] #[]) (ev_t rfl rfl) (w0 rfl) ?_
    refine s_loadL (cs := [.string x.p, .slice A x.args.length c]) (ca := #[.string x.p, .slice A x.args.length c]) F_m46 (ev_t rfl rfl) rfl rfl (blk_cells (Ext.blk (NewB.ext n9) (Ext.blk x4 (NewB.blk n3))) 0 (cs := [.string x.p, .slice A x.args.length c]) rfl) (w0 rfl) ?_
    refine s_call F_e56 (w0 rfl) (ev_t rfl rfl) (m2 (ev_t rfl rfl) (ev_t rfl rfl)) (args := #[.pointer (some ⟨g7, 0, none⟩), .agg #[.string x.p, .slice A x.args.length c]]) rfl (p_atom x A c g7 ((⟨#[]⟩ : ByteArray)) w _ (Ext.trans (Ext.trans (NewB.ext n3) x4) (NewB.ext n9)) (Tabs.ext tb (Ext.refl _)) bw_ ho hr (by assumption) (by simp only [ByteArray.size_append, z0]; omega)) ?_
    rintro _ w10 ⟨rfl, wr11⟩
    refine c_done ?_
    refine n_then ?_
    refine c_seq ?_
    refine c_reg ?_
    refine s_field (off := 0) (o' := 0) F_f85_0 (ev_t rfl rfl) rfl (w0 rfl) ?_
    refine s_call F_e36 (w0 rfl) ev_f (m1 (ev_t rfl rfl)) (args := #[.pointer (some ⟨g7, 0, none⟩)]) rfl (b_String 85 _ g7 ((⟨#[]⟩ : ByteArray) ++ (atW x)) _ (Wr.bw wr11) (Nat.le_trans hB_ (Wr.size wr11)) (by rw [nil_app]; exact atW_ne (by assumption))) ?_
    rintro _ w12 ⟨rfl, bl13⟩
    refine s_assign (v := .string ((⟨#[]⟩ : ByteArray) ++ (atW x))) (ev_t rfl rfl) (w0 rfl) ?_
    refine s_assign (v := .int .i64 0) ev_c (w0 rfl) ?_
    refine c_done ?_
    refine n_then ?_
    refine c_ret ?_
    refine ret2 (v := .string ((⟨#[]⟩ : ByteArray) ++ (atW x))) (v2 := .int .i64 0) rfl rfl rfl rfl rfl ?_
    refine ⟨_, rfl, ?_, (ext_bel (Wr.after wr11 (Ext.trans (Ext.trans (NewB.ext n3) x4) (NewB.ext n9)) rfl) bl13)⟩
    (simp [code, nil_app, *])
  · refine c_cond1 (vb (ev_t rfl rfl) (nbf h6)) ?_
    refine c_seq ?_
    refine c_reg ?_
    refine s_assign (v := .string (⟨#[]⟩ : ByteArray)) ev_c (w0 rfl) ?_
    refine s_assign (v := .int .i64 40) ev_c (w0 rfl) ?_
    refine c_done ?_
    refine n_then ?_
    refine c_ret ?_
    refine r_then ?_
    refine ret2 (v := .string (⟨#[]⟩ : ByteArray)) (v2 := .int .i64 40) rfl rfl rfl rfl rfl ?_
    refine ⟨_, rfl, ?_, (Ext.trans (NewB.ext n3) x4)⟩
    (simp [code, nil_app, *])
set_option maxHeartbeats 4000000 in
theorem p_Atom (x : At) (A : Option Addr) (c : Nat) (w : World) (ho : x.okc c) (hr : Row RT 4 w A x.args) (tb : Tabs Tryd.prog w) :
    Rt Tryd.prog 26 #[.agg #[.string x.p, .slice A x.args.length c]] w fun v w' => v = .tuple #[.string (if atB x then atW x else ⟨#[]⟩), .int .i64 (code (atB x))] ∧ Ext w w' := by
  refine enter Tryd.func26 rfl (l := [.agg #[.string x.p, .slice A x.args.length c]]) rfl Tryd.ntmps26 (Nat.le_of_ble_eq_true rfl) ?_
  have hl_ := At.okc.l ho
  have hc_ := At.okc.c ho
  have hp_ := At.okc.p ho
  refine c_seq ?_
  refine c_reg ?_
  refine s_box (v := .agg #[.string x.p, .slice A x.args.length c]) (cs := #[.string x.p, .slice A x.args.length c]) (w0 rfl) (ev_t rfl rfl) rfl ?_
  intro w2 g1 n3
  refine s_assign (v := .string (⟨#[]⟩ : ByteArray)) ev_c (w0 rfl) ?_
  refine s_assign (v := .int .i64 0) ev_c (w0 rfl) ?_
  refine c_done ?_
  refine n_then ?_
  refine c_seq ?_
  refine c_reg ?_
  refine s_loadL (cs := [.string x.p, .slice A x.args.length c]) (ca := #[.string x.p, .slice A x.args.length c]) F_m46 (ev_t rfl rfl) rfl rfl (blk_cells (NewB.blk n3) 0 (cs := [.string x.p, .slice A x.args.length c]) rfl) (w0 rfl) ?_
  refine s_call F_e54 (w0 rfl) ev_f (m3 (ev_t rfl rfl) ev_f ev_f) (args := #[.agg #[.string x.p, .slice A x.args.length c], .func (.func 55) #[] #[], .func (.func 56) #[] #[]]) rfl (p_toldA x A c _ ho (Row.extT hr (NewB.ext n3)) (Tabs.ext tb (NewB.ext n3))) ?_
  rintro _ w5 ⟨rfl, x4⟩
  refine s_extract (v := .string (if atB x then atW x else ⟨#[]⟩)) (ev_t rfl rfl) rfl (w0 rfl) ?_
  refine s_extract (v := .int .i64 (code (atB x))) (ev_t rfl rfl) rfl (w0 rfl) ?_
  refine s_assign (v := .string (if atB x then atW x else ⟨#[]⟩)) (ev_t rfl rfl) (w0 rfl) ?_
  refine s_assign (v := .int .i64 (code (atB x))) (ev_t rfl rfl) (w0 rfl) ?_
  refine c_done ?_
  refine n_then ?_
  refine c_ret ?_
  refine ret2 (v := .string (if atB x then atW x else ⟨#[]⟩)) (v2 := .int .i64 (code (atB x))) rfl rfl rfl rfl rfl ?_
  refine ⟨_, rfl, ?_, (Ext.trans (NewB.ext n3) x4)⟩
  rfl
end Go.Proofs.Dw
