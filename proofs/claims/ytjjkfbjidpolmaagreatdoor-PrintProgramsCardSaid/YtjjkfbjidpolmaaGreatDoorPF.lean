/- YtjjkfbjidpolmaaGreatDoorPF: part of the proof of this seat, by an AI agent: the arguments are opened; the row; the tied card: the law returns true for every input that the row lets in, its arguments read behind the call as before. No condition of its own but those that its theorems state. -/
import Derived.Test.YtjjkfbjidpolmaaGreatDoorPE
import Derived.Test.YtjjkfbjidpolmaaGreatDoorRows
import Derived.ChangeArms
import Derived.DataReads
import Derived.SizedLaws
import Derived.Deep.Slices
import Derived.ChangeSame
import Derived.ChangeVars
import Derived.JoinedOf
import Derived.RowKit
import Derived.RowKit2
import Derived.RowKitTokens
import Derived.LaidLaws
import Derived.LaidHandle
import Derived.Stop.Joined
import Derived.ReadAgain
import Derived.ChangeAlike
import Derived.JoinedAt
import Derived.ProofKit
import Derived.OpenShut
import Derived.LaidMore
import Derived.Lay
import Derived.LaidSub
import Derived.Test.YtjjkfbjidpolmaaGreatDoorCards
import Derived.Test.YtjjkfbjidpolmaaGreatDoorTie
import Derived.SevenTiedAt
set_option maxHeartbeats 4000000
set_option linter.unusedVariables false
set_option linter.unusedSimpArgs false
set_option maxRecDepth 10000
namespace Go.Proofs.Zw
open Go Go.Wk Go.Proofs Go.Lib
attribute [local irreducible] Go.wpList Go.wpStill Go.wpQuiet Go.Code.wp Go.Calls
theorem F_ar161 : arrayT Tryz.prog 161 5 1 = true := by kernel_rfl
theorem F_e91 : enterable Tryz.prog 91 = true := by kernel_rfl
theorem F_e92 : enterable Tryz.prog 92 = true := by kernel_rfl
theorem F_gn4 : Tryz.prog.globalNamed "pedigree/print.folds" = some 4 := by kernel_rfl
theorem bs106_4_0s_1s_2s_3s : ∀ (a0 : ByteArray) (a1 : ByteArray) (a2 : ByteArray) (a3 : ByteArray),∀ w : World,(Instr.buildSlice 106 4 [(0,.string a0),(1,.string a1),(2,.string a2),(3,.string a3)].toArray).run Tryz.prog w = .ok (.slice (some ⟨w.heap.size,0,none⟩) 4 4) (w.alloc (.cells #[.string a0,.string a1,.string a2,.string a3] 9)) := by
  intros
  kernel_rfl
theorem p_arg (x : Ag) (g : Nat) (s0 : ByteArray) (wz : World) (w : World) (x0 : Ext wz w) (tb : Tabs Tryz.prog wz) (hb : BW 5 97 wz.heap.size w g s0) (tf : FoldT Tryz.prog wz) (hx : x.wf) (hag : argB x = true) (hs : s0.size + 1000 ≤ 110000000000000) :
    Rt Tryz.prog 92 #[.pointer (some ⟨g,0,none⟩),.agg #[.int .i8 x.k,.string x.t.v,.int .i8 x.t.l.k,.int .i64 x.t.l.n,.string x.t.l.s]] w fun v w' => v = .tuple #[] ∧ Wr 5 97 wz.heap.size g (s0 ++ argW x) w w' := by
  refine enter Tryz.func92 rfl (l := [.pointer (some ⟨g,0,none⟩),.agg #[.int .i8 x.k,.string x.t.v,.int .i8 x.t.l.k,.int .i64 x.t.l.n,.string x.t.l.s]]) rfl Tryz.ntmps92 (Nat.le_of_ble_eq_true rfl) ?_
  have hB_ := Keep.size x0
  have hk04_ := arg_kinds hag
  have hvs_ : x.k = 2 ∨ x.k = 3 ∨ x.k = 4 → x.t.v.size ≤ 802 := arg_vsize hag hx
  have hfz_ := foldB_size x.k
  refine c_seq (c_reg (s_box (v := .agg #[.int .i8 x.k,.string x.t.v,.int .i8 x.t.l.k,.int .i64 x.t.l.n,.string x.t.l.s]) (cs := #[.int .i8 x.k,.string x.t.v,.int .i8 x.t.l.k,.int .i64 x.t.l.n,.string x.t.l.s]) (w0 rfl) (ej rfl rfl) rfl ?_))
  intro w2 g1 n3
  have ne_g1 : g1 ≠ g := by have a_ := NewB.eq n3; have b_ := BW.lt hb; omega
  refine c_done (n_then (c_seq (c_reg (s_field (off := 0) (o' := 0) F_f129_0 (ej rfl rfl) rfl (w0 rfl) (s_load (v := .int .i8 x.k) F_o127 (ej rfl rfl) (cell_of_blk (i := 0) (NewB.blk n3) rfl) (w0 rfl) (c_done (n_then (c_block (c_seq (c_reg (s_cmp (r := decide (x.k = 0)) (ej rfl rfl) ev_c rfl (w0 rfl) ?_)))))))))))
  refine s_assign (v := .bool (decide (x.k = 0))) (ej rfl rfl) (w0 rfl) (c_done (n_then ?_))
  by_cases h4 : x.k = 0
  · refine c_cond1 (vb (ej rfl rfl) (decide_eq_true h4)) (c_reg (s_move (v := .pointer (some ⟨g,0,none⟩)) (ej rfl rfl) (w0 rfl) (s_field (off := 1) (o' := 1) F_f129_1 (ej rfl rfl) rfl (w0 rfl) (s_loadL (cs := [.string x.t.v,.int .i8 x.t.l.k,.int .i64 x.t.l.n,.string x.t.l.s]) F_m33 (ej rfl rfl) rfl rfl (blk_cells (NewB.blk n3) 1 rfl) (w0 rfl) (s_call F_e71 (w0 rfl) ev_f (m2 (ej rfl rfl) (ej rfl rfl)) (args := #[.pointer (some ⟨g,0,none⟩),.agg #[.string x.t.v,.int .i8 x.t.l.k,.int .i64 x.t.l.n,.string x.t.l.s]]) rfl (p_term x.t g (s0) wz _ (Ext.trans x0 (NewB.ext n3)) tb (BW.ext hb (NewB.ext n3)) (Ag.wf.t hx) (by have := termW_size (arg_term hag (by omega)) (Ag.wf.t hx); omega)) ?_)))))
    rintro _ w5 ⟨rfl,wr6⟩
    refine c_done (n_block (ret0 rfl ?_))
    exact ⟨_,rfl,rfl,Wr.cast (Wr.then_ (Wr.of_ext hb (NewB.ext n3) hB_) wr6) (by unfold argW; first | (rw [if_pos (by omega)]; simp only [catL,app_nil]; done) | (rw [if_neg (by omega),if_pos (by omega)]; simp only [catL,app_nil,app_assoc]; done) | (rw [if_neg (by omega),if_neg (by omega)]; done))⟩
  refine c_cond0 (vb (ej rfl rfl) (decide_eq_false h4)) (c_seq (c_reg (s_cmp (r := decide (x.k = 1)) (ej rfl rfl) ev_c rfl (w0 rfl) (s_assign (v := .bool (decide (x.k = 1))) (ej rfl rfl) (w0 rfl) (c_done (n_then ?_))))))
  by_cases h7 : x.k = 1
  · refine c_cond1 (vb (ej rfl rfl) (decide_eq_true h7)) (c_reg (s_move (v := .pointer (some ⟨g,0,none⟩)) (ej rfl rfl) (w0 rfl) (s_bslice (vs := [(0,.string (⟨#[99,111,117,110,116,40,41]⟩ : ByteArray))]) (cs := #[.string (⟨#[99,111,117,110,116,40,41]⟩ : ByteArray)]) (b1 ev_c) (bs106_1_0s (⟨#[99,111,117,110,116,40,41]⟩ : ByteArray)) (w0 rfl) ?_)))
    intro w9 g8 n10
    have ne_g8 : g8 ≠ g := by have a_ := NewB.eq n10; have b_ := BW.lt (BW.ext hb (NewB.ext n3)); omega
    refine s_call F_e54 (w0 rfl) ev_f (m2 (ej rfl rfl) (ej rfl rfl)) (args := #[.pointer (some ⟨g,0,none⟩),.slice (some ⟨g8,0,none⟩) 1 1]) rfl (p_put 97 _ g g8 (s0) [(⟨#[99,111,117,110,116,40,41]⟩ : ByteArray)] _ (BW.ext (BW.ext hb (NewB.ext n3)) (NewB.ext n10)) (Nat.le_trans (Nat.le_trans hB_ (Keep.size (NewB.ext n3))) (Keep.size (NewB.ext n10))) (by decide) F_lies97 (NewB.blk n10) (by simp only [catL,ByteArray.size_append,z0,z1,z2,z3,z4,z5,z6,z7]; omega) (by simp)) ?_
    rintro _ w11 ⟨rfl,wr12⟩
    refine c_done (n_block (ret0 rfl ?_))
    exact ⟨_,rfl,rfl,Wr.cast (Wr.then_ (Wr.of_ext hb (Ext.trans (NewB.ext n3) (NewB.ext n10)) hB_) wr12) (by unfold argW; first | (rw [if_pos (by omega)]; simp only [catL,app_nil]; done) | (rw [if_neg (by omega),if_pos (by omega)]; simp only [catL,app_nil,app_assoc]; done) | (rw [if_neg (by omega),if_neg (by omega)]; done))⟩
  refine c_cond0 (vb (ej rfl rfl) (decide_eq_false h7)) ?_
  refine c_trace (fun k v wb wa => match k with | 0 => v = .pointer (some ⟨g,0,none⟩) | 1 => v = .pointer (some ⟨g1,0,none⟩) | 2 => v = .int .i8 x.k | 3 => v = .pointer (some ⟨4,0 + x.k.toNat * 1,none⟩) | 4 => v = .string (foldB x.k) | 5 => v = .pointer (some ⟨g1,1,none⟩) | 6 => v = .pointer (some ⟨g1,1,none⟩) | 7 => v = .string x.t.v | 8 => ∃ g_,v = .slice (some ⟨g_,0,none⟩) 4 4 ∧ NewB wb g_ (.cells #[.string (foldB x.k),.string (⟨#[40]⟩ : ByteArray),.string x.t.v,.string (⟨#[41]⟩ : ByteArray)] 9 (0,0)) wa | _ => True) (fun k => [6,7,8,9,10,11,12,13,14].getD k 999) (fun k => [[],[],[1],[2],[3],[],[5],[6],[4,7]].getD k []) 9 mixed (by kernel_rfl) (by decide) ?_ ?_
  · intro wd xd k_ hk_ env_ B_ A_ w_ hx_
    have hkm : k_ = 0 ∨ k_ = 1 ∨ k_ = 2 ∨ k_ = 3 ∨ k_ = 4 ∨ k_ = 5 ∨ k_ = 6 ∨ k_ = 7 ∨ k_ = 8 := by omega
    rcases hkm with rfl | rfl | rfl | rfl | rfl | rfl | rfl | rfl | rfl
    · refine ⟨_,rfl,?_⟩
      refine s_move (v := .pointer (some ⟨g,0,none⟩)) (ej rfl ((Tr.env hx_ 0 (by decide)).trans rfl)) (w0 rfl) ?_
      exact tl_done ⟨_,rfl,rfl,Ext.refl _⟩
    · refine ⟨_,rfl,?_⟩
      refine s_field (off := 0) (o' := 0) F_f129_0 (ej rfl ((Tr.env hx_ 3 (by decide)).trans rfl)) rfl (w0 rfl) ?_
      exact tl_done ⟨_,rfl,rfl,Ext.refl _⟩
    · refine ⟨_,rfl,?_⟩
      refine s_load (v := .int .i8 x.k) F_o127 (ej rfl (Tr.g hx_ 1 (by decide))) (cell_of_blk (i := 0) (Ext.blk (Tr.ext hx_) (Ext.blk xd (NewB.blk n3))) rfl) (w0 rfl) ?_
      exact tl_done ⟨_,rfl,rfl,Ext.refl _⟩
    · refine ⟨_,rfl,?_⟩
      refine s_indexA (j := x.k.toNat) F_ar161 ev_g (ej rfl (Tr.g hx_ 2 (by decide))) (by omega) (by omega) (w0 rfl) ?_
      exact tl_done ⟨_,rfl,rfl,Ext.refl _⟩
    · refine ⟨_,rfl,?_⟩
      refine s_load (v := .string (foldB x.k)) F_o9 (ej rfl (Tr.g hx_ 3 (by decide))) (FoldT.at_ (FoldT.ext tf (Ext.trans (Ext.trans (Ext.trans x0 (NewB.ext n3)) xd) (Tr.ext hx_))) F_gn4 (by omega)) (w0 rfl) ?_
      exact tl_done ⟨_,rfl,rfl,Ext.refl _⟩
    · refine ⟨_,rfl,?_⟩
      refine s_field (off := 1) (o' := 1) F_f129_1 (ej rfl ((Tr.env hx_ 3 (by decide)).trans rfl)) rfl (w0 rfl) ?_
      exact tl_done ⟨_,rfl,rfl,Ext.refl _⟩
    · refine ⟨_,rfl,?_⟩
      refine s_field (off := 0) (o' := 1) F_f33_0 (ej rfl (Tr.g hx_ 5 (by decide))) rfl (w0 rfl) ?_
      exact tl_done ⟨_,rfl,rfl,Ext.refl _⟩
    · refine ⟨_,rfl,?_⟩
      refine s_load (v := .string x.t.v) F_o9 (ej rfl (Tr.g hx_ 6 (by decide))) (cell_of_blk (i := 1) (Ext.blk (Tr.ext hx_) (Ext.blk xd (NewB.blk n3))) rfl) (w0 rfl) ?_
      exact tl_done ⟨_,rfl,rfl,Ext.refl _⟩
    refine ⟨_,rfl,?_⟩
    refine s_bslice (vs := [(0,.string (foldB x.k)),(1,.string (⟨#[40]⟩ : ByteArray)),(2,.string x.t.v),(3,.string (⟨#[41]⟩ : ByteArray))]) (cs := #[.string (foldB x.k),.string (⟨#[40]⟩ : ByteArray),.string x.t.v,.string (⟨#[41]⟩ : ByteArray)]) (b4 (ej rfl (Tr.g hx_ 4 (by decide))) ev_c (ej rfl (Tr.g hx_ 7 (by decide))) ev_c) (bs106_4_0s_1s_2s_3s (foldB x.k) (⟨#[40]⟩ : ByteArray) x.t.v (⟨#[41]⟩ : ByteArray)) (w0 rfl) ?_
    intro w14 g13 n15
    have ne_g13 : g13 ≠ g := by have a_ := NewB.eq n15; have b_ := BW.lt (BW.ext (BW.ext (BW.ext hb (NewB.ext n3)) xd) (Tr.ext hx_)); omega
    exact tl_done ⟨_,rfl,⟨g13,rfl,n15⟩,(NewB.ext n15)⟩
  intro wd xd env_ B_ A_ w_ hx_
  obtain ⟨g13,e16,n17⟩ := Tr.g hx_ 8 (by decide)
  replace e16 : env_ 14 = _ := e16
  have ne_g13 : g13 ≠ g := by have a_ := NewB.eq n17; have b_ := BW.lt (BW.ext hb (NewB.ext n3)); have c_ := Keep.size (Ext.trans xd (Tr.x0 hx_ 8 (by decide))); omega
  refine tl_cons ?_
  refine s_call F_e54 (w0 rfl) ev_f (m2 (ej rfl (Tr.g hx_ 0 (by decide))) (ej rfl e16)) (args := #[.pointer (some ⟨g,0,none⟩),.slice (some ⟨g13,0,none⟩) 4 4]) rfl (p_put 97 _ g g13 (s0) [foldB x.k,(⟨#[40]⟩ : ByteArray),x.t.v,(⟨#[41]⟩ : ByteArray)] _ (BW.ext (BW.ext (BW.ext hb (NewB.ext n3)) xd) (Tr.ext hx_)) (Nat.le_trans (Nat.le_trans (Nat.le_trans hB_ (Keep.size (NewB.ext n3))) (Keep.size xd)) (Keep.size (Tr.ext hx_))) (by decide) F_lies97 (Ext.blk (Tr.x2 hx_ 8 (by decide)) (NewB.blk n17)) (by simp only [catL,ByteArray.size_append,z0,z1,z2,z3,z4,z5,z6,z7]; omega) (by simp)) ?_
  rintro _ w18 ⟨rfl,wr19⟩
  refine tl_done ⟨trivial,?_⟩
  refine tl_nil ?_
  refine n_block (ret0 rfl ?_)
  exact ⟨_,rfl,rfl,Wr.cast (Wr.then_ (Wr.of_ext hb (Ext.trans (Ext.trans (NewB.ext n3) xd) (Tr.ext hx_)) hB_) wr19) (by unfold argW; first | (rw [if_pos (by omega)]; simp only [catL,app_nil]; done) | (rw [if_neg (by omega),if_pos (by omega)]; simp only [catL,app_nil,app_assoc]; done) | (rw [if_neg (by omega),if_neg (by omega)]; done))⟩
theorem p_columnsR (nm : ByteArray) (n : Nat) (l : List ByteArray) (g p1 p2 : Nat) (s0 : ByteArray) (wz : World) (w : World) (x0 : Ext wz w) (tb : Tabs Tryz.prog wz) (hb : BW 5 97 wz.heap.size w g s0) (hnl : n = l.length) (hn : l.length ≤ 24) (hM : ∀ i,i < l.length → (l.getD i ⟨#[]⟩).size ≤ 1000) (hs : s0.size + nm.size + 30000 ≤ 100000000000000) (hone : ∀ (i : Nat) (w' : World) (s1 : ByteArray),i < l.length → Ext wz w' → Bld 5 g w w' → BW 5 97 wz.heap.size w' g s1 → s1.size ≤ 100000000000000 → Rt Tryz.prog 91 #[.int .i64 ((i : Nat) : Int),.pointer (some ⟨p1,0,none⟩),.pointer (some ⟨p2,0,none⟩)] w' fun v w2 => v = .tuple #[] ∧ Wr 5 97 wz.heap.size g (s1 ++ l.getD i ⟨#[]⟩) w' w2) :
    Rt Tryz.prog 69 #[.pointer (some ⟨g,0,none⟩),.string nm,.int .i64 ((n : Nat) : Int),.func (.func 91) #[] #[.pointer (some ⟨p1,0,none⟩),.pointer (some ⟨p2,0,none⟩)]] w fun v w' => v = .tuple #[] ∧ Wr 5 97 wz.heap.size g (s0 ++ colW nm l) w w' := by
  refine enter Tryz.func69 rfl (l := [.pointer (some ⟨g,0,none⟩),.string nm,.int .i64 ((n : Nat) : Int),.func (.func 91) #[] #[.pointer (some ⟨p1,0,none⟩),.pointer (some ⟨p2,0,none⟩)]]) rfl Tryz.ntmps69 (Nat.le_of_ble_eq_true rfl) ?_
  subst hnl
  have hB_ := Keep.size x0
  refine c_seq (c_reg (s_move (v := .pointer (some ⟨g,0,none⟩)) (ej rfl rfl) (w0 rfl) (s_move (v := .string nm) (ej rfl rfl) (w0 rfl) (s_bslice (vs := [(0,.string nm)]) (cs := #[.string nm]) (b1 (ej rfl rfl)) (bs106_1_0s nm) (w0 rfl) ?_))))
  intro w2 g1 n3
  have ne_g1 : g1 ≠ g := by have a_ := NewB.eq n3; have b_ := BW.lt hb; omega
  refine s_call F_e54 (w0 rfl) ev_f (m2 (ej rfl rfl) (ej rfl rfl)) (args := #[.pointer (some ⟨g,0,none⟩),.slice (some ⟨g1,0,none⟩) 1 1]) rfl (p_put 97 _ g g1 (s0) [nm] _ (BW.ext hb (NewB.ext n3)) (Nat.le_trans hB_ (Keep.size (NewB.ext n3))) (by decide) F_lies97 (NewB.blk n3) (by simp only [catL,ByteArray.size_append,z0,z1,z2,z3,z4,z5,z6]; omega) (by simp)) ?_
  rintro _ w4 ⟨rfl,wr5⟩
  refine c_done (n_then (c_seq (c_seq (c_reg (s_move (v := .int .i64 ((l.length : Nat) : Int)) (ej rfl rfl) (w0 rfl) (s_move (v := .int .i64 0) ev_c (w0 rfl) (c_done (n_then (c_block (c_loop (α := Nat) (fun (i : Nat) env_ w_ => Wr 5 97 wz.heap.size g (s0 ++ nm ++ colP l i) w w_ ∧ i ≤ l.length ∧ env_ 0 = .pointer (some ⟨g,0,none⟩) ∧ env_ 2 = .int .i64 ((l.length : Nat) : Int) ∧ env_ 3 = .func (.func 91) #[] #[.pointer (some ⟨p1,0,none⟩),.pointer (some ⟨p2,0,none⟩)] ∧ env_ 13 = .int .i64 ((l.length : Nat) : Int) ∧ env_ 14 = .int .i64 ((i : Nat) : Int)) (fun i => l.length - i) (0) ⟨(Wr.cast (Wr.then_ (Wr.of_ext hb (NewB.ext n3) hB_) wr5) (by simp [catL,app_nil,colP])),Nat.zero_le _,rfl,rfl,rfl,rfl,rfl⟩ ?_))))))))))
  rintro i env8 w6 ⟨x7,i9,e10,e11,e12,e13,e14⟩
  have hP_ := colP_le hM i i9
  have hM2_ := hM i
  refine c_seq (c_reg (s_cmp (r := decide (((i : Nat) : Int) < ((l.length : Nat) : Int))) (ej rfl e14) (ej rfl e13) rfl (w0 rfl) (c_done (n_then (c_seq ?_)))))
  by_cases h15 : ((i : Nat) : Int) < ((l.length : Nat) : Int)
  · refine c_cond1 (vb (ej rfl rfl) (decide_eq_true h15)) (c_skip (n_then (c_seq (c_block (c_seq (c_reg (s_move (v := .int .i64 ((i : Nat) : Int)) (ej rfl e14) (w0 rfl) (s_assign (v := .int .i64 ((i : Nat) : Int)) (ej rfl rfl) (w0 rfl) (c_done (n_then (c_seq ?_)))))))))))
    refine c_seq (c_reg (s_move (v := .int .i64 ((i : Nat) : Int)) (ej rfl rfl) (w0 rfl) (s_cmp (r := decide (((i : Nat) : Int) = 0)) (ej rfl rfl) ev_c rfl (w0 rfl) (c_done (n_then ?_)))))
    by_cases h16 : ((i : Nat) : Int) = 0
    · refine c_cond1 (vb (ej rfl rfl) (decide_eq_true h16)) (c_reg (s_move (v := .pointer (some ⟨g,0,none⟩)) (ej rfl e10) (w0 rfl) (s_bslice (vs := [(0,.string (⟨#[40]⟩ : ByteArray))]) (cs := #[.string (⟨#[40]⟩ : ByteArray)]) (b1 ev_c) (bs106_1_0s (⟨#[40]⟩ : ByteArray)) (w0 rfl) ?_)))
      intro w18 g17 n19
      have ne_g17 : g17 ≠ g := by have a_ := NewB.eq n19; have b_ := BW.lt (Wr.bw x7); omega
      refine s_call F_e54 (w0 rfl) ev_f (m2 (ej rfl rfl) (ej rfl rfl)) (args := #[.pointer (some ⟨g,0,none⟩),.slice (some ⟨g17,0,none⟩) 1 1]) rfl (p_put 97 _ g g17 (s0 ++ nm ++ colP l i) [(⟨#[40]⟩ : ByteArray)] _ (BW.ext (Wr.bw x7) (NewB.ext n19)) (Nat.le_trans (Nat.le_trans hB_ (Wr.size x7)) (Keep.size (NewB.ext n19))) (by decide) F_lies97 (NewB.blk n19) (by simp only [catL,ByteArray.size_append,z0,z1,z2,z3,z4,z5,z6]; omega) (by simp)) ?_
      rintro _ w20 ⟨rfl,wr21⟩
      refine c_done (n_then (c_reg (s_move (v := .func (.func 91) #[] #[.pointer (some ⟨p1,0,none⟩),.pointer (some ⟨p2,0,none⟩)]) (ej rfl e12) (w0 rfl) (s_move (v := .int .i64 ((i : Nat) : Int)) (ej rfl rfl) (w0 rfl) (s_call F_e91 (w0 rfl) (ej rfl rfl) (m1 (ej rfl rfl)) (args := #[.int .i64 ((i : Nat) : Int),.pointer (some ⟨p1,0,none⟩),.pointer (some ⟨p2,0,none⟩)]) rfl (hone i _ (s0 ++ nm ++ colP l i ++ (catL [(⟨#[40]⟩ : ByteArray)])) (by omega) (Wr.after wr21 (Ext.trans (Wr.after x7 x0 rfl) (NewB.ext n19)) rfl) (Wr.bld (Wr.then_ (Wr.ext x7 (NewB.ext n19) hB_) wr21)) (Wr.bw wr21) (by simp only [catL,ByteArray.size_append,z0,z1,z2]; omega)) ?_)))))
      rintro _ w22 ⟨rfl,wr23⟩
      refine c_done (n_block (n_then (c_reg (s_add (r := ((i + 1 : Nat) : Int)) (ej rfl e14) ev_c (by omega) (by omega) (w0 rfl) (s_move (v := .int .i64 ((i + 1 : Nat) : Int)) (ej rfl rfl) (w0 rfl) (c_done ?_))))))
      exact ⟨(i + 1),_,rfl,⟨(Wr.cast (Wr.then_ (Wr.then_ (Wr.ext x7 (NewB.ext n19) hB_) wr21) wr23) (by simp only [colP]; (first | rw [if_pos (by omega)] | rw [if_neg (by omega)]); simp only [catL,app_nil,app_assoc])),by omega,e10,e11,e12,e13,rfl⟩,(show l.length - (i + 1) < l.length - i by omega)⟩
    refine c_cond0 (vb (ej rfl rfl) (decide_eq_false h16)) (c_reg (s_move (v := .pointer (some ⟨g,0,none⟩)) (ej rfl e10) (w0 rfl) (s_bslice (vs := [(0,.string (⟨#[44,32]⟩ : ByteArray))]) (cs := #[.string (⟨#[44,32]⟩ : ByteArray)]) (b1 ev_c) (bs106_1_0s (⟨#[44,32]⟩ : ByteArray)) (w0 rfl) ?_)))
    intro w25 g24 n26
    have ne_g24 : g24 ≠ g := by have a_ := NewB.eq n26; have b_ := BW.lt (Wr.bw x7); omega
    refine s_call F_e54 (w0 rfl) ev_f (m2 (ej rfl rfl) (ej rfl rfl)) (args := #[.pointer (some ⟨g,0,none⟩),.slice (some ⟨g24,0,none⟩) 1 1]) rfl (p_put 97 _ g g24 (s0 ++ nm ++ colP l i) [(⟨#[44,32]⟩ : ByteArray)] _ (BW.ext (Wr.bw x7) (NewB.ext n26)) (Nat.le_trans (Nat.le_trans hB_ (Wr.size x7)) (Keep.size (NewB.ext n26))) (by decide) F_lies97 (NewB.blk n26) (by simp only [catL,ByteArray.size_append,z0,z1,z2,z3,z4,z5,z6]; omega) (by simp)) ?_
    rintro _ w27 ⟨rfl,wr28⟩
    refine c_done (n_then (c_reg (s_move (v := .func (.func 91) #[] #[.pointer (some ⟨p1,0,none⟩),.pointer (some ⟨p2,0,none⟩)]) (ej rfl e12) (w0 rfl) (s_move (v := .int .i64 ((i : Nat) : Int)) (ej rfl rfl) (w0 rfl) (s_call F_e91 (w0 rfl) (ej rfl rfl) (m1 (ej rfl rfl)) (args := #[.int .i64 ((i : Nat) : Int),.pointer (some ⟨p1,0,none⟩),.pointer (some ⟨p2,0,none⟩)]) rfl (hone i _ (s0 ++ nm ++ colP l i ++ (catL [(⟨#[44,32]⟩ : ByteArray)])) (by omega) (Wr.after wr28 (Ext.trans (Wr.after x7 x0 rfl) (NewB.ext n26)) rfl) (Wr.bld (Wr.then_ (Wr.ext x7 (NewB.ext n26) hB_) wr28)) (Wr.bw wr28) (by simp only [catL,ByteArray.size_append,z0,z1,z2]; omega)) ?_)))))
    rintro _ w29 ⟨rfl,wr30⟩
    refine c_done (n_block (n_then (c_reg (s_add (r := ((i + 1 : Nat) : Int)) (ej rfl e14) ev_c (by omega) (by omega) (w0 rfl) (s_move (v := .int .i64 ((i + 1 : Nat) : Int)) (ej rfl rfl) (w0 rfl) (c_done ?_))))))
    exact ⟨(i + 1),_,rfl,⟨(Wr.cast (Wr.then_ (Wr.then_ (Wr.ext x7 (NewB.ext n26) hB_) wr28) wr30) (by simp only [colP]; (first | rw [if_pos (by omega)] | rw [if_neg (by omega)]); simp only [catL,app_nil,app_assoc])),by omega,e10,e11,e12,e13,rfl⟩,(show l.length - (i + 1) < l.length - i by omega)⟩
  refine c_cond0 (vb (ej rfl rfl) (decide_eq_false h15)) (c_exit (e_then (e_then (e_hit (n_then (c_seq (c_reg (s_move (v := .int .i64 ((l.length : Nat) : Int)) (ej rfl e11) (w0 rfl) (s_cmp (r := decide (0 < ((l.length : Nat) : Int))) (ej rfl rfl) ev_c rfl (w0 rfl) (c_done (n_then ?_)))))))))))
  by_cases h31 : 0 < ((l.length : Nat) : Int)
  · refine c_cond1 (vb (ej rfl rfl) (decide_eq_true h31)) (c_reg (s_move (v := .pointer (some ⟨g,0,none⟩)) (ej rfl e10) (w0 rfl) (s_bslice (vs := [(0,.string (⟨#[41]⟩ : ByteArray))]) (cs := #[.string (⟨#[41]⟩ : ByteArray)]) (b1 ev_c) (bs106_1_0s (⟨#[41]⟩ : ByteArray)) (w0 rfl) ?_)))
    intro w33 g32 n34
    have ne_g32 : g32 ≠ g := by have a_ := NewB.eq n34; have b_ := BW.lt (Wr.bw x7); omega
    refine s_call F_e54 (w0 rfl) ev_f (m2 (ej rfl rfl) (ej rfl rfl)) (args := #[.pointer (some ⟨g,0,none⟩),.slice (some ⟨g32,0,none⟩) 1 1]) rfl (p_put 97 _ g g32 (s0 ++ nm ++ colP l i) [(⟨#[41]⟩ : ByteArray)] _ (BW.ext (Wr.bw x7) (NewB.ext n34)) (Nat.le_trans (Nat.le_trans hB_ (Wr.size x7)) (Keep.size (NewB.ext n34))) (by decide) F_lies97 (NewB.blk n34) (by simp only [catL,ByteArray.size_append,z0,z1,z2,z3,z4,z5,z6]; omega) (by simp)) ?_
    rintro _ w35 ⟨rfl,wr36⟩
    refine c_done (ret0 rfl ?_)
    exact ⟨_,rfl,rfl,Wr.cast (Wr.then_ (Wr.ext x7 (NewB.ext n34) hB_) wr36) (by (have e_ : i = l.length := by omega); subst e_; unfold colW; first | (rw [if_neg (by omega)]; simp only [catL,app_nil,app_assoc]; done) | ((have e2_ : l.length = 0 := by omega); rw [if_pos e2_,e2_]; simp [colP,app_nil]))⟩
  refine c_cond0 (vb (ej rfl rfl) (decide_eq_false h31)) (c_skip (ret0 rfl ?_))
  exact ⟨_,rfl,rfl,Wr.cast x7 (by (have e_ : i = l.length := by omega); subst e_; unfold colW; first | (rw [if_neg (by omega)]; simp only [catL,app_nil,app_assoc]; done) | ((have e2_ : l.length = 0 := by omega); rw [if_pos e2_,e2_]; simp [colP,app_nil]))⟩
theorem p_rule1 (i : Nat) (x : Ru) (Ah Ab : Option Addr) (ch cb g p1 p2 : Nat) (s0 : ByteArray) (wz : World) (w : World) (x0 : Ext wz w) (tb : Tabs Tryz.prog wz) (hb : BW 5 97 wz.heap.size w g s0) (tf : FoldT Tryz.prog wz) (hrh : Row RG 5 wz Ah x.head) (hp1 : w.heap[p1]? = some (.cells #[.pointer (some ⟨g,0,none⟩)] 73 (0,0))) (hp2 : w.heap[p2]? = some (.cells #[.string x.p,.slice Ah x.head.length ch,.slice Ab x.body.length cb] 53 (0,0))) (hi : i < x.head.length) (hv : argB (agAt x.head i) = true) (hs : s0.size ≤ 100000000000000) :
    Rt Tryz.prog 91 #[.int .i64 ((i : Nat) : Int),.pointer (some ⟨p1,0,none⟩),.pointer (some ⟨p2,0,none⟩)] w fun v w' => v = .tuple #[] ∧ Wr 5 97 wz.heap.size g (s0 ++ argW (agAt x.head i)) w w' := by
  refine enter Tryz.func91 rfl (l := [.int .i64 ((i : Nat) : Int),.pointer (some ⟨p1,0,none⟩),.pointer (some ⟨p2,0,none⟩)]) rfl Tryz.ntmps91 (Nat.le_of_ble_eq_true rfl) ?_
  have hB_ := Keep.size x0
  have hag := hv
  refine c_tail 6 mixed (by kernel_rfl) rfl rfl ?_
  intro w1 x2
  refine t_val (v := .pointer (some ⟨g,0,none⟩)) (w0 rfl) (r_load (v := .pointer (some ⟨g,0,none⟩)) F_o73 (ej rfl rfl) (cell_of_blk (i := 0) (Ext.blk x2 hp1) rfl)) (t_val (v := .pointer (some ⟨p2,1,none⟩)) (w0 rfl) (r_field (off := 1) (o' := 1) F_f53_1 (ej rfl rfl) rfl) (t_val (v := .slice Ah x.head.length ch) (w0 rfl) (r_load (v := .slice Ah x.head.length ch) F_o51 (ej rfl rfl) (cell_of_blk (i := 1) (Ext.blk x2 hp2) rfl)) (t_val (v := .int .i64 ((i : Nat) : Int)) (w0 rfl) (r_move (v := .int .i64 ((i : Nat) : Int)) (ej rfl rfl)) ?_)))
  obtain ⟨b3,o4,x5,csx5,hA6,hx7,hR8,hc9⟩ := Row.at_ hrh i (by omega)
  obtain rfl := agAt_of hx7
  obtain ⟨rfl,wf10⟩ := hR8
  refine t_val (v := .pointer (some ⟨b3,o4 + i * 5,none⟩)) (w0 rfl) (r_indexR (j := i) F_l51 (ej rfl rfl) hA6 (ej rfl rfl) rfl (by omega)) (t_val (v := .agg #[.int .i8 ((agAt x.head i).k),.string ((agAt x.head i).t.v),.int .i8 ((agAt x.head i).t.l.k),.int .i64 ((agAt x.head i).t.l.n),.string ((agAt x.head i).t.l.s)]) (w0 rfl) (r_loadL (cs := [.int .i8 ((agAt x.head i).k),.string ((agAt x.head i).t.v),.int .i8 ((agAt x.head i).t.l.k),.int .i64 ((agAt x.head i).t.l.n),.string ((agAt x.head i).t.l.s)]) F_m129 (ej rfl rfl) rfl rfl (sub_cells (cells_ext x2 (cells_ext x0 hc9)) 0 rfl)) (t_done (s_call F_e92 (w0 rfl) ev_f (m2 (ej rfl rfl) (ej rfl rfl)) (args := #[.pointer (some ⟨g,0,none⟩),.agg #[.int .i8 ((agAt x.head i).k),.string ((agAt x.head i).t.v),.int .i8 ((agAt x.head i).t.l.k),.int .i64 ((agAt x.head i).t.l.n),.string ((agAt x.head i).t.l.s)]]) rfl (p_arg (agAt x.head i) g (s0) wz _ (Ext.trans x0 x2) tb (BW.ext hb x2) tf wf10 hag (by omega)) ?_)))
  rintro _ w11 ⟨rfl,wr12⟩
  refine c_done (ret0 rfl ?_)
  exact ⟨_,rfl,rfl,Wr.cast (Wr.then_ (Wr.of_ext hb x2 hB_) wr12) (rfl)⟩
theorem p_rule (x : Ru) (Ah Ab : Option Addr) (ch cb : Nat) (g : Nat) (s0 : ByteArray) (wz : World) (w : World) (x0 : Ext wz w) (tb : Tabs Tryz.prog wz) (hb : BW 5 97 wz.heap.size w g s0) (ho : x.okc ch cb) (hrh : Row RG 5 wz Ah x.head) (hrb : Row RL 16 wz Ab x.body) (hru : ruB x = true) (tr : RelT Tryz.prog wz) (tf : FoldT Tryz.prog wz) (hs : s0.size + 9000000 ≤ 90000000000000) :
    Rt Tryz.prog 50 #[.pointer (some ⟨g,0,none⟩),.agg #[.string x.p,.slice Ah x.head.length ch,.slice Ab x.body.length cb]] w fun v w' => v = .tuple #[] ∧ Wr 5 97 wz.heap.size g (s0 ++ ruW x) w w' := by
  refine enter Tryz.func50 rfl (l := [.pointer (some ⟨g,0,none⟩),.agg #[.string x.p,.slice Ah x.head.length ch,.slice Ab x.body.length cb]]) rfl Tryz.ntmps50 (Nat.le_of_ble_eq_true rfl) ?_
  have hB_ := Keep.size x0
  have hpr_ := Ru.okc.p ho
  have hhl_ := Ru.okc.hl ho
  have hhc_ := Ru.okc.hc ho
  have hbl_ := Ru.okc.bl ho
  have hbc_ := Ru.okc.bc ho
  obtain ⟨hnm_,hpz_,h24_,h16_,hha_,hlb_⟩ := ruB_parts hru
  have hcw_ := headW_size hru hrh
  refine c_seq (c_reg (s_box (v := .pointer (some ⟨g,0,none⟩)) (cs := #[.pointer (some ⟨g,0,none⟩)]) (w0 rfl) (ej rfl rfl) rfl ?_))
  intro w2 g1 n3
  have ne_g1 : g1 ≠ g := by have a_ := NewB.eq n3; have b_ := BW.lt hb; omega
  refine s_box (v := .agg #[.string x.p,.slice Ah x.head.length ch,.slice Ab x.body.length cb]) (cs := #[.string x.p,.slice Ah x.head.length ch,.slice Ab x.body.length cb]) (w0 rfl) (ej rfl rfl) rfl ?_
  intro w5 g4 n6
  have ne_g4 : g4 ≠ g := by have a_ := NewB.eq n6; have b_ := BW.lt (BW.ext hb (NewB.ext n3)); omega
  refine c_done (n_then (c_seq (c_reg (s_load (v := .pointer (some ⟨g,0,none⟩)) F_o73 (ej rfl rfl) (cell_of_blk (i := 0) (Ext.blk (NewB.ext n6) (NewB.blk n3)) rfl) (w0 rfl) (s_field (off := 0) (o' := 0) F_f53_0 (ej rfl rfl) rfl (w0 rfl) (s_load (v := .string x.p) F_o9 (ej rfl rfl) (cell_of_blk (i := 0) (NewB.blk n6) rfl) (w0 rfl) (s_field (off := 1) (o' := 1) F_f53_1 (ej rfl rfl) rfl (w0 rfl) (s_load (v := .slice Ah x.head.length ch) F_o51 (ej rfl rfl) (cell_of_blk (i := 1) (NewB.blk n6) rfl) (w0 rfl) (s_lenL F_l51 (ej rfl rfl) (w0 rfl) (s_makeFunc (vf := #[]) (vc := #[.pointer (some ⟨g1,0,none⟩),.pointer (some ⟨g4,0,none⟩)]) m0 (m2 (ej rfl rfl) (ej rfl rfl)) (w0 rfl) (s_call F_e69 (w0 rfl) ev_f (m4 (ej rfl rfl) (ej rfl rfl) (ej rfl rfl) (ej rfl rfl)) (args := #[.pointer (some ⟨g,0,none⟩),.string x.p,.int .i64 (x.head.length : Int),.func (.func 91) #[] #[.pointer (some ⟨g1,0,none⟩),.pointer (some ⟨g4,0,none⟩)]]) rfl (p_columnsR x.p _ (x.head.map argW) g g1 g4 (s0) wz _ (Ext.trans (Ext.trans x0 (NewB.ext n3)) (NewB.ext n6)) tb (BW.ext (BW.ext hb (NewB.ext n3)) (NewB.ext n6)) (by rw [List.length_map]) (by rw [List.length_map]; exact h24_) (fun i_ hi_ => by rw [List.length_map] at hi_; rw [argW_at hi_]; have z_ := argW_size (hha_ i_ hi_) (RG_wf hrh hi_); omega) (by omega) (fun i_ w_ s_ hi_ x_ bl_ hb_ hs_ => by rw [List.length_map] at hi_; rw [argW_at hi_]; exact p_rule1 i_ x Ah Ab ch cb g g1 g4 s_ wz w_ x_ tb hb_ tf hrh (Bld.blk bl_ (Ext.blk (NewB.ext n6) (NewB.blk n3)) (Or.inl (by decide)) ne_g1) (Bld.blk bl_ (NewB.blk n6) (Or.inl (by decide)) ne_g4) hi_ (hha_ i_ hi_) hs_)) ?_)))))))))))
  rintro _ w7 ⟨rfl,wr8⟩
  refine c_done (n_then (c_seq (c_seq (c_reg (s_field (off := 2) (o' := 2) F_f53_2 (ej rfl rfl) rfl (w0 rfl) (s_load (v := .slice Ab x.body.length cb) F_o40 (ej rfl rfl) (cell_of_blk (i := 2) (Wr.blk wr8 (NewB.blk n6) (Or.inl (by decide)) ne_g4) rfl) (w0 rfl) (s_lenL F_l40 (ej rfl rfl) (w0 rfl) (s_move (v := .int .i64 0) ev_c (w0 rfl) (c_done (n_then (c_block ?_)))))))))))
  have ge9 : wz.heap.size ≤ g1 := by have a_ := NewB.eq n3; have b_ := Keep.size x0; omega
  refine c_loop (α := Nat) (fun (k : Nat) env_ w_ => Wr 5 97 wz.heap.size g (s0 ++ colW x.p (x.head.map argW) ++ ruP x.body k) w w_ ∧ w_.heap[g1]? = some (.cells #[.pointer (some ⟨g,0,none⟩)] 73 (0,0)) ∧ k ≤ x.body.length ∧ env_ 2 = .pointer (some ⟨g1,0,none⟩) ∧ env_ 15 = .slice Ab x.body.length cb ∧ env_ 16 = .int .i64 (x.body.length : Int) ∧ env_ 17 = .int .i64 ((k : Nat) : Int)) (fun k => x.body.length - k) (0) ⟨(Wr.cast (Wr.then_ (Wr.of_ext hb (Ext.trans (NewB.ext n3) (NewB.ext n6)) hB_) wr8) (by simp only [ruP,app_nil])),(Wr.blk wr8 (Ext.blk (NewB.ext n6) (NewB.blk n3)) (Or.inl (by decide)) ne_g1),Nat.zero_le _,rfl,rfl,rfl,rfl⟩ ?_
  rintro k env12 w10 ⟨x11,bk18,i13,e14,e15,e16,e17⟩
  have hP_ := ruP_le hrb hlb_ k i13
  have hkb_ : k * 500004 ≤ 16 * 500004 := Nat.mul_le_mul_right _ (by omega)
  refine c_seq (c_reg (s_cmp (r := decide (((k : Nat) : Int) < (x.body.length : Int))) (ej rfl e17) (ej rfl e16) rfl (w0 rfl) (c_done (n_then (c_seq ?_)))))
  by_cases h19 : ((k : Nat) : Int) < (x.body.length : Int)
  · refine c_cond1 (vb (ej rfl rfl) (decide_eq_true h19)) (c_skip (n_then (c_seq (c_block (c_seq (c_reg (s_move (v := .int .i64 ((k : Nat) : Int)) (ej rfl e17) (w0 rfl) ?_)))))))
    obtain ⟨b20,o21,x22,csx22,hA23,hx24,hR25,hc26⟩ := Row.at_ hrb k (by omega)
    obtain rfl := ltAt_of hx24
    obtain ⟨Aa27,A28,A29,ca30,c31,c32,rfl,ho33,ra34,r35,r36⟩ := hR25
    have q37_a := Lt.okc.a ho33
    have q37_e1 := Lt.okc.e1 ho33
    have q37_e2 := Lt.okc.e2 ho33
    have := Ex.okc.l q37_e1
    have := Ex.okc.l q37_e2
    have := Ex.okc.c q37_e1
    have := Ex.okc.c q37_e2
    have := At.okc.l q37_a
    have := At.okc.c q37_a
    have := At.okc.p q37_a
    refine s_indexR (j := k) F_l40 (ej rfl e15) hA23 (ej rfl e17) rfl (by omega) (w0 rfl) (s_loadL (cs := [.int .i8 ((ltAt x.body k).k),.string ((ltAt x.body k).a.p),.slice Aa27 ((ltAt x.body k).a.args.length) ca30,.int .i8 ((ltAt x.body k).r),.int .i8 ((ltAt x.body k).e1.op),.string ((ltAt x.body k).e1.t.v),.int .i8 ((ltAt x.body k).e1.t.l.k),.int .i64 ((ltAt x.body k).e1.t.l.n),.string ((ltAt x.body k).e1.t.l.s),.slice A28 ((ltAt x.body k).e1.kids.length) c31,.int .i8 ((ltAt x.body k).e2.op),.string ((ltAt x.body k).e2.t.v),.int .i8 ((ltAt x.body k).e2.t.l.k),.int .i64 ((ltAt x.body k).e2.t.l.n),.string ((ltAt x.body k).e2.t.l.s),.slice A29 ((ltAt x.body k).e2.kids.length) c32]) F_m38 (ej rfl rfl) rfl rfl (sub_cells (cells_ext (Wr.after x11 x0 rfl) hc26) 0 rfl) (w0 rfl) (s_alloc (cs := #[.int .i8 0,.string (⟨#[]⟩ : ByteArray),.slice none 0 0,.int .i8 0,.int .i8 0,.string (⟨#[]⟩ : ByteArray),.int .i8 0,.int .i64 0,.string (⟨#[]⟩ : ByteArray),.slice none 0 0,.int .i8 0,.string (⟨#[]⟩ : ByteArray),.int .i8 0,.int .i64 0,.string (⟨#[]⟩ : ByteArray),.slice none 0 0]) (w0 rfl) F_z38 rfl ?_))
    intro w39 g38 n40
    have ne_g38 : g38 ≠ g := by have a_ := NewB.eq n40; have b_ := BW.lt (Wr.bw x11); omega
    refine s_assign (v := .int .i64 ((k : Nat) : Int)) (ej rfl rfl) (w0 rfl) (s_store (cs' := #[.int .i8 ((ltAt x.body k).k),.string ((ltAt x.body k).a.p),.slice Aa27 ((ltAt x.body k).a.args.length) ca30,.int .i8 ((ltAt x.body k).r),.int .i8 ((ltAt x.body k).e1.op),.string ((ltAt x.body k).e1.t.v),.int .i8 ((ltAt x.body k).e1.t.l.k),.int .i64 ((ltAt x.body k).e1.t.l.n),.string ((ltAt x.body k).e1.t.l.s),.slice A28 ((ltAt x.body k).e1.kids.length) c31,.int .i8 ((ltAt x.body k).e2.op),.string ((ltAt x.body k).e2.t.v),.int .i8 ((ltAt x.body k).e2.t.l.k),.int .i64 ((ltAt x.body k).e2.t.l.n),.string ((ltAt x.body k).e2.t.l.s),.slice A29 ((ltAt x.body k).e2.kids.length) c32]) F_sz38 (ej rfl rfl) (ej rfl rfl) (l := [.int .i8 ((ltAt x.body k).k),.string ((ltAt x.body k).a.p),.slice Aa27 ((ltAt x.body k).a.args.length) ca30,.int .i8 ((ltAt x.body k).r),.int .i8 ((ltAt x.body k).e1.op),.string ((ltAt x.body k).e1.t.v),.int .i8 ((ltAt x.body k).e1.t.l.k),.int .i64 ((ltAt x.body k).e1.t.l.n),.string ((ltAt x.body k).e1.t.l.s),.slice A28 ((ltAt x.body k).e1.kids.length) c31,.int .i8 ((ltAt x.body k).e2.op),.string ((ltAt x.body k).e2.t.v),.int .i8 ((ltAt x.body k).e2.t.l.k),.int .i64 ((ltAt x.body k).e2.t.l.n),.string ((ltAt x.body k).e2.t.l.s),.slice A29 ((ltAt x.body k).e2.kids.length) c32]) rfl rfl rfl (NewB.blk n40) (Nat.le_of_ble_eq_true rfl) rfl (w0 rfl) ?_)
    intro w41 k42
    refine c_done (n_then (c_seq (c_seq (c_reg (s_move (v := .int .i64 ((k : Nat) : Int)) (ej rfl rfl) (w0 rfl) (s_cmp (r := decide (((k : Nat) : Int) = 0)) (ej rfl rfl) ev_c rfl (w0 rfl) (c_done (n_then ?_))))))))
    by_cases h43 : ((k : Nat) : Int) = 0
    · refine c_cond1 (vb (ej rfl rfl) (decide_eq_true h43)) (c_reg (s_load (v := .pointer (some ⟨g,0,none⟩)) F_o73 (ej rfl e14) (cell_of_blk (i := 0) (Ext.blk (Keep.then_ (NewB.ext n40) (Wrote.keep k42) (fun i_ hi_ h_ => by have a_ := NewB.eq n40; have b_ := Keep.size (Ext.refl w10); omega)) bk18) rfl) (w0 rfl) (s_bslice (vs := [(0,.string (⟨#[32,58,45,32]⟩ : ByteArray))]) (cs := #[.string (⟨#[32,58,45,32]⟩ : ByteArray)]) (b1 ev_c) (bs106_1_0s (⟨#[32,58,45,32]⟩ : ByteArray)) (w0 rfl) ?_)))
      intro w45 g44 n46
      have ne_g44 : g44 ≠ g := by have a_ := NewB.eq n46; have b_ := BW.lt (BW.ext (Wr.bw x11) (Keep.then_ (NewB.ext n40) (Wrote.keep k42) (fun i_ hi_ h_ => by have a_ := NewB.eq n40; have b_ := Keep.size (Ext.refl w10); omega))); omega
      refine s_call F_e54 (w0 rfl) ev_f (m2 (ej rfl rfl) (ej rfl rfl)) (args := #[.pointer (some ⟨g,0,none⟩),.slice (some ⟨g44,0,none⟩) 1 1]) rfl (p_put 97 _ g g44 (s0 ++ colW x.p (x.head.map argW) ++ ruP x.body k) [(⟨#[32,58,45,32]⟩ : ByteArray)] _ (BW.ext (Wr.bw x11) (Ext.trans (Keep.then_ (NewB.ext n40) (Wrote.keep k42) (fun i_ hi_ h_ => by have a_ := NewB.eq n40; have b_ := Keep.size (Ext.refl w10); omega)) (NewB.ext n46))) (Nat.le_trans (Nat.le_trans (Nat.le_trans (Nat.le_trans hB_ (Wr.size x11)) (Keep.size (NewB.ext n40))) (Keep.size (Wrote.keep k42))) (Keep.size (NewB.ext n46))) (by decide) F_lies97 (NewB.blk n46) (by simp only [catL,ByteArray.size_append,z0,z1,z2,z3,z4,z5,z6,z7]; omega) (by simp)) ?_
      rintro _ w47 ⟨rfl,wr48⟩
      refine c_done (n_then (c_reg (s_load (v := .pointer (some ⟨g,0,none⟩)) F_o73 (ej rfl e14) (cell_of_blk (i := 0) (Wr.blk wr48 (Ext.blk (NewB.ext n46) (Keep.blk (Wrote.keep k42) (Ext.blk (NewB.ext n40) bk18) (by have a_ := NewB.eq n40; have b_ := lt_of_blk bk18; omega))) (Or.inl (by decide)) ne_g1) rfl) (w0 rfl) (s_loadL (cs := [.int .i8 ((ltAt x.body k).k),.string ((ltAt x.body k).a.p),.slice Aa27 ((ltAt x.body k).a.args.length) ca30,.int .i8 ((ltAt x.body k).r),.int .i8 ((ltAt x.body k).e1.op),.string ((ltAt x.body k).e1.t.v),.int .i8 ((ltAt x.body k).e1.t.l.k),.int .i64 ((ltAt x.body k).e1.t.l.n),.string ((ltAt x.body k).e1.t.l.s),.slice A28 ((ltAt x.body k).e1.kids.length) c31,.int .i8 ((ltAt x.body k).e2.op),.string ((ltAt x.body k).e2.t.v),.int .i8 ((ltAt x.body k).e2.t.l.k),.int .i64 ((ltAt x.body k).e2.t.l.n),.string ((ltAt x.body k).e2.t.l.s),.slice A29 ((ltAt x.body k).e2.kids.length) c32]) F_m38 (ej rfl rfl) rfl rfl (blk_cells (Wr.blk wr48 (Ext.blk (NewB.ext n46) (Wrote.blk k42)) (Or.inl (by decide)) ne_g38) 0 rfl) (w0 rfl) ?_))))
      have hz49 := ltW_at hrb hlb_ (i := k) (by omega)
      refine s_call F_e40 (w0 rfl) ev_f (m2 (ej rfl rfl) (ej rfl rfl)) (args := #[.pointer (some ⟨g,0,none⟩),.agg #[.int .i8 ((ltAt x.body k).k),.string ((ltAt x.body k).a.p),.slice Aa27 ((ltAt x.body k).a.args.length) ca30,.int .i8 ((ltAt x.body k).r),.int .i8 ((ltAt x.body k).e1.op),.string ((ltAt x.body k).e1.t.v),.int .i8 ((ltAt x.body k).e1.t.l.k),.int .i64 ((ltAt x.body k).e1.t.l.n),.string ((ltAt x.body k).e1.t.l.s),.slice A28 ((ltAt x.body k).e1.kids.length) c31,.int .i8 ((ltAt x.body k).e2.op),.string ((ltAt x.body k).e2.t.v),.int .i8 ((ltAt x.body k).e2.t.l.k),.int .i64 ((ltAt x.body k).e2.t.l.n),.string ((ltAt x.body k).e2.t.l.s),.slice A29 ((ltAt x.body k).e2.kids.length) c32]]) rfl (p_literal (ltAt x.body k) Aa27 A28 A29 ca30 c31 c32 g (s0 ++ colW x.p (x.head.map argW) ++ ruP x.body k ++ (catL [(⟨#[32,58,45,32]⟩ : ByteArray)])) wz _ (Wr.after wr48 (Ext.trans (Keep.then_ (Ext.trans (Wr.after x11 x0 rfl) (NewB.ext n40)) (Wrote.keep k42) (fun i_ hi_ h_ => by have a_ := NewB.eq n40; have b_ := Keep.size (Wr.after x11 x0 rfl); omega)) (NewB.ext n46)) rfl) tb (Wr.bw wr48) ho33 ra34 r35 r36 (hlb_ k (by omega)) tr (by (try simp only [ByteArray.size_append,catL,z0,z2,z4]); omega)) ?_
      rintro _ w50 ⟨rfl,wr51⟩
      refine c_done (n_block (n_then (c_reg (s_add (r := ((k + 1 : Nat) : Int)) (ej rfl e17) ev_c (by omega) (by omega) (w0 rfl) (s_move (v := .int .i64 ((k + 1 : Nat) : Int)) (ej rfl rfl) (w0 rfl) (c_done ?_))))))
      exact ⟨(k + 1),_,rfl,⟨(Wr.cast (Wr.then_ (Wr.then_ (Wr.ext x11 (Ext.trans (Keep.then_ (NewB.ext n40) (Wrote.keep k42) (fun i_ hi_ h_ => by have a_ := NewB.eq n40; have b_ := Keep.size (Ext.refl w10); omega)) (NewB.ext n46)) hB_) wr48) wr51) (by simp only [ruP]; (first | rw [if_pos (by omega)] | rw [if_neg (by omega)]); simp only [catL,app_nil,app_assoc])),(Wr.blk wr51 (Wr.blk wr48 (Ext.blk (NewB.ext n46) (Keep.blk (Wrote.keep k42) (Ext.blk (NewB.ext n40) bk18) (by have a_ := NewB.eq n40; have b_ := lt_of_blk bk18; omega))) (Or.inl (by decide)) ne_g1) (Or.inl (by decide)) ne_g1),by omega,e14,e15,e16,rfl⟩,(show x.body.length - (k + 1) < x.body.length - k by omega)⟩
    refine c_cond0 (vb (ej rfl rfl) (decide_eq_false h43)) (c_reg (s_load (v := .pointer (some ⟨g,0,none⟩)) F_o73 (ej rfl e14) (cell_of_blk (i := 0) (Ext.blk (Keep.then_ (NewB.ext n40) (Wrote.keep k42) (fun i_ hi_ h_ => by have a_ := NewB.eq n40; have b_ := Keep.size (Ext.refl w10); omega)) bk18) rfl) (w0 rfl) (s_bslice (vs := [(0,.string (⟨#[44,32]⟩ : ByteArray))]) (cs := #[.string (⟨#[44,32]⟩ : ByteArray)]) (b1 ev_c) (bs106_1_0s (⟨#[44,32]⟩ : ByteArray)) (w0 rfl) ?_)))
    intro w53 g52 n54
    have ne_g52 : g52 ≠ g := by have a_ := NewB.eq n54; have b_ := BW.lt (BW.ext (Wr.bw x11) (Keep.then_ (NewB.ext n40) (Wrote.keep k42) (fun i_ hi_ h_ => by have a_ := NewB.eq n40; have b_ := Keep.size (Ext.refl w10); omega))); omega
    refine s_call F_e54 (w0 rfl) ev_f (m2 (ej rfl rfl) (ej rfl rfl)) (args := #[.pointer (some ⟨g,0,none⟩),.slice (some ⟨g52,0,none⟩) 1 1]) rfl (p_put 97 _ g g52 (s0 ++ colW x.p (x.head.map argW) ++ ruP x.body k) [(⟨#[44,32]⟩ : ByteArray)] _ (BW.ext (Wr.bw x11) (Ext.trans (Keep.then_ (NewB.ext n40) (Wrote.keep k42) (fun i_ hi_ h_ => by have a_ := NewB.eq n40; have b_ := Keep.size (Ext.refl w10); omega)) (NewB.ext n54))) (Nat.le_trans (Nat.le_trans (Nat.le_trans (Nat.le_trans hB_ (Wr.size x11)) (Keep.size (NewB.ext n40))) (Keep.size (Wrote.keep k42))) (Keep.size (NewB.ext n54))) (by decide) F_lies97 (NewB.blk n54) (by simp only [catL,ByteArray.size_append,z0,z1,z2,z3,z4,z5,z6,z7]; omega) (by simp)) ?_
    rintro _ w55 ⟨rfl,wr56⟩
    refine c_done (n_then (c_reg (s_load (v := .pointer (some ⟨g,0,none⟩)) F_o73 (ej rfl e14) (cell_of_blk (i := 0) (Wr.blk wr56 (Ext.blk (NewB.ext n54) (Keep.blk (Wrote.keep k42) (Ext.blk (NewB.ext n40) bk18) (by have a_ := NewB.eq n40; have b_ := lt_of_blk bk18; omega))) (Or.inl (by decide)) ne_g1) rfl) (w0 rfl) (s_loadL (cs := [.int .i8 ((ltAt x.body k).k),.string ((ltAt x.body k).a.p),.slice Aa27 ((ltAt x.body k).a.args.length) ca30,.int .i8 ((ltAt x.body k).r),.int .i8 ((ltAt x.body k).e1.op),.string ((ltAt x.body k).e1.t.v),.int .i8 ((ltAt x.body k).e1.t.l.k),.int .i64 ((ltAt x.body k).e1.t.l.n),.string ((ltAt x.body k).e1.t.l.s),.slice A28 ((ltAt x.body k).e1.kids.length) c31,.int .i8 ((ltAt x.body k).e2.op),.string ((ltAt x.body k).e2.t.v),.int .i8 ((ltAt x.body k).e2.t.l.k),.int .i64 ((ltAt x.body k).e2.t.l.n),.string ((ltAt x.body k).e2.t.l.s),.slice A29 ((ltAt x.body k).e2.kids.length) c32]) F_m38 (ej rfl rfl) rfl rfl (blk_cells (Wr.blk wr56 (Ext.blk (NewB.ext n54) (Wrote.blk k42)) (Or.inl (by decide)) ne_g38) 0 rfl) (w0 rfl) ?_))))
    have hz57 := ltW_at hrb hlb_ (i := k) (by omega)
    refine s_call F_e40 (w0 rfl) ev_f (m2 (ej rfl rfl) (ej rfl rfl)) (args := #[.pointer (some ⟨g,0,none⟩),.agg #[.int .i8 ((ltAt x.body k).k),.string ((ltAt x.body k).a.p),.slice Aa27 ((ltAt x.body k).a.args.length) ca30,.int .i8 ((ltAt x.body k).r),.int .i8 ((ltAt x.body k).e1.op),.string ((ltAt x.body k).e1.t.v),.int .i8 ((ltAt x.body k).e1.t.l.k),.int .i64 ((ltAt x.body k).e1.t.l.n),.string ((ltAt x.body k).e1.t.l.s),.slice A28 ((ltAt x.body k).e1.kids.length) c31,.int .i8 ((ltAt x.body k).e2.op),.string ((ltAt x.body k).e2.t.v),.int .i8 ((ltAt x.body k).e2.t.l.k),.int .i64 ((ltAt x.body k).e2.t.l.n),.string ((ltAt x.body k).e2.t.l.s),.slice A29 ((ltAt x.body k).e2.kids.length) c32]]) rfl (p_literal (ltAt x.body k) Aa27 A28 A29 ca30 c31 c32 g (s0 ++ colW x.p (x.head.map argW) ++ ruP x.body k ++ (catL [(⟨#[44,32]⟩ : ByteArray)])) wz _ (Wr.after wr56 (Ext.trans (Keep.then_ (Ext.trans (Wr.after x11 x0 rfl) (NewB.ext n40)) (Wrote.keep k42) (fun i_ hi_ h_ => by have a_ := NewB.eq n40; have b_ := Keep.size (Wr.after x11 x0 rfl); omega)) (NewB.ext n54)) rfl) tb (Wr.bw wr56) ho33 ra34 r35 r36 (hlb_ k (by omega)) tr (by (try simp only [ByteArray.size_append,catL,z0,z2,z4]); omega)) ?_
    rintro _ w58 ⟨rfl,wr59⟩
    refine c_done (n_block (n_then (c_reg (s_add (r := ((k + 1 : Nat) : Int)) (ej rfl e17) ev_c (by omega) (by omega) (w0 rfl) (s_move (v := .int .i64 ((k + 1 : Nat) : Int)) (ej rfl rfl) (w0 rfl) (c_done ?_))))))
    exact ⟨(k + 1),_,rfl,⟨(Wr.cast (Wr.then_ (Wr.then_ (Wr.ext x11 (Ext.trans (Keep.then_ (NewB.ext n40) (Wrote.keep k42) (fun i_ hi_ h_ => by have a_ := NewB.eq n40; have b_ := Keep.size (Ext.refl w10); omega)) (NewB.ext n54)) hB_) wr56) wr59) (by simp only [ruP]; (first | rw [if_pos (by omega)] | rw [if_neg (by omega)]); simp only [catL,app_nil,app_assoc])),(Wr.blk wr59 (Wr.blk wr56 (Ext.blk (NewB.ext n54) (Keep.blk (Wrote.keep k42) (Ext.blk (NewB.ext n40) bk18) (by have a_ := NewB.eq n40; have b_ := lt_of_blk bk18; omega))) (Or.inl (by decide)) ne_g1) (Or.inl (by decide)) ne_g1),by omega,e14,e15,e16,rfl⟩,(show x.body.length - (k + 1) < x.body.length - k by omega)⟩
  refine c_cond0 (vb (ej rfl rfl) (decide_eq_false h19)) (c_exit (e_then (e_then (e_hit (n_then (c_reg (s_load (v := .pointer (some ⟨g,0,none⟩)) F_o73 (ej rfl e14) (cell_of_blk (i := 0) bk18 rfl) (w0 rfl) (s_bslice (vs := [(0,.string (⟨#[46]⟩ : ByteArray))]) (cs := #[.string (⟨#[46]⟩ : ByteArray)]) (b1 ev_c) (bs106_1_0s (⟨#[46]⟩ : ByteArray)) (w0 rfl) ?_))))))))
  intro w61 g60 n62
  have ne_g60 : g60 ≠ g := by have a_ := NewB.eq n62; have b_ := BW.lt (Wr.bw x11); omega
  refine s_call F_e54 (w0 rfl) ev_f (m2 (ej rfl rfl) (ej rfl rfl)) (args := #[.pointer (some ⟨g,0,none⟩),.slice (some ⟨g60,0,none⟩) 1 1]) rfl (p_put 97 _ g g60 (s0 ++ colW x.p (x.head.map argW) ++ ruP x.body k) [(⟨#[46]⟩ : ByteArray)] _ (BW.ext (Wr.bw x11) (NewB.ext n62)) (Nat.le_trans (Nat.le_trans hB_ (Wr.size x11)) (Keep.size (NewB.ext n62))) (by decide) F_lies97 (NewB.blk n62) (by simp only [catL,ByteArray.size_append,z0,z1,z2,z3,z4,z5,z6,z7]; omega) (by simp)) ?_
  rintro _ w63 ⟨rfl,wr64⟩
  refine c_done (ret0 rfl ?_)
  exact ⟨_,rfl,rfl,Wr.cast (Wr.then_ (Wr.ext x11 (NewB.ext n62) hB_) wr64) (by (have e_ : k = x.body.length := by omega); subst e_; simp only [ruW,catL,app_nil,app_assoc])⟩
end Go.Proofs.Zw

set_option linter.unusedVariables false
set_option linter.unusedSimpArgs false
set_option maxRecDepth 10000
namespace Go.Proofs.Zw
open Go Go.Wk Go.Proofs Go.Lib
attribute [local irreducible] Go.wpList Go.wpStill Go.wpQuiet Go.Code.wp Go.Calls
theorem F_e19 : enterable Tryz.prog 19 = true := by kernel_rfl
theorem F_e22 : enterable Tryz.prog 22 = true := by kernel_rfl
theorem F_e49 : enterable Tryz.prog 49 = true := by kernel_rfl
theorem F_e50 : enterable Tryz.prog 50 = true := by kernel_rfl
end Go.Proofs.Zw

set_option linter.unusedVariables false
set_option linter.unusedSimpArgs false
namespace Go.Wk
open Go Go.RowKit Go.Lib
/-! ### texts of programs -/
def pgW (l : List Ru) : Nat → ByteArray
  | 0 => ⟨#[]⟩
  | i + 1 => pgW l i ++ ruW (ruAt l i) ++ ⟨#[10]⟩
def pgT (l : List Ru) : ByteArray := pgW l l.length
theorem ruW_at {w : World} {A : Option Addr} {l : List Ru} {i : Nat} (hr : Row RU 3 w A l) (hi : i < l.length) (hb : ruB (ruAt l i) = true) : (ruW (ruAt l i)).size ≤ 8100000 := by
  obtain ⟨_,_,y,_,_,hy,hR,_⟩ := hr.at_ i hi
  have e := ruAt_of hy
  obtain ⟨Ah,Ab,ch,cb,_,ho,rh,rb⟩ := hR
  rw [e] at hb ⊢
  exact ruW_size hb rh rb
theorem pgW_le {w : World} {A : Option Addr} {l : List Ru} (hr : Row RU 3 w A l) : ∀ i,i ≤ l.length → (∀ j y,j < i → l[j]? = some y → ruB y = true) → (pgW l i).size ≤ i * 8100001
  | 0,_,_ => by simp [pgW,z0]
  | i + 1,hi,hb => by
    have h1 := pgW_le hr i (by omega) (fun j y hj hy => hb j y (by omega) hy)
    have h2 := ruW_at hr (i := i) (by omega) (hb i _ (by omega) (ruAt_there (by omega)))
    simp only [pgW,ByteArray.size_append,Nat.add_mul,Nat.one_mul,z1]
    omega
theorem pgT_ne {l : List Ru} (h : l.length ≠ 0) : (pgT l).size ≠ 0 := by
  obtain ⟨i,hi⟩ := Nat.exists_eq_succ_of_ne_zero h
  unfold pgT; rw [hi]; simp only [pgW,ByteArray.size_append,z1]; omega
/-! ### a copied list of rules whose elements change places -/
def FU (e lo : Nat) (w : World) (b : Nat) (l : List Ru) : Prop := lo ≤ b ∧ Fill (EG QU markU (b + 1) l) 3 e w b (l.length + 1) (l.length + 1)
section
variable {e lo b : Nat} {w w' : World} {l : List Ru}
theorem FU.tw (h : FU e lo w b l) : TwG QU markU 3 lo w b l := TwG.of_fill okU h.2 (by have := h.1; omega) h.1
theorem FU.ext (h : FU e lo w b l) (x : Ext w w') : FU e lo w' b l := ⟨h.1,Fill.ext h.2 x (fun j c hE => EG.keep okU hE x (fun _ h => h.elim))⟩
theorem FU.mono {lo' : Nat} (h : FU e lo w b l) (hl : lo' ≤ lo) : FU e lo' w b l := ⟨Nat.le_trans hl h.1,h.2⟩
theorem FU.at_ (h : FU e lo w b l) {j : Nat} (hj : j < l.length) : ∃ c,QU (b + 1) w (ruAt l j) c ∧ ∀ (k : Nat) (u : Value),c[k]? = some u → w.cell? ⟨b,0 + j * 3 + k,none⟩ = some u := by
  obtain ⟨c,h1,_,h3⟩ := h.2.cells j (by omega)
  unfold EG at h1; rw [if_pos hj] at h1
  exact ⟨c,h1 _ (ruAt_there hj),h3⟩
end
section
variable {P : Program} {ops : Array Oper} {Q : Exit → Act → World → Prop} {rest : List Oper} {n d t : Nat} {env : Nat → Value} {ds : List Deferred} {w w' : World} {v u : Value}
  {ty T : TypeId} {pos : String} {af : Array Edge} {gd : Option (Nat × Bool)} {x y z : Operand}
theorem s_storeU {e b i lo : Nat} {l : List Ru} {q : Ru} {c : List Value} (hF : FU e lo w b l) (hi : i < l.length) (hsz : (P.info? T).map (·.size) = some 3) (hx : (mkA n env ds).eval x = .pointer (some ⟨b,0 + i * 3,none⟩)) (hy : (mkA n env ds).eval y = v) (hv : v.cells = c.toArray) (hl : c.length = 3) (h1 : (c.all (·.oneCell')) = true)
    (hq : QU (b + 1) w q c) (hw : Region.wanted ⟨none,.store T x y,ty,pos,af,gd⟩ (yielded ops (mkA n env ds).tmps) = true)
    (k : ∀ w',FU e lo w' b (l.set i q) → Keep (fun k => k = b) w w' → wpList P ops Q rest (mkA n env ds) w') : wpList P ops Q (⟨none,.store T x y,ty,pos,af,gd⟩ :: rest) (mkA n env ds) w := by
  obtain ⟨hlo,cs,hb,hs,hc⟩ := hF
  have hN : i * 3 + 3 ≤ (l.length + 1) * 3 := by omega
  refine s_store (g := b) (o := 0 + i * 3) (m := 3) (l := c) hsz hx hy hv hl h1 hb (by rw [hs]; omega) rfl hw fun w' hwr => k w' ?_ hwr.keep
  have hlen : (l.set i q).length = l.length := by simp
  refine ⟨hlo,?_⟩
  rw [hlen]
  refine ⟨_,hwr.blk,?_,fun j hj => ?_⟩
  · simp only [List.size_toArray,List.length_append,List.length_take,List.length_drop,Array.length_toList,hs,hl]
    omega
  · by_cases e1 : j = i
    · subst e1
      refine ⟨c,EG.of (x := q) (by simp [hi]) (okU.keep hq hwr.keep (fun i_ h_ => by omega)),hl,fun k u hu => ?_⟩
      have hk : k < 3 := by rw [← hl]; exact (List.getElem?_eq_some_iff.1 hu).1
      have hlen2 : (cs.toList.take (0 + j * 3)).length = j * 3 := by simp only [List.length_take,Array.length_toList,hs]; omega
      rw [List.getElem?_toArray,List.getElem?_append_left (by simp only [List.length_append,hlen2,hl]; omega),List.getElem?_append_right (by rw [hlen2]; omega),hlen2,show j * 3 + k - j * 3 = k by omega]
      exact hu
    · obtain ⟨l2,a1,a2,a3⟩ := hc j hj
      refine ⟨l2,?_,a2,fun k u hu => ?_⟩
      · have a4 := EG.keep okU a1 hwr.keep (fun i_ h_ => by omega)
        unfold EG at a4 ⊢
        rw [hlen]
        split
        · rename_i hjl; rw [if_pos hjl] at a4
          intro z hz
          rw [List.getElem?_set_ne (Ne.symm e1)] at hz
          exact a4 z hz
        · rename_i hjl; rw [if_neg hjl] at a4; exact a4
      · have hk : k < 3 := by rw [← a2]; exact (List.getElem?_eq_some_iff.1 hu).1
        have hu' := a3 k u hu
        have hlen2 : (cs.toList.take (0 + i * 3)).length = i * 3 := by simp only [List.length_take,Array.length_toList,hs]; omega
        rcases Nat.lt_or_gt_of_ne e1 with hlt | hgt
        · rw [List.getElem?_toArray,List.getElem?_append_left (by simp only [List.length_append,hlen2,hl]; omega),List.getElem?_append_left (by rw [hlen2]; omega),List.getElem?_take,if_pos (by omega)]
          simpa using hu'
        · rw [List.getElem?_toArray,List.getElem?_append_right (by simp only [List.length_append,hlen2,hl]; omega),List.getElem?_drop]
          simp only [List.length_append,hlen2,hl]
          have : 0 + i * 3 + 3 + (j * 3 + k - (i * 3 + 3)) = j * 3 + k := by omega
          rw [this]
          simpa using hu'
/-! ### an empty text -/
theorem r_sliceDataN {ln c : Nat} (hx : (mkA n env ds).eval x = .slice none ln c) : (execOp (mkA n env ds).eval ⟨some d,.call ⟨.builtin .unsafeSliceData,#[x],#[T]⟩,ty,pos,af,gd⟩).run P w = .ok (.value (.pointer none)) w := by
  simp only [execOp,resolve,Sem.run_bind,Sem.run_pure,Result.andThen_ok,invoke,builtin,m1 hx]
  rfl
theorem r_unsafeStringN {pt it : TypeId} (hx : (mkA n env ds).eval x = .pointer none) (hy : (mkA n env ds).eval y = .int .i64 0) : (execOp (mkA n env ds).eval ⟨some d,.call ⟨.builtin .unsafeString,#[x,y],#[pt,it]⟩,ty,pos,af,gd⟩).run P w = .ok (.value (.string ⟨#[]⟩)) w := by
  simp only [execOp,resolve,Sem.run_bind,Sem.run_pure,Result.andThen_ok,invoke,builtin,m2 hx hy]
  rfl
theorem s_unsafeStringN {pt it : TypeId} (hx : (mkA n env ds).eval x = .pointer none) (hy : (mkA n env ds).eval y = .int .i64 0) (hw : Region.wanted ⟨some d,.call ⟨.builtin .unsafeString,#[x,y],#[pt,it]⟩,ty,pos,af,gd⟩ (yielded ops (mkA n env ds).tmps) = true)
    (k : wpList P ops Q rest (mkA n (upd env d (.string ⟨#[]⟩)) ds) w) : wpList P ops Q (⟨some d,.call ⟨.builtin .unsafeString,#[x,y],#[pt,it]⟩,ty,pos,af,gd⟩ :: rest) (mkA n env ds) w := s_val hw (r_unsafeStringN hx hy) k
end
theorem quo_i64 (m k : Nat) {K : Int} (hK : K = ((k : Nat) : Int)) (hk : 0 < k) (h : m ≤ 9223372036854775807) : IntKind.i64.wrap (((m : Nat) : Int).tdiv K) = ((m / k : Nat) : Int) := by
  subst hK
  have e : ((m : Nat) : Int).tdiv ((k : Nat) : Int) = ((m / k : Nat) : Int) := rfl
  have : m / k ≤ m := Nat.div_le_self m k
  rw [e]; generalize m / k = q at *; exact conv_i64 (by omega)
section
variable {P : Program} {ops : Array Oper} {Q : Exit → Act → World → Prop} {n : Nat} {ds : List Deferred} {w w0 : World} {G : Nat → Value → World → World → Prop} {dst : Nat → Nat} {m nh : Nat} {env0 env : Nat → Value} {B A : Nat → World}
def freeB2 (md : Region.Mode) (ops : Array Oper) (pre : Nat → List Nat) (nh m : Nat) : Nat → Array Bool → Bool
  | 0,listed => (List.range m).all (fun k => listed.getD k false) && Region.seqB md ops (ops.size - m) m listed
  | f + 1,listed => !(Region.ready md ops listed).isEmpty && (Region.ready md ops listed).all fun i => decide (i < m) && decide (nh ≤ i) && (pre i).all (fun j => listed.getD j false && decide (j < m)) && !listed.getD i true && freeB2 md ops pre nh m f (listed.setIfInBounds i true)
theorem trace_go2 {wd : World} {pre : Nat → List Nat} (l : List Oper) (hl : l.toArray = ops) (hd : ∀ j,j < m → ∀ k,k < m → dst j = dst k → j = k)
    (step : ∀ k,nh ≤ k → k < m → ∀ (env : Nat → Value) (B A : Nat → World) (w1 : World),Tr G dst m wd env0 env (fun j => j ∈ pre k) B A w1 → ∃ o,ops[k]? = some o ∧ wpList P ops (onlyN fun a' w' => ∃ v,a' = mkA n (upd env (dst k) v) ds ∧ G k v w1 w' ∧ Ext w1 w') [o] (mkA n env ds) w1)
    (fin : ∀ (env : Nat → Value) (B A : Nat → World) (w1 : World),Tr G dst m wd env0 env (fun j => j < m) B A w1 → wpTailS P ops (fun _ => True) (Q .normal) (l.drop m) (mkA n env ds) w1) :
    ∀ (f : Nat) (listed : Array Bool) (env : Nat → Value) (B A : Nat → World) (w1 : World),freeB2 .any ops pre nh m f listed = true → Tr G dst m wd env0 env (fun j => listed.getD j false = true ∧ j < m) B A w1 → wpAnyH P .any ops (onlyN (Q .normal)) (fun _ => True) (f + (ops.size - m)) listed (mkA n env ds) w1
  | 0,listed,env,B,A,w1,hB,h => by
    simp only [freeB2,Bool.and_eq_true,List.all_eq_true,List.mem_range] at hB
    have hdl : (l.drop m).length = ops.size - m := by rw [← hl]; simp
    rw [Nat.zero_add,← hdl]
    refine wpAnyH_seq (l.drop m) m listed _ _ (fun j => by rw [← hl]; simp [List.getElem?_drop]) (by rw [hdl]; exact hB.2) (fin env B A w1 (h.sub fun k hk => ⟨hB.1 k hk,hk⟩))
  | f + 1,listed,env,B,A,w1,hB,h => by
    simp only [freeB2,Bool.and_eq_true,List.all_eq_true,Bool.not_eq_true',decide_eq_true_eq] at hB
    rw [show f + 1 + (ops.size - m) = (f + (ops.size - m)) + 1 by omega]
    refine wpAnyH_all (rs := Region.ready .any ops listed) rfl (by intro h0; rw [h0] at hB; simp at hB) fun i hi => ?_
    obtain ⟨⟨⟨⟨him,hnh⟩,hpre⟩,hnl⟩,hB'⟩ := hB.2 i hi
    obtain ⟨o,ho,hs⟩ := step i hnh him env B A w1 (h.sub fun k hk => hpre k hk)
    have hni : ¬ (listed.getD i false = true) := by
      have hlt : i < listed.size := by
        by_cases h : i < listed.size
        · exact h
        · simp [Array.getD,h] at hnl
      simp only [Array.getD,hlt,dif_pos] at hnl ⊢
      rw [hnl]; simp
    refine wpOp_mono (fun a2 w2 h2 => ⟨trivial,?_⟩) (wpOp_tail (md := .any) ho hs)
    obtain ⟨v,rfl,hg,hx⟩ := h2
    refine trace_go2 l hl hd step fin f _ (upd env (dst i) v) (fun k => if k = i then w1 else B k) (fun k => if k = i then w2 else A k) w2 hB' ?_
    have old : ∀ k,((listed.setIfInBounds i true).getD k false = true ∧ k < m) → k ≠ i → listed.getD k false = true ∧ k < m := fun k hk hn => ⟨((getD_set hnl).1 hk.1).resolve_left hn,hk.2⟩
    refine ⟨Ext.trans h.ext hx,fun k hk => ?_,fun k hk => ?_,fun k hk => ?_,fun k hk => ?_,fun j k hj hk hjk => ?_,fun s hs => ?_⟩
    · by_cases e : k = i
      · subst e; simp only [if_true]; rw [upd_eq]; exact hg
      · have hne : dst k ≠ dst i := fun he => e (hd k hk.2 i him he)
        simp only [if_neg e]; rw [upd_ne hne]; exact h.g k (old k hk e)
    · by_cases e : k = i
      · simp only [if_pos e]; exact h.ext
      · simp only [if_neg e]; exact h.x0 k (old k hk e)
    · by_cases e : k = i
      · simp only [if_pos e]; exact hx
      · simp only [if_neg e]; exact h.x1 k (old k hk e)
    · by_cases e : k = i
      · simp only [if_pos e]; exact Ext.refl _
      · simp only [if_neg e]; exact Ext.trans (h.x2 k (old k hk e)) hx
    · by_cases e : k = i
      · by_cases e2 : j = i
        · exact absurd (e2.trans e.symm) hjk
        · simp only [if_pos e,if_neg e2]; exact .inl (h.x2 j (old j hj e2))
      · by_cases e2 : j = i
        · simp only [if_neg e,if_pos e2]; exact .inr (h.x2 k (old k hk e))
        · simp only [if_neg e,if_neg e2]; exact h.ap j k (old j hj e2) (old k hk e) hjk
    · have hne : s ≠ dst i := fun he => hs i him he.symm
      rw [upd_ne hne]; exact h.env s hs
def trace2B (ops : Array Oper) (pre : Nat → List Nat) (nh m : Nat) : Bool := decide (m ≤ ops.size) && decide (nh ≤ m) && Region.noSelect ops && headF .any ops (fun listed => (List.range m).all (fun j => listed.getD j false == decide (j < nh)) && freeB2 .any ops pre nh m (m - nh) listed) nh 0 (Array.replicate ops.size false)
theorem c_trace2 {id : Nat} {l : List Oper} (G : Nat → Value → World → World → Prop) (dst : Nat → Nat) (pre : Nat → List Nat) (nh m : Nat) (hm : P.follows .mixedOrders = true) (hB : trace2B l.toArray pre nh m = true) (hd : ∀ j,j < m → ∀ k,k < m → dst j = dst k → j = k)
    (head : ∀ wd,Ext w wd → wpHead P l.toArray (fun _ => True) (fun a' => ∃ env',a' = mkA n env' ds ∧ (∀ k,k < nh → G k (env' (dst k)) wd wd) ∧ (∀ s,(∀ k,k < m → dst k ≠ s) → env' s = env0 s)) (l.take nh) (mkA n env0 ds))
    (step : ∀ wd,Ext w wd → ∀ k,nh ≤ k → k < m → ∀ (env : Nat → Value) (B A : Nat → World) (w1 : World),Tr G dst m wd env0 env (fun j => j ∈ pre k) B A w1 → ∃ o,l.toArray[k]? = some o ∧ wpList P l.toArray (onlyN fun a' w' => ∃ v,a' = mkA n (upd env (dst k) v) ds ∧ G k v w1 w' ∧ Ext w1 w') [o] (mkA n env ds) w1)
    (fin : ∀ wd,Ext w wd → ∀ (env : Nat → Value) (B A : Nat → World) (w1 : World),Tr G dst m wd env0 env (fun j => j < m) B A w1 → wpTailS P l.toArray (fun _ => True) (Q .normal) (l.drop m) (mkA n env ds) w1) : (Code.region id l.toArray true).wp P Q (mkA n env0 ds) w := by
  simp only [trace2B,Bool.and_eq_true,decide_eq_true_eq] at hB
  obtain ⟨⟨⟨hms,hnm⟩,hsel⟩,hlex⟩ := hB
  have hd0 : Ext w { w with drawn := w.drawn + 1 } := ⟨rfl,rfl,rfl,Nat.le_refl _,fun _ _ _ => rfl⟩
  refine wp_region_any hm (wpAny_onlyN _ _ _ _ (wpAny_of_held (S := fun _ => True) _ _ _ _ ?_))
  have htl : (l.take nh).length = nh := by simp at hms; simp; omega
  have := wpAnyH_headF (P := P) (md := .any) (g := l.toArray.size - nh) (T := Q .normal) (S := fun _ => True) (w := { w with drawn := w.drawn + 1 }) hsel trivial (Lq := fun a' => ∃ env',a' = mkA n env' ds ∧ (∀ k,k < nh → G k (env' (dst k)) { w with drawn := w.drawn + 1 } { w with drawn := w.drawn + 1 }) ∧ (∀ s,(∀ k,k < m → dst k ≠ s) → env' s = env0 s)) (fin := fun listed => (List.range m).all (fun j => listed.getD j false == decide (j < nh)) && freeB2 .any l.toArray pre nh m (m - nh) listed) (fun a' listed h1 h2 => by
    obtain ⟨env',rfl,hg,he⟩ := h1
    simp only [Bool.and_eq_true,List.all_eq_true,List.mem_range] at h2
    have e : l.toArray.size - nh = (m - nh) + (l.toArray.size - m) := by omega
    rw [e]
    refine trace_go2 l rfl hd (step _ hd0) (fin _ hd0) (m - nh) listed env' (fun _ => { w with drawn := w.drawn + 1 }) (fun _ => { w with drawn := w.drawn + 1 }) _ h2.2 ⟨Ext.refl _,fun k hk => ?_,fun _ _ => Ext.refl _,fun _ _ => Ext.refl _,fun _ _ => Ext.refl _,fun _ _ _ _ _ => .inl (Ext.refl _),he⟩
    have h3 := h2.1 k hk.2
    rw [hk.1] at h3
    exact hg k (by simpa using h3)) (l.take nh) 0 (Array.replicate l.toArray.size false) (mkA n env0 ds) (fun j hj => by
      have hj' : j < nh := by rw [htl] at hj; exact hj
      simp [hj']) (by rw [htl]; exact hlex) (head _ hd0)
  rw [htl,show nh + (l.toArray.size - nh) = l.toArray.size by omega] at this
  exact this
end
end Go.Wk

set_option linter.unusedVariables false
set_option linter.unusedSimpArgs false
set_option maxRecDepth 10000
namespace Go.Proofs.Zw
open Go Go.Wk Go.Proofs Go.Lib
attribute [local irreducible] Go.wpList Go.wpStill Go.wpQuiet Go.Code.wp Go.Calls
theorem F_e53 : enterable Tryz.prog 53 = true := by kernel_rfl
theorem F_e56 : enterable Tryz.prog 56 = true := by kernel_rfl
theorem F_iE58 : (Tryz.prog.info? (Tryz.prog.elem 58)).isSome = true := by kernel_rfl
theorem F_if53 : (Tryz.prog.info? 53).map (fun i => (i.zero,i.size,i.bytes)) = some (some (.agg #[.string (⟨#[]⟩ : ByteArray),.slice none 0 0,.slice none 0 0]),3,64) := by kernel_rfl
theorem F_l58 : sliceT Tryz.prog 58 3 = true := by kernel_rfl
theorem F_uE58 : Tryz.prog.underlying 58 = some (.slice (Tryz.prog.elem 58)) := by kernel_rfl
theorem F_ul58 : Tryz.prog.underlying 58 = some (.slice 53) := by kernel_rfl
theorem bd53_0s : ∀ (a0 : ByteArray),∀ w : World,(Instr.build 53 [(0,.string a0)].toArray).run Tryz.prog w = .ok (.agg #[.string a0,.slice none 0 0,.slice none 0 0]) w := by
  intros
  kernel_rfl
theorem l_BeyondRules (l : List Ru) (A : Option Addr) (c : Nat) (w : World) (hl : l.length * 64 ≤ 140737488351232) (hr : Row RU 3 w A l) :
    Rt Tryz.prog 23 #[.slice A l.length c] w fun v w' => (∃ z : Bool,v = .bool z ∧ (z = false → l.length ≤ 1048577)) ∧ Ext w w' := by
  refine enter Tryz.func23 rfl (l := [.slice A l.length c]) rfl Tryz.ntmps23 (Nat.le_of_ble_eq_true rfl) ?_
  refine c_seq (c_reg (s_assign (v := .bool false) ev_c (w0 rfl) (c_done (n_then (c_seq (c_reg (s_assign (v := .int .i64 0) ev_c (w0 rfl) (c_done (n_then (c_seq (c_seq ?_)))))))))))
  refine c_reg (s_assign (v := .int .i64 0) ev_c (w0 rfl) (c_done (n_then (c_block (c_loop (α := Nat × Nat) (fun x_ env_ w_ => match x_ with | (i,nn) => Ext w w_ ∧ i ≤ l.length ∧ i ≤ nn ∧ nn ≤ 1048576 ∧ env_ 0 = .slice A l.length c ∧ env_ 3 = .int .i64 ((nn : Nat) : Int) ∧ env_ 4 = .int .i64 ((i : Nat) : Int)) (fun x_ => match x_ with | (i,nn) => l.length - i) (0,0) ⟨Ext.refl _,Nat.zero_le _,Nat.zero_le _,(by omega),rfl,rfl,rfl⟩ ?_)))))
  rintro ⟨i,nn⟩ env3 w1 ⟨x2,i4,i5,i6,e7,e8,e9⟩
  refine c_seq (c_seq (c_reg (s_move (v := .int .i64 ((i : Nat) : Int)) (ej rfl e9) (w0 rfl) (s_move (v := .slice A l.length c) (ej rfl e7) (w0 rfl) (s_lenL F_l58 (ej rfl rfl) (w0 rfl) (s_cmp (r := decide (((i : Nat) : Int) < (l.length : Int))) (ej rfl rfl) (ej rfl rfl) rfl (w0 rfl) (c_done (n_then ?_))))))))
  by_cases h10 : ((i : Nat) : Int) < (l.length : Int)
  · refine c_cond1 (vb (ej rfl rfl) (decide_eq_true h10)) (c_skip (n_then (c_seq (c_block (c_seq (c_reg (s_move (v := .int .i64 ((nn : Nat) : Int)) (ej rfl e8) (w0 rfl) (s_move (v := .slice A l.length c) (ej rfl e7) (w0 rfl) (s_move (v := .int .i64 ((i : Nat) : Int)) (ej rfl e9) (w0 rfl) ?_)))))))))
    obtain ⟨b11,o12,x13,csx13,hA14,hx15,hR16,hc17⟩ := Row.at_ hr i (by omega)
    obtain rfl := ruAt_of hx15
    obtain ⟨Ah18,Ab19,ch20,cb21,rfl,ho22,rh23,rb24⟩ := hR16
    have := Ru.okc.p ho22
    have := Ru.okc.hl ho22
    have := Ru.okc.hc ho22
    have := Ru.okc.bl ho22
    have := Ru.okc.bc ho22
    refine s_indexR (j := i) F_l58 (ej rfl rfl) hA14 (ej rfl rfl) rfl (by omega) (w0 rfl) (s_loadL (cs := [.string ((ruAt l i).p),.slice Ah18 ((ruAt l i).head.length) ch20,.slice Ab19 ((ruAt l i).body.length) cb21]) F_m53 (ej rfl rfl) rfl rfl (sub_cells (cells_ext x2 hc17) 0 rfl) (w0 rfl) (s_call F_e28 (w0 rfl) ev_f (m2 (ej rfl rfl) ev_c) (args := #[.agg #[.string ((ruAt l i).p),.slice Ah18 ((ruAt l i).head.length) ch20,.slice Ab19 ((ruAt l i).body.length) cb21],.int .i64 1048576]) rfl (l_RuleParts (ruAt l i) Ah18 Ab19 ch20 cb21 1048576 _ ho22 (Row.extG rh23 x2) (Row.extL rb24 x2) (by omega)) ?_))
    rintro _ w26 ⟨⟨z25,hz28,rfl⟩,x27⟩
    refine s_add (r := ((nn + z25 : Nat) : Int)) (ej rfl rfl) (ej rfl rfl) (by omega) (by omega) (w0 rfl) (s_assign (v := .int .i64 ((nn + z25 : Nat) : Int)) (ej rfl rfl) (w0 rfl) (c_done (n_then (c_seq (c_reg (s_move (v := .int .i64 ((nn + z25 : Nat) : Int)) (ej rfl rfl) (w0 rfl) (s_cmp (r := decide (1048576 < ((nn + z25 : Nat) : Int))) (ej rfl rfl) ev_c rfl (w0 rfl) (c_done (n_then ?_)))))))))
    by_cases h29 : 1048576 < ((nn + z25 : Nat) : Int)
    · refine c_cond1 (vb (ej rfl rfl) (decide_eq_true h29)) (c_seq (c_reg (s_assign (v := .bool true) ev_c (w0 rfl) (c_done (n_then (c_ret (r_block (r_then (r_then (r_block (r_then ?_)))))))))))
      refine ret1 (v := .bool true) rfl rfl rfl ?_
      exact ⟨_,rfl,⟨_,rfl,fun h_ => by cases h_⟩,(Ext.trans x2 x27)⟩
    refine c_cond0 (vb (ej rfl rfl) (decide_eq_false h29)) (c_skip (n_block (n_then (c_reg (s_move (v := .int .i64 ((i : Nat) : Int)) (ej rfl e9) (w0 rfl) (s_add (r := ((i + 1 : Nat) : Int)) (ej rfl rfl) ev_c (by omega) (by omega) (w0 rfl) (s_assign (v := .int .i64 ((i + 1 : Nat) : Int)) (ej rfl rfl) (w0 rfl) (c_done ?_))))))))
    exact ⟨(i + 1,nn + z25),_,rfl,⟨(Ext.trans x2 x27),by omega,by omega,by omega,e7,rfl,rfl⟩,(show l.length - (i + 1) < l.length - i by omega)⟩
  refine c_cond0 (vb (ej rfl rfl) (decide_eq_false h10)) (c_exit (e_then (e_then (e_hit (n_then (c_seq (c_reg (s_assign (v := .bool false) ev_c (w0 rfl) (c_done (n_then (c_ret ?_)))))))))))
  refine ret1 (v := .bool false) rfl rfl rfl ?_
  exact ⟨_,rfl,⟨_,rfl,fun h_ => by omega⟩,x2⟩
theorem l_markRule (n : Int) (w : World) (tb : Tabs Tryz.prog w) (hn : 0 ≤ n ∧ n ≤ 1000000) :
    Rt Tryz.prog 53 #[.int .i64 n] w fun v w' => v = .agg #[.string ((⟨#[35]⟩ : ByteArray) ++ itoaB n),.slice none 0 0,.slice none 0 0] ∧ Ext w w' := by
  refine enter Tryz.func53 rfl (l := [.int .i64 n]) rfl Tryz.ntmps53 (Nat.le_of_ble_eq_true rfl) ?_
  refine c_seq (c_reg (s_alloc (cs := #[.string (⟨#[]⟩ : ByteArray),.slice none 0 0,.slice none 0 0]) (w0 rfl) F_z53 rfl ?_))
  intro w2 g1 n3
  refine c_done (n_then (c_seq (c_reg (s_move (v := .int .i64 n) (ej rfl rfl) (w0 rfl) (s_call F_e96 (w0 rfl) ev_f (m1 (ej rfl rfl)) (args := #[.int .i64 n]) rfl (l_word n _ (Tabs.ext tb (NewB.ext n3)) (by omega)) ?_)))))
  rintro _ w5 ⟨rfl,x4⟩
  refine s_build (v := .agg #[.string ((⟨#[35]⟩ : ByteArray) ++ itoaB n),.slice none 0 0,.slice none 0 0]) (vs := [(0,.string ((⟨#[35]⟩ : ByteArray) ++ itoaB n))]) (b1 (ej rfl rfl)) (bd53_0s ((⟨#[35]⟩ : ByteArray) ++ itoaB n)) (w0 rfl) (s_store (cs' := #[.string ((⟨#[35]⟩ : ByteArray) ++ itoaB n),.slice none 0 0,.slice none 0 0]) F_sz53 (ej rfl rfl) (ej rfl rfl) (l := [.string ((⟨#[35]⟩ : ByteArray) ++ itoaB n),.slice none 0 0,.slice none 0 0]) rfl rfl rfl (Ext.blk x4 (NewB.blk n3)) (Nat.le_of_ble_eq_true rfl) rfl (w0 rfl) ?_)
  intro w6 k7
  refine c_done (n_then (c_ret (retC (cs := [.string ((⟨#[35]⟩ : ByteArray) ++ itoaB n),.slice none 0 0,.slice none 0 0]) (ca := #[.string ((⟨#[35]⟩ : ByteArray) ++ itoaB n),.slice none 0 0,.slice none 0 0]) rfl rfl rfl F_m53 rfl rfl (blk_cells (Wrote.blk k7) 0 (cs := [.string ((⟨#[35]⟩ : ByteArray) ++ itoaB n),.slice none 0 0,.slice none 0 0]) rfl) ?_)))
  refine ⟨_,rfl,?_,(Keep.then_ (Ext.trans (NewB.ext n3) x4) (Wrote.keep k7) (fun i_ hi_ h_ => by have a_ := NewB.eq n3; have b_ := Keep.size (Ext.refl w); omega))⟩
  rfl
theorem l_isRule (n : Int) (w : World) (tb : Tabs Tryz.prog w) (hn : 0 ≤ n ∧ n ≤ 1000000) :
    Rt Tryz.prog 56 #[.agg #[.string ((⟨#[35]⟩ : ByteArray) ++ itoaB n),.slice none 0 0,.slice none 0 0],.int .i64 n] w fun v w' => v = .bool true ∧ Ext w w' := by
  refine enter Tryz.func56 rfl (l := [.agg #[.string ((⟨#[35]⟩ : ByteArray) ++ itoaB n),.slice none 0 0,.slice none 0 0],.int .i64 n]) rfl Tryz.ntmps56 (Nat.le_of_ble_eq_true rfl) ?_
  refine c_seq (c_reg (s_box (v := .agg #[.string ((⟨#[35]⟩ : ByteArray) ++ itoaB n),.slice none 0 0,.slice none 0 0]) (cs := #[.string ((⟨#[35]⟩ : ByteArray) ++ itoaB n),.slice none 0 0,.slice none 0 0]) (w0 rfl) (ej rfl rfl) rfl ?_))
  intro w2 g1 n3
  refine s_assign (v := .bool false) ev_c (w0 rfl) (c_done (n_then (c_seq (c_quiet mixed (by kernel_rfl) (q_val (v := .pointer (some ⟨g1,0,none⟩)) (w0 rfl) (fun w_ c_ => r_field (off := 0) (o' := 0) F_f53_0 (ej rfl rfl) rfl) (q_val (v := .string ((⟨#[35]⟩ : ByteArray) ++ itoaB n)) (w0 rfl) (fun w_ c_ => r_load (v := .string ((⟨#[35]⟩ : ByteArray) ++ itoaB n)) F_o9 (ej rfl rfl) (cell_of_blk (i := 0) (Ext.blk c_ (NewB.blk n3)) rfl)) (q_val (v := .int .i64 n) (w0 rfl) (fun w_ c_ => r_move (v := .int .i64 n) (ej rfl rfl)) (q_call (v := .string ((⟨#[35]⟩ : ByteArray) ++ itoaB n)) F_e96 (w0 rfl) ev_f (m1 (ej rfl rfl)) (args := #[.int .i64 n]) rfl (fun w_ c_ => Rt.mono (l_word n _ (Tabs.ext tb (Ext.trans (NewB.ext n3) c_)) (by omega)) (fun v_ w2_ h_ => ⟨h_.1,Ext.trans c_ h_.2⟩)) (q_val (v := .bool true) (w0 rfl) (fun w_ c_ => r_cmpS (r := true) (ej rfl rfl) (ej rfl rfl) (cmpS_self _)) (q_val (v := .bool true) (w0 rfl) (fun w_ c_ => r_move (v := .bool true) (ej rfl rfl)) (q_val (v := .pointer (some ⟨g1,1,none⟩)) (wy rfl rfl rfl rfl) (fun w_ c_ => r_field (off := 1) (o' := 1) F_f53_1 (ej rfl rfl) rfl) ?_)))))))))))
  refine q_val (v := .slice none 0 0) (wy rfl rfl rfl rfl) (fun w_ c_ => r_load (v := .slice none 0 0) F_o51 (ej rfl rfl) (cell_of_blk (i := 1) (Ext.blk c_ (NewB.blk n3)) rfl)) (q_val (v := .int .i64 0) (wy rfl rfl rfl rfl) (fun w_ c_ => r_lenL F_l51 (ej rfl rfl)) (q_val (v := .bool true) (wy rfl rfl rfl rfl) (fun w_ c_ => r_cmp (r := true) (ej rfl rfl) ev_c rfl) (q_val (v := .bool true) (w0 rfl) (fun w_ c_ => r_pick1 (v := .bool true) (ej rfl rfl) (ej rfl rfl)) (q_val (v := .bool true) (w0 rfl) (fun w_ c_ => r_move (v := .bool true) (ej rfl rfl)) (q_val (v := .pointer (some ⟨g1,2,none⟩)) (wy rfl rfl rfl rfl) (fun w_ c_ => r_field (off := 2) (o' := 2) F_f53_2 (ej rfl rfl) rfl) (q_val (v := .slice none 0 0) (wy rfl rfl rfl rfl) (fun w_ c_ => r_load (v := .slice none 0 0) F_o40 (ej rfl rfl) (cell_of_blk (i := 2) (Ext.blk c_ (NewB.blk n3)) rfl)) (q_val (v := .int .i64 0) (wy rfl rfl rfl rfl) (fun w_ c_ => r_lenL F_l40 (ej rfl rfl)) (q_val (v := .bool true) (wy rfl rfl rfl rfl) (fun w_ c_ => r_cmp (r := true) (ej rfl rfl) ev_c rfl) (q_val (v := .bool true) (w0 rfl) (fun w_ c_ => r_pick1 (v := .bool true) (ej rfl rfl) (ej rfl rfl)) (q_val (v := .bool true) (w0 rfl) (fun w_ c_ => r_assign (v := .bool true) (ej rfl rfl)) (q_done ?_)))))))))))
  intro w4 x5
  refine n_then (c_ret (ret1 (v := .bool true) rfl rfl rfl ?_))
  refine ⟨_,rfl,?_,(Ext.trans (NewB.ext n3) x5)⟩
  rfl
theorem l_TwinRules (l : List Ru) (A : Option Addr) (c : Nat) (w : World) (hl : l.length * 64 ≤ 140737488351232) (hr : Row RU 3 w A l) (tb : Tabs Tryz.prog w) :
    Rt Tryz.prog 24 #[.slice A l.length c] w fun v w' => ∃ b,v = .slice (some ⟨b,0,none⟩) l.length (l.length + 1) ∧ FU 53 w.heap.size w' b l ∧ Ext w w' := by
  refine enter Tryz.func24 rfl (l := [.slice A l.length c]) rfl Tryz.ntmps24 (Nat.le_of_ble_eq_true rfl) ?_
  refine c_seq (c_reg (s_assign (v := .slice none 0 0) ev_c (w0 rfl) (c_done (n_then (c_seq (c_reg (s_move (v := .slice A l.length c) (ej rfl rfl) (w0 rfl) (s_lenL F_l58 (ej rfl rfl) (w0 rfl) (s_add (r := ((l.length + 1 : Nat) : Int)) (ej rfl rfl) ev_c (by omega) (by omega) (w0 rfl) (s_make (k := l.length + 1) F_ul58 F_if53 (ej rfl rfl) (ej rfl rfl) (by omega) (by omega) (w0 rfl) ?_))))))))))
  intro w1 g2 cs3 hs4 n5
  have ge_g2 : w.heap.size ≤ g2 := by have a_ := NewB.eq n5; have b_ := Keep.size (Ext.refl w); omega
  have fl_g2 : Fill (EG QU markU (g2 + 1) l) 3 53 w1 g2 (l.length + 1) 0 := Fill.start n5 hs4
  refine s_assign (v := .slice (some ⟨g2,0,none⟩) (l.length + 1) (l.length + 1)) (ej rfl rfl) (w0 rfl) (c_done (n_then (c_seq (c_seq (c_reg (s_assign (v := .int .i64 0) ev_c (w0 rfl) (c_done (n_then (c_block (c_loop (α := Nat) (fun (i : Nat) env_ w_ => Ext w w_ ∧ i ≤ l.length ∧ Fill (EG QU markU (g2 + 1) l) 3 53 w_ g2 (l.length + 1) i ∧ env_ 0 = .slice A l.length c ∧ env_ 2 = .slice none 0 0 ∧ env_ 3 = .slice (some ⟨g2,0,none⟩) (l.length + 1) (l.length + 1) ∧ env_ 4 = .int .i64 ((i : Nat) : Int)) (fun i => l.length - i) (0) ⟨(NewB.ext n5),Nat.zero_le _,fl_g2,rfl,rfl,rfl,rfl⟩ ?_))))))))))
  rintro i env8 w6 ⟨x7,i9,i10,e11,e12,e13,e14⟩
  refine c_seq (c_seq (c_reg (s_move (v := .int .i64 ((i : Nat) : Int)) (ej rfl e14) (w0 rfl) (s_move (v := .slice A l.length c) (ej rfl e11) (w0 rfl) (s_lenL F_l58 (ej rfl rfl) (w0 rfl) (s_cmp (r := decide (((i : Nat) : Int) < (l.length : Int))) (ej rfl rfl) (ej rfl rfl) rfl (w0 rfl) (c_done (n_then ?_))))))))
  by_cases h15 : ((i : Nat) : Int) < (l.length : Int)
  · refine c_cond1 (vb (ej rfl rfl) (decide_eq_true h15)) (c_skip (n_then (c_seq (c_block (c_reg (s_move (v := .slice (some ⟨g2,0,none⟩) (l.length + 1) (l.length + 1)) (ej rfl e13) (w0 rfl) (s_move (v := .int .i64 ((i : Nat) : Int)) (ej rfl e14) (w0 rfl) (s_move (v := .slice A l.length c) (ej rfl e11) (w0 rfl) (s_move (v := .int .i64 ((i : Nat) : Int)) (ej rfl e14) (w0 rfl) ?_)))))))))
    obtain ⟨b16,o17,x18,csx18,hA19,hx20,hR21,hc22⟩ := Row.at_ hr i (by omega)
    obtain rfl := ruAt_of hx20
    obtain ⟨Ah23,Ab24,ch25,cb26,rfl,ho27,rh28,rb29⟩ := hR21
    have := Ru.okc.p ho27
    have := Ru.okc.hl ho27
    have := Ru.okc.hc ho27
    have := Ru.okc.bl ho27
    have := Ru.okc.bc ho27
    refine s_indexR (j := i) F_l58 (ej rfl rfl) hA19 (ej rfl rfl) rfl (by omega) (w0 rfl) (s_loadL (cs := [.string ((ruAt l i).p),.slice Ah23 ((ruAt l i).head.length) ch25,.slice Ab24 ((ruAt l i).body.length) cb26]) F_m53 (ej rfl rfl) rfl rfl (sub_cells (cells_ext x7 hc22) 0 rfl) (w0 rfl) (s_call F_e19 (w0 rfl) ev_f (m1 (ej rfl rfl)) (args := #[.agg #[.string ((ruAt l i).p),.slice Ah23 ((ruAt l i).head.length) ch25,.slice Ab24 ((ruAt l i).body.length) cb26]]) rfl (l_TwinRule (ruAt l i) Ah23 Ab24 ch25 cb26 _ ho27 (Row.extG rh28 x7) (Row.extL rb29 x7) (Tabs.ext tb x7)) ?_))
    rintro _ w32 ⟨b30,b31,rfl,tw34,tw35,x33⟩
    have okt36 : Ru.okc (ruAt l i) ((ruAt l i).head.length + 1) ((ruAt l i).body.length + 1) := ⟨Ru.okc.p ho27,Nat.le_succ _,Ru.okc.hc ho27,Nat.le_succ _,Ru.okc.bc ho27⟩
    have := Ru.okc.p okt36
    have := Ru.okc.hl okt36
    have := Ru.okc.hc okt36
    have := Ru.okc.bl okt36
    have := Ru.okc.bc okt36
    refine s_indexR (j := i) F_l58 (ej rfl rfl) rfl (ej rfl rfl) rfl (by omega) (w0 rfl) ?_
    have ee40 : EG QU markU (g2 + 1) l w32 i [.string ((ruAt l i).p),.slice (some ⟨b30,0,none⟩) ((ruAt l i).head.length) ((ruAt l i).head.length + 1),.slice (some ⟨b31,0,none⟩) ((ruAt l i).body.length) ((ruAt l i).body.length + 1)] := EG.of (ruAt_there (by omega)) (okU.mono (⟨b30,b31,rfl,okt36,tw34,tw35⟩ : QU _ _ _ _) (by have a_ := Fill.lt i10; omega))
    refine s_storeF (i := i) (l := [.string ((ruAt l i).p),.slice (some ⟨b30,0,none⟩) ((ruAt l i).head.length) ((ruAt l i).head.length + 1),.slice (some ⟨b31,0,none⟩) ((ruAt l i).body.length) ((ruAt l i).body.length + 1)]) (Fill.cast (Fill.ext i10 x33 (fun j_ l_ h_ => EG.keep okU h_ x33 (fun _ h_ => h_.elim))) (by omega)) (by omega) F_sz53 (ej rfl rfl) (ej rfl rfl) rfl rfl rfl (fun w_ k_ => ⟨fun j_ l_ _ h_ => EG.keep okU h_ k_ (fun i_ q_ => by omega),EG.keep okU ee40 k_ (fun i_ q_ => by omega)⟩) (w0 rfl) ?_
    intro w37 fl38 k39
    refine c_done (n_block (n_then (c_reg (s_move (v := .int .i64 ((i : Nat) : Int)) (ej rfl e14) (w0 rfl) (s_add (r := ((i + 1 : Nat) : Int)) (ej rfl rfl) ev_c (by omega) (by omega) (w0 rfl) (s_assign (v := .int .i64 ((i + 1 : Nat) : Int)) (ej rfl rfl) (w0 rfl) (c_done ?_)))))))
    exact ⟨(i + 1),_,rfl,⟨(Keep.then_ (Ext.trans x7 x33) k39 (fun i_ hi_ h_ => by have a_ := ge_g2; omega)),by omega,fl38,e11,e12,e13,rfl⟩,(show l.length - (i + 1) < l.length - i by omega)⟩
  refine c_cond0 (vb (ej rfl rfl) (decide_eq_false h15)) (c_exit (e_then (e_then (e_hit (n_then (c_seq (c_reg (s_move (v := .slice (some ⟨g2,0,none⟩) (l.length + 1) (l.length + 1)) (ej rfl e13) (w0 rfl) (s_move (v := .slice A l.length c) (ej rfl e11) (w0 rfl) (s_lenL F_l58 (ej rfl rfl) (w0 rfl) (s_call F_e53 (w0 rfl) ev_f (m1 ev_c) (args := #[.int .i64 777777]) rfl (l_markRule 777777 _ (Tabs.ext tb x7) (by omega)) ?_)))))))))))
  rintro _ w42 ⟨rfl,x41⟩
  refine s_indexR (j := l.length) F_l58 (ej rfl rfl) rfl (ej rfl rfl) rfl (by omega) (w0 rfl) ?_
  have ee46 : EG QU markU (g2 + 1) l w42 l.length [.string ((⟨#[35]⟩ : ByteArray) ++ itoaB 777777),.slice none 0 0,.slice none 0 0] := EG.mark
  refine s_storeF (i := l.length) (l := [.string ((⟨#[35]⟩ : ByteArray) ++ itoaB 777777),.slice none 0 0,.slice none 0 0]) (Fill.cast (Fill.ext i10 x41 (fun j_ l_ h_ => EG.keep okU h_ x41 (fun _ h_ => h_.elim))) (by omega)) (by omega) F_sz53 (ej rfl rfl) (ej rfl rfl) rfl rfl rfl (fun w_ k_ => ⟨fun j_ l_ _ h_ => EG.keep okU h_ k_ (fun i_ q_ => by omega),EG.keep okU ee46 k_ (fun i_ q_ => by omega)⟩) (w0 rfl) ?_
  intro w43 fl44 k45
  refine c_done (n_then (c_seq (c_reg (s_move (v := .slice (some ⟨g2,0,none⟩) (l.length + 1) (l.length + 1)) (ej rfl e13) (w0 rfl) (s_move (v := .slice A l.length c) (ej rfl e11) (w0 rfl) (s_lenL F_l58 (ej rfl rfl) (w0 rfl) (s_sliceH (h := l.length) F_uE58 F_iE58 (ej rfl rfl) (ej rfl rfl) (by omega) (w0 rfl) (s_assign (v := .slice (some ⟨g2,0,none⟩) l.length (l.length + 1)) (ej rfl rfl) (w0 rfl) (c_done (n_then (c_ret ?_)))))))))))
  refine ret1 (v := .slice (some ⟨g2,0,none⟩) l.length (l.length + 1)) rfl rfl rfl ?_
  exact ⟨_,rfl,g2,rfl,⟨by omega,Fill.cast fl44 (by omega)⟩,(Keep.then_ (Ext.trans x7 x41) k45 (fun i_ hi_ h_ => by have a_ := ge_g2; omega))⟩
theorem l_LeftRules (l : List Ru) (A : Option Addr) (c b lo : Nat) (w : World) (hl : l.length * 64 ≤ 140737488351232) (tw : TwG QU markU 3 lo w b l) (hr : Row RU 3 w A l) (tb : Tabs Tryz.prog w) :
    Rt Tryz.prog 27 #[.slice (some ⟨b,0,none⟩) l.length (l.length + 1),.slice A l.length c] w fun v w' => v = .bool true ∧ Ext w w' := by
  refine enter Tryz.func27 rfl (l := [.slice (some ⟨b,0,none⟩) l.length (l.length + 1),.slice A l.length c]) rfl Tryz.ntmps27 (Nat.le_of_ble_eq_true rfl) ?_
  refine c_seq (c_reg (s_assign (v := .bool false) ev_c (w0 rfl) (c_done (n_then (c_seq (c_seq (c_reg (s_move (v := .slice (some ⟨b,0,none⟩) l.length (l.length + 1)) (ej rfl rfl) (w0 rfl) (s_lenL F_l58 (ej rfl rfl) (w0 rfl) (s_move (v := .slice A l.length c) (ej rfl rfl) (w0 rfl) (s_lenL F_l58 (ej rfl rfl) (w0 rfl) ?_)))))))))))
  refine s_cmp (r := false) (ej rfl rfl) (ej rfl rfl) (cmpI_selfn _) (w0 rfl) (c_done (n_then (c_cond0 (ej rfl rfl) (c_skip (n_then (c_seq (c_seq (c_reg (s_assign (v := .int .i64 0) ev_c (w0 rfl) (c_done (n_then ?_)))))))))))
  refine c_block (c_loop (α := Nat) (fun (i : Nat) env_ w_ => Ext w w_ ∧ i ≤ l.length ∧ env_ 0 = .slice (some ⟨b,0,none⟩) l.length (l.length + 1) ∧ env_ 1 = .slice A l.length c ∧ env_ 5 = .int .i64 ((i : Nat) : Int)) (fun i => l.length - i) (0) ⟨Ext.refl _,Nat.zero_le _,rfl,rfl,rfl⟩ ?_)
  rintro i env3 w1 ⟨x2,i4,e5,e6,e7⟩
  refine c_seq (c_seq (c_reg (s_move (v := .int .i64 ((i : Nat) : Int)) (ej rfl e7) (w0 rfl) (s_move (v := .slice A l.length c) (ej rfl e6) (w0 rfl) (s_lenL F_l58 (ej rfl rfl) (w0 rfl) (s_cmp (r := decide (((i : Nat) : Int) < (l.length : Int))) (ej rfl rfl) (ej rfl rfl) rfl (w0 rfl) (c_done (n_then ?_))))))))
  by_cases h8 : ((i : Nat) : Int) < (l.length : Int)
  · refine c_cond1 (vb (ej rfl rfl) (decide_eq_true h8)) (c_skip (n_then (c_seq (c_block (c_seq (c_quiet mixed (by kernel_rfl) (q_val (v := .slice (some ⟨b,0,none⟩) l.length (l.length + 1)) (w0 rfl) (fun w_ c_ => r_move (v := .slice (some ⟨b,0,none⟩) l.length (l.length + 1)) (ej rfl e5)) (q_val (v := .int .i64 ((i : Nat) : Int)) (w0 rfl) (fun w_ c_ => r_move (v := .int .i64 ((i : Nat) : Int)) (ej rfl e7)) ?_))))))))
    obtain ⟨_,hq9,hc10⟩ := TwG.row tw i (ruAt l i) (ruAt_there (by omega))
    obtain ⟨b11,b12,rfl,ho15,tw13,tw14⟩ := hq9
    have := Ru.okc.p ho15
    have := Ru.okc.hl ho15
    have := Ru.okc.hc ho15
    have := Ru.okc.bl ho15
    have := Ru.okc.bc ho15
    refine q_val (v := .pointer (some ⟨b,0 + i * 3,none⟩)) (w0 rfl) (fun w_ c_ => r_indexR (j := i) F_l58 (ej rfl rfl) rfl (ej rfl rfl) rfl (by omega)) (q_val (v := .agg #[.string ((ruAt l i).p),.slice (some ⟨b11,0,none⟩) ((ruAt l i).head.length) ((ruAt l i).head.length + 1),.slice (some ⟨b12,0,none⟩) ((ruAt l i).body.length) ((ruAt l i).body.length + 1)]) (w0 rfl) (fun w_ c_ => r_loadL (cs := [.string ((ruAt l i).p),.slice (some ⟨b11,0,none⟩) ((ruAt l i).head.length) ((ruAt l i).head.length + 1),.slice (some ⟨b12,0,none⟩) ((ruAt l i).body.length) ((ruAt l i).body.length + 1)]) F_m53 (ej rfl rfl) rfl rfl (sub_cells (cells_ext c_ (cells_ext x2 hc10)) 0 rfl)) (q_val (v := .slice A l.length c) (w0 rfl) (fun w_ c_ => r_move (v := .slice A l.length c) (ej rfl e6)) (q_val (v := .int .i64 ((i : Nat) : Int)) (w0 rfl) (fun w_ c_ => r_move (v := .int .i64 ((i : Nat) : Int)) (ej rfl e7)) ?_)))
    obtain ⟨b16,o17,x18,csx18,hA19,hx20,hR21,hc22⟩ := Row.at_ hr i (by omega)
    obtain rfl := ruAt_of hx20
    obtain ⟨Ah23,Ab24,ch25,cb26,rfl,ho27,rh28,rb29⟩ := hR21
    have := Ru.okc.p ho27
    have := Ru.okc.hl ho27
    have := Ru.okc.hc ho27
    have := Ru.okc.bl ho27
    have := Ru.okc.bc ho27
    refine q_val (v := .pointer (some ⟨b16,o17 + i * 3,none⟩)) (w0 rfl) (fun w_ c_ => r_indexR (j := i) F_l58 (ej rfl rfl) hA19 (ej rfl rfl) rfl (by omega)) (q_val (v := .agg #[.string ((ruAt l i).p),.slice Ah23 ((ruAt l i).head.length) ch25,.slice Ab24 ((ruAt l i).body.length) cb26]) (w0 rfl) (fun w_ c_ => r_loadL (cs := [.string ((ruAt l i).p),.slice Ah23 ((ruAt l i).head.length) ch25,.slice Ab24 ((ruAt l i).body.length) cb26]) F_m53 (ej rfl rfl) rfl rfl (sub_cells (cells_ext c_ (cells_ext x2 hc22)) 0 rfl)) (q_call (v := .bool true) F_e22 (w0 rfl) ev_f (m2 (ej rfl rfl) (ej rfl rfl)) (args := #[.agg #[.string ((ruAt l i).p),.slice (some ⟨b11,0,none⟩) ((ruAt l i).head.length) ((ruAt l i).head.length + 1),.slice (some ⟨b12,0,none⟩) ((ruAt l i).body.length) ((ruAt l i).body.length + 1)],.agg #[.string ((ruAt l i).p),.slice Ah23 ((ruAt l i).head.length) ch25,.slice Ab24 ((ruAt l i).body.length) cb26]]) rfl (fun w_ c_ => Rt.mono (l_LeftRule (ruAt l i) Ah23 Ab24 ch25 cb26 b11 b12 _ _ ho27 (Row.extG (Row.extG rh28 x2) c_) (Row.extL (Row.extL rb29 x2) c_) (TwG.ext okG (TwG.ext okG tw13 x2) c_) (TwG.ext okL (TwG.ext okL tw14 x2) c_) (Tabs.ext tb (Ext.trans x2 c_))) (fun v_ w2_ h_ => ⟨h_.1,Ext.trans c_ h_.2⟩)) (q_val (v := .bool false) (w0 rfl) (fun w_ c_ => r_not (b := true) (ej rfl rfl)) (q_done ?_))))
    intro w30 x31
    refine n_then (c_cond0 (ej rfl rfl) (c_skip (n_block (n_then (c_reg (s_move (v := .int .i64 ((i : Nat) : Int)) (ej rfl e7) (w0 rfl) (s_add (r := ((i + 1 : Nat) : Int)) (ej rfl rfl) ev_c (by omega) (by omega) (w0 rfl) (s_assign (v := .int .i64 ((i + 1 : Nat) : Int)) (ej rfl rfl) (w0 rfl) (c_done ?_)))))))))
    exact ⟨(i + 1),_,rfl,⟨(Ext.trans x2 x31),by omega,e5,e6,rfl⟩,(show l.length - (i + 1) < l.length - i by omega)⟩
  refine c_cond0 (vb (ej rfl rfl) (decide_eq_false h8)) (c_exit (e_then (e_then (e_hit (n_then (c_seq (c_reg (s_move (v := .slice (some ⟨b,0,none⟩) l.length (l.length + 1)) (ej rfl e5) (w0 rfl) (s_move (v := .slice A l.length c) (ej rfl e6) (w0 rfl) (s_lenL F_l58 (ej rfl rfl) (w0 rfl) (s_add (r := ((l.length + 1 : Nat) : Int)) (ej rfl rfl) ev_c (by omega) (by omega) (w0 rfl) ?_)))))))))))
  refine s_sliceH (h := l.length + 1) F_uE58 F_iE58 (ej rfl rfl) (ej rfl rfl) (by omega) (w0 rfl) (s_move (v := .slice A l.length c) (ej rfl e6) (w0 rfl) (s_lenL F_l58 (ej rfl rfl) (w0 rfl) (s_indexR (j := l.length) F_l58 (ej rfl rfl) rfl (ej rfl rfl) rfl (by omega) (w0 rfl) (s_loadL (cs := [.string ((⟨#[35]⟩ : ByteArray) ++ itoaB 777777),.slice none 0 0,.slice none 0 0]) F_m53 (ej rfl rfl) rfl rfl (sub_cells (cells_ext x2 (TwG.mark tw)) 0 rfl) (w0 rfl) (s_call F_e56 (w0 rfl) ev_f (m2 (ej rfl rfl) ev_c) (args := #[.agg #[.string ((⟨#[35]⟩ : ByteArray) ++ itoaB 777777),.slice none 0 0,.slice none 0 0],.int .i64 777777]) rfl (l_isRule 777777 _ (Tabs.ext tb x2) (by omega)) ?_)))))
  rintro _ w33 ⟨rfl,x32⟩
  refine s_assign (v := .bool true) (ej rfl rfl) (w0 rfl) (c_done (n_then (c_ret (ret1 (v := .bool true) rfl rfl rfl ?_))))
  refine ⟨_,rfl,?_,(Ext.trans x2 x32)⟩
  rfl
end Go.Proofs.Zw

set_option linter.unusedVariables false
set_option linter.unusedSimpArgs false
set_option maxRecDepth 10000
namespace Go.Proofs.Zw
open Go Go.Wk Go.Proofs Go.Lib
attribute [local irreducible] Go.wpList Go.wpStill Go.wpQuiet Go.Code.wp Go.Calls
theorem F_f63_0 : fieldAt Tryz.prog 63 0 0 = true := by kernel_rfl
theorem F_o58 : one Tryz.prog 58 = true := by kernel_rfl
theorem r6_Program (l : List Ru) (A : Option Addr) (c : Nat) (w : World) (hl : l.length * 64 ≤ 140737488351232) (hr : Row RU 3 w A l) (hfew : l.length ≤ 1048577) :
    Rt Tryz.prog 25 #[.agg #[.slice A l.length c]] w fun v w' => v = .tuple #[.string (if l.all ruB then pgT l else ⟨#[]⟩),.int .i64 (code (l.all ruB))] ∧ Ext w w' := by
  refine enter Tryz.func25 rfl (l := [.agg #[.slice A l.length c]]) rfl Tryz.ntmps25 (Nat.le_of_ble_eq_true rfl) ?_
  refine c_seq (c_reg (s_box (v := .agg #[.slice A l.length c]) (cs := #[.slice A l.length c]) (w0 rfl) (ej rfl rfl) rfl ?_))
  intro w2 g1 n3
  refine s_assign (v := .string (⟨#[]⟩ : ByteArray)) ev_c (w0 rfl) (s_assign (v := .int .i64 0) ev_c (w0 rfl) (c_done (n_then (c_seq (c_reg (s_assign (v := .string (⟨#[]⟩ : ByteArray)) ev_c (w0 rfl) (c_done (n_then (c_seq (c_seq (c_reg ?_)))))))))))
  refine s_assign (v := .int .i64 0) ev_c (w0 rfl) (c_done (n_then (c_block ?_)))
  refine c_loop (α := Nat) (fun (i : Nat) env_ w_ => Ext w2 w_ ∧ i ≤ l.length ∧ (∀ j y,j < i → l[j]? = some y → ruB y = true) ∧ env_ 1 = .pointer (some ⟨g1,0,none⟩) ∧ env_ 4 = .string (pgW l i) ∧ env_ 5 = .int .i64 ((i : Nat) : Int)) (fun i => l.length - i) (0) ⟨Ext.refl _,Nat.zero_le _,(fun j y h => absurd h (Nat.not_lt_zero j)),rfl,rfl,rfl⟩ ?_
  rintro i env6 w4 ⟨x5,i7,i8,e9,e10,e11⟩
  have hP_ := pgW_le hr i i7 i8
  have hlt_ := fun (hi_ : i < l.length) (hb_ : ruB (ruAt l i) = true) => ruW_at hr hi_ hb_
  refine c_seq (c_seq (c_reg (s_move (v := .int .i64 ((i : Nat) : Int)) (ej rfl e11) (w0 rfl) (s_field (off := 0) (o' := 0) F_f63_0 (ej rfl e9) rfl (w0 rfl) (s_load (v := .slice A l.length c) F_o58 (ej rfl rfl) (cell_of_blk (i := 0) (Ext.blk x5 (NewB.blk n3)) rfl) (w0 rfl) (s_lenL F_l58 (ej rfl rfl) (w0 rfl) (s_cmp (r := decide (((i : Nat) : Int) < (l.length : Int))) (ej rfl rfl) (ej rfl rfl) rfl (w0 rfl) (c_done (n_then ?_)))))))))
  by_cases h12 : ((i : Nat) : Int) < (l.length : Int)
  · refine c_cond1 (vb (ej rfl rfl) (decide_eq_true h12)) (c_skip (n_then (c_seq (c_block (c_seq (c_seq (c_reg (s_field (off := 0) (o' := 0) F_f63_0 (ej rfl e9) rfl (w0 rfl) (s_load (v := .slice A l.length c) F_o58 (ej rfl rfl) (cell_of_blk (i := 0) (Ext.blk x5 (NewB.blk n3)) rfl) (w0 rfl) (s_move (v := .int .i64 ((i : Nat) : Int)) (ej rfl e11) (w0 rfl) ?_))))))))))
    obtain ⟨b13,o14,x15,csx15,hA16,hx17,hR18,hc19⟩ := Row.at_ hr i (by omega)
    obtain rfl := ruAt_of hx17
    obtain ⟨Ah20,Ab21,ch22,cb23,rfl,ho24,rh25,rb26⟩ := hR18
    have := Ru.okc.p ho24
    have := Ru.okc.hl ho24
    have := Ru.okc.hc ho24
    have := Ru.okc.bl ho24
    have := Ru.okc.bc ho24
    refine s_indexR (j := i) F_l58 (ej rfl rfl) hA16 (ej rfl rfl) rfl (by omega) (w0 rfl) (s_loadL (cs := [.string ((ruAt l i).p),.slice Ah20 ((ruAt l i).head.length) ch22,.slice Ab21 ((ruAt l i).body.length) cb23]) F_m53 (ej rfl rfl) rfl rfl (sub_cells (cells_ext x5 (cells_ext (NewB.ext n3) hc19)) 0 rfl) (w0 rfl) (s_call F_e46 (w0 rfl) ev_f (m1 (ej rfl rfl)) (args := #[.agg #[.string ((ruAt l i).p),.slice Ah20 ((ruAt l i).head.length) ch22,.slice Ab21 ((ruAt l i).body.length) cb23]]) rfl (r4_CheckRule (ruAt l i) Ah20 Ab21 ch22 cb23 _ ho24 (Row.extG (Row.extG rh25 (NewB.ext n3)) x5) (Row.extL (Row.extL rb26 (NewB.ext n3)) x5)) ?_))
    rintro _ w28 ⟨rfl,x27⟩
    refine s_cmp (r := !(ruB (ruAt l i))) (ej rfl rfl) ev_c (ci_tn (b := (ruB (ruAt l i))) (by decide)) (w0 rfl) (c_done (n_then ?_))
    rcases Bool.eq_false_or_eq_true (ruB (ruAt l i)) with h29 | h29
    · refine c_cond0 (vb (ej rfl rfl) (nbt h29)) (c_skip (n_then (c_reg (s_move (v := .string (pgW l i)) (ej rfl e10) (w0 rfl) (s_field (off := 0) (o' := 0) F_f63_0 (ej rfl e9) rfl (w0 rfl) (s_load (v := .slice A l.length c) F_o58 (ej rfl rfl) (cell_of_blk (i := 0) (Ext.blk x27 (Ext.blk x5 (NewB.blk n3))) rfl) (w0 rfl) (s_move (v := .int .i64 ((i : Nat) : Int)) (ej rfl e11) (w0 rfl) ?_)))))))
      obtain ⟨b30,o31,x32,csx32,hA33,hx34,hR35,hc36⟩ := Row.at_ hr i (by omega)
      obtain rfl := ruAt_of hx34
      obtain ⟨Ah37,Ab38,ch39,cb40,rfl,ho41,rh42,rb43⟩ := hR35
      have := Ru.okc.p ho41
      have := Ru.okc.hl ho41
      have := Ru.okc.hc ho41
      have := Ru.okc.bl ho41
      have := Ru.okc.bc ho41
      refine s_indexR (j := i) F_l58 (ej rfl rfl) hA33 (ej rfl rfl) rfl (by omega) (w0 rfl) (s_loadL (cs := [.string ((ruAt l i).p),.slice Ah37 ((ruAt l i).head.length) ch39,.slice Ab38 ((ruAt l i).body.length) cb40]) F_m53 (ej rfl rfl) rfl rfl (sub_cells (cells_ext x27 (cells_ext x5 (cells_ext (NewB.ext n3) hc36))) 0 rfl) (w0 rfl) (s_call F_e47 (w0 rfl) ev_f (m1 (ej rfl rfl)) (args := #[.agg #[.string ((ruAt l i).p),.slice Ah37 ((ruAt l i).head.length) ch39,.slice Ab38 ((ruAt l i).body.length) cb40]]) rfl (r6_rule (ruAt l i) Ah37 Ab38 ch39 cb40 _ ho41 (Row.extG (Row.extG (Row.extG rh42 (NewB.ext n3)) x5) x27) (Row.extL (Row.extL (Row.extL rb43 (NewB.ext n3)) x5) x27) (by assumption)) ?_))
      rintro _ w45 ⟨rfl,x44⟩
      refine s_cat (ej rfl rfl) (ej rfl rfl) (by have hq_ := hlt_ (by omega) (by assumption); (try simp only [ByteArray.size_append,z1]); omega) (w0 rfl) (s_cat (ej rfl rfl) ev_c (by have hq_ := hlt_ (by omega) (by assumption); (try simp only [ByteArray.size_append,z1]); omega) (w0 rfl) (s_assign (v := .string ((pgW l i) ++ (ruW (ruAt l i)) ++ (⟨#[10]⟩ : ByteArray))) (ej rfl rfl) (w0 rfl) (c_done (n_block (n_then (c_reg (s_move (v := .int .i64 ((i : Nat) : Int)) (ej rfl e11) (w0 rfl) (s_add (r := ((i + 1 : Nat) : Int)) (ej rfl rfl) ev_c (by omega) (by omega) (w0 rfl) (s_assign (v := .int .i64 ((i + 1 : Nat) : Int)) (ej rfl rfl) (w0 rfl) (c_done ?_))))))))))
      exact ⟨(i + 1),_,rfl,⟨(Ext.trans (Ext.trans x5 x27) x44),by omega,(kids_step i8 (ruAt_there (by omega)) (by assumption)),e9,(congrArg Value.string (show pgW l i ++ ruW (ruAt l i) ++ (⟨#[10]⟩ : ByteArray) = pgW l (i + 1) from rfl)),rfl⟩,(show l.length - (i + 1) < l.length - i by omega)⟩
    refine c_cond1 (vb (ej rfl rfl) (nbf h29)) (c_seq (c_reg (s_assign (v := .string (⟨#[]⟩ : ByteArray)) ev_c (w0 rfl) (s_assign (v := .int .i64 40) ev_c (w0 rfl) (c_done (n_then (c_ret (r_then (r_block (r_then (r_then ?_)))))))))))
    refine r_block (r_then (ret2 (v := .string (⟨#[]⟩ : ByteArray)) (v2 := .int .i64 40) rfl rfl rfl rfl rfl ?_))
    refine ⟨_,rfl,?_,(Ext.trans (Ext.trans (NewB.ext n3) x5) x27)⟩
    (rw [all_no (ruAt_there (l := l) (j := i) (by omega)) (by assumption)]; rfl)
  refine c_cond0 (vb (ej rfl rfl) (decide_eq_false h12)) (c_exit (e_then (e_then (e_hit (n_then (c_seq (c_reg (s_move (v := .string (pgW l i)) (ej rfl e10) (w0 rfl) (s_assign (v := .string (pgW l i)) (ej rfl rfl) (w0 rfl) (s_assign (v := .int .i64 0) ev_c (w0 rfl) (c_done ?_)))))))))))
  refine n_then (c_ret (ret2 (v := .string (pgW l i)) (v2 := .int .i64 0) rfl rfl rfl rfl rfl ?_))
  refine ⟨_,rfl,?_,(Ext.trans (NewB.ext n3) x5)⟩
  (rw [all_yes (by omega) i8]; (have e_ : i = l.length := (by omega)); subst e_; rfl)
end Go.Proofs.Zw

set_option linter.unusedVariables false
set_option linter.unusedSimpArgs false
set_option maxRecDepth 10000
namespace Go.Proofs.Zw
open Go Go.Wk Go.Proofs Go.Lib
attribute [local irreducible] Go.wpList Go.wpStill Go.wpQuiet Go.Code.wp Go.Calls
theorem b_String0 (T g : Nat) (w : World) (hg : w.heap[g]? = some (.cells #[.pointer none,.slice none 0 0] T (0,0))) :
    Rt Tryz.prog 55 #[.pointer (some ⟨g,0,none⟩)] w fun v w' => v = .string (⟨#[]⟩ : ByteArray) ∧ Ext w w' := by
  refine enter Tryz.func55 rfl (l := [.pointer (some ⟨g,0,none⟩)]) rfl Tryz.ntmps55 (Nat.le_of_ble_eq_true rfl) ?_
  refine c_seq (c_reg (s_assign (v := .string (⟨#[]⟩ : ByteArray)) ev_c (w0 rfl) (c_done (n_then (c_seq (c_tail 10 mixed (by kernel_rfl) rfl rfl ?_))))))
  intro w1 x2
  refine t_val (v := .pointer (some ⟨g,0,none⟩)) (w0 rfl) (r_move (v := .pointer (some ⟨g,0,none⟩)) (ej rfl rfl)) (t_val (v := .pointer (some ⟨g,0,none⟩)) (w0 rfl) (r_nilCheck (ej rfl rfl)) (t_val (v := .pointer (some ⟨g,1,none⟩)) (w0 rfl) (r_field (off := 1) (o' := 1) F_f95_1 (ej rfl rfl) rfl) (t_val (v := .slice none 0 0) (w0 rfl) (r_load (v := .slice none 0 0) F_o93 (ej rfl rfl) (cell_of_blk (i := 1) (Ext.blk x2 hg) rfl)) (t_val (v := .pointer none) (w0 rfl) (r_sliceDataN (ej rfl rfl)) (t_val (v := .pointer (some ⟨g,0,none⟩)) (w0 rfl) (r_move (v := .pointer (some ⟨g,0,none⟩)) (ej rfl rfl)) (t_val (v := .pointer (some ⟨g,0,none⟩)) (w0 rfl) (r_nilCheck (ej rfl rfl)) (t_val (v := .pointer (some ⟨g,1,none⟩)) (w0 rfl) (r_field (off := 1) (o' := 1) F_f95_1 (ej rfl rfl) rfl) (t_val (v := .slice none 0 0) (w0 rfl) (r_load (v := .slice none 0 0) F_o93 (ej rfl rfl) (cell_of_blk (i := 1) (Ext.blk x2 hg) rfl)) (t_val (v := .int .i64 0) (w0 rfl) (r_lenL F_l93 (ej rfl rfl)) (t_done (s_unsafeStringN (ej rfl rfl) (ej rfl rfl) (w0 rfl) ?_)))))))))))
  refine s_assign (v := .string (⟨#[]⟩ : ByteArray)) (ej rfl rfl) (w0 rfl) (c_done (n_then (c_ret (ret1 (v := .string (⟨#[]⟩ : ByteArray)) rfl rfl rfl ?_))))
  refine ⟨_,rfl,?_,x2⟩
  rfl
theorem p_Program0 (A : Option Addr) (c : Nat) (w : World) (tb : Tabs Tryz.prog w) :
    Rt Tryz.prog 26 #[.agg #[.slice A 0 c]] w fun v w' => v = .tuple #[.string (⟨#[]⟩ : ByteArray),.int .i64 0] ∧ Ext w w' := by
  refine enter Tryz.func26 rfl (l := [.agg #[.slice A 0 c]]) rfl Tryz.ntmps26 (Nat.le_of_ble_eq_true rfl) ?_
  refine c_seq (c_reg (s_box (v := .agg #[.slice A 0 c]) (cs := #[.slice A 0 c]) (w0 rfl) (ej rfl rfl) rfl ?_))
  intro w2 g1 n3
  refine s_assign (v := .string (⟨#[]⟩ : ByteArray)) ev_c (w0 rfl) (s_assign (v := .int .i64 0) ev_c (w0 rfl) (c_done (n_then (c_seq (c_reg (s_alloc (cs := #[.pointer none,.slice none 0 0]) (w0 rfl) F_z97 rfl ?_))))))
  intro w5 g4 n6
  refine c_done (n_then (c_seq (c_seq (c_reg (s_field (off := 0) (o' := 0) F_f63_0 (ej rfl rfl) rfl (w0 rfl) (s_load (v := .slice A 0 c) F_o58 (ej rfl rfl) (cell_of_blk (i := 0) (Ext.blk (NewB.ext n6) (NewB.blk n3)) rfl) (w0 rfl) (s_lenL F_l58 (ej rfl rfl) (w0 rfl) (s_move (v := .int .i64 0) ev_c (w0 rfl) (c_done (n_then (c_block ?_)))))))))))
  have ge7 : w.heap.size ≤ g4 := by have a_ := NewB.eq n6; have b_ := Keep.size (NewB.ext n3); omega
  refine c_loop (α := Unit) (fun (_ : Unit) env_ w_ => Ext w w_ ∧ w_.heap[g4]? = some (.cells #[.pointer none,.slice none 0 0] 97 (0,0)) ∧ env_ 4 = .pointer (some ⟨g4,0,none⟩) ∧ env_ 8 = .slice A 0 c ∧ env_ 9 = .int .i64 0 ∧ env_ 10 = .int .i64 0) (fun _ => 0) (()) ⟨(Ext.trans (NewB.ext n3) (NewB.ext n6)),(NewB.blk n6),rfl,rfl,rfl,rfl⟩ ?_
  rintro _ env10 w8 ⟨x9,bk15,e11,e12,e13,e14⟩
  refine c_seq (c_reg (s_cmp (r := false) (ej rfl e14) (ej rfl e13) rfl (w0 rfl) (c_done (n_then (c_seq (c_cond0 (ej rfl rfl) (c_exit (e_then (e_then (e_hit (n_then ?_)))))))))))
  refine c_seq (c_reg (s_field (off := 0) (o' := 0) F_f97_0 (ej rfl e11) rfl (w0 rfl) (s_call F_e55 (w0 rfl) ev_f (m1 (ej rfl rfl)) (args := #[.pointer (some ⟨g4,0,none⟩)]) rfl (b_String0 _ g4 _ bk15) ?_)))
  rintro _ w17 ⟨rfl,x16⟩
  refine s_assign (v := .string (⟨#[]⟩ : ByteArray)) (ej rfl rfl) (w0 rfl) (s_assign (v := .int .i64 0) ev_c (w0 rfl) (c_done (n_then (c_ret (ret2 (v := .string (⟨#[]⟩ : ByteArray)) (v2 := .int .i64 0) rfl rfl rfl rfl rfl ?_)))))
  refine ⟨_,rfl,?_,(Ext.trans x9 x16)⟩
  rfl
theorem p_Program1 (l : List Ru) (A : Option Addr) (c : Nat) (w : World) (hl : l.length * 64 ≤ 140737488351232) (hr : Row RU 3 w A l) (hfew : l.length ≤ 1048577) (tb : Tabs Tryz.prog w) (tr : RelT Tryz.prog w) (tf : FoldT Tryz.prog w) (hne_ : l.length ≠ 0) :
    Rt Tryz.prog 26 #[.agg #[.slice A l.length c]] w fun v w' => v = .tuple #[.string (if l.all ruB then pgT l else ⟨#[]⟩),.int .i64 (code (l.all ruB))] ∧ Ext w w' := by
  refine enter Tryz.func26 rfl (l := [.agg #[.slice A l.length c]]) rfl Tryz.ntmps26 (Nat.le_of_ble_eq_true rfl) ?_
  refine c_seq (c_reg (s_box (v := .agg #[.slice A l.length c]) (cs := #[.slice A l.length c]) (w0 rfl) (ej rfl rfl) rfl ?_))
  intro w2 g1 n3
  refine s_assign (v := .string (⟨#[]⟩ : ByteArray)) ev_c (w0 rfl) (s_assign (v := .int .i64 0) ev_c (w0 rfl) (c_done (n_then (c_seq (c_reg (s_alloc (cs := #[.pointer none,.slice none 0 0]) (w0 rfl) F_z97 rfl ?_))))))
  intro w5 g4 n6
  have bw_ : BW 5 97 w.heap.size w5 g4 ⟨#[]⟩ := BW.new n6 rfl (by decide) (Keep.size (NewB.ext n3))
  have hB_ := Keep.size (Ext.trans (NewB.ext n3) (NewB.ext n6))
  refine c_done (n_then (c_seq (c_seq (c_reg (s_field (off := 0) (o' := 0) F_f63_0 (ej rfl rfl) rfl (w0 rfl) (s_load (v := .slice A l.length c) F_o58 (ej rfl rfl) (cell_of_blk (i := 0) (Ext.blk (NewB.ext n6) (NewB.blk n3)) rfl) (w0 rfl) (s_lenL F_l58 (ej rfl rfl) (w0 rfl) (s_move (v := .int .i64 0) ev_c (w0 rfl) (c_done (n_then (c_block ?_)))))))))))
  refine c_loop (α := Nat) (fun (i : Nat) env_ w_ => Wr 5 97 w.heap.size g4 (pgW l i) w5 w_ ∧ i ≤ l.length ∧ (∀ j y,j < i → l[j]? = some y → ruB y = true) ∧ env_ 4 = .pointer (some ⟨g4,0,none⟩) ∧ env_ 8 = .slice A l.length c ∧ env_ 9 = .int .i64 (l.length : Int) ∧ env_ 10 = .int .i64 ((i : Nat) : Int)) (fun i => l.length - i) (0) ⟨(Wr.cast (Wr.refl bw_) (by first | rfl | (rw [nil_app]; rfl))),Nat.zero_le _,(fun j y h => absurd h (Nat.not_lt_zero j)),rfl,rfl,rfl,rfl⟩ ?_
  rintro i env9 w7 ⟨x8,i10,i11,e12,e13,e14,e15⟩
  have hP_ := pgW_le hr i i10 i11
  have hlt_ := fun (hi_ : i < l.length) (hb_ : ruB (ruAt l i) = true) => ruW_at hr hi_ hb_
  refine c_seq (c_reg (s_cmp (r := decide (((i : Nat) : Int) < (l.length : Int))) (ej rfl e15) (ej rfl e14) rfl (w0 rfl) (c_done (n_then (c_seq ?_)))))
  by_cases h16 : ((i : Nat) : Int) < (l.length : Int)
  · refine c_cond1 (vb (ej rfl rfl) (decide_eq_true h16)) (c_skip (n_then (c_seq (c_block (c_seq (c_reg ?_))))))
    obtain ⟨b17,o18,x19,csx19,hA20,hx21,hR22,hc23⟩ := Row.at_ hr i (by omega)
    obtain rfl := ruAt_of hx21
    obtain ⟨Ah24,Ab25,ch26,cb27,rfl,ho28,rh29,rb30⟩ := hR22
    have := Ru.okc.p ho28
    have := Ru.okc.hl ho28
    have := Ru.okc.hc ho28
    have := Ru.okc.bl ho28
    have := Ru.okc.bc ho28
    refine s_indexR (j := i) F_l58 (ej rfl e13) hA20 (ej rfl e15) rfl (by omega) (w0 rfl) (s_loadL (cs := [.string ((ruAt l i).p),.slice Ah24 ((ruAt l i).head.length) ch26,.slice Ab25 ((ruAt l i).body.length) cb27]) F_m53 (ej rfl rfl) rfl rfl (sub_cells (cells_ext (Wr.after x8 (Ext.trans (NewB.ext n3) (NewB.ext n6)) rfl) hc23) 0 rfl) (w0 rfl) (s_alloc (cs := #[.string (⟨#[]⟩ : ByteArray),.slice none 0 0,.slice none 0 0]) (w0 rfl) F_z53 rfl ?_))
    intro w32 g31 n33
    have ne_g31 : g31 ≠ g4 := by have a_ := NewB.eq n33; have b_ := BW.lt (Wr.bw x8); omega
    refine s_store (cs' := #[.string ((ruAt l i).p),.slice Ah24 ((ruAt l i).head.length) ch26,.slice Ab25 ((ruAt l i).body.length) cb27]) F_sz53 (ej rfl rfl) (ej rfl rfl) (l := [.string ((ruAt l i).p),.slice Ah24 ((ruAt l i).head.length) ch26,.slice Ab25 ((ruAt l i).body.length) cb27]) rfl rfl rfl (NewB.blk n33) (Nat.le_of_ble_eq_true rfl) rfl (w0 rfl) ?_
    intro w34 k35
    refine c_done (n_then (c_seq (c_seq (c_reg (s_loadL (cs := [.string ((ruAt l i).p),.slice Ah24 ((ruAt l i).head.length) ch26,.slice Ab25 ((ruAt l i).body.length) cb27]) F_m53 (ej rfl rfl) rfl rfl (blk_cells (Wrote.blk k35) 0 rfl) (w0 rfl) (s_call F_e49 (w0 rfl) ev_f (m1 (ej rfl rfl)) (args := #[.agg #[.string ((ruAt l i).p),.slice Ah24 ((ruAt l i).head.length) ch26,.slice Ab25 ((ruAt l i).body.length) cb27]]) rfl (t_CheckRule (ruAt l i) Ah24 Ab25 ch26 cb27 _ ho28 (Row.extG rh29 (Keep.then_ (Ext.trans (Wr.after x8 (Ext.trans (NewB.ext n3) (NewB.ext n6)) rfl) (NewB.ext n33)) (Wrote.keep k35) (fun i_ hi_ h_ => by have a_ := NewB.eq n33; have b_ := Keep.size (Wr.after x8 (Ext.trans (NewB.ext n3) (NewB.ext n6)) rfl); omega))) (Row.extL rb30 (Keep.then_ (Ext.trans (Wr.after x8 (Ext.trans (NewB.ext n3) (NewB.ext n6)) rfl) (NewB.ext n33)) (Wrote.keep k35) (fun i_ hi_ h_ => by have a_ := NewB.eq n33; have b_ := Keep.size (Wr.after x8 (Ext.trans (NewB.ext n3) (NewB.ext n6)) rfl); omega)))) ?_))))))
    rintro _ w37 ⟨rfl,x36⟩
    refine s_cmp (r := !(ruB (ruAt l i))) (ej rfl rfl) ev_c (ci_tn (b := (ruB (ruAt l i))) (by decide)) (w0 rfl) (c_done (n_then ?_))
    rcases Bool.eq_false_or_eq_true (ruB (ruAt l i)) with h38 | h38
    · refine c_cond0 (vb (ej rfl rfl) (nbt h38)) (c_skip (n_then (c_seq (c_reg (s_loadL (cs := [.string ((ruAt l i).p),.slice Ah24 ((ruAt l i).head.length) ch26,.slice Ab25 ((ruAt l i).body.length) cb27]) F_m53 (ej rfl rfl) rfl rfl (blk_cells (Ext.blk x36 (Wrote.blk k35)) 0 rfl) (w0 rfl) (s_call F_e50 (w0 rfl) ev_f (m2 (ej rfl e12) (ej rfl rfl)) (args := #[.pointer (some ⟨g4,0,none⟩),.agg #[.string ((ruAt l i).p),.slice Ah24 ((ruAt l i).head.length) ch26,.slice Ab25 ((ruAt l i).body.length) cb27]]) rfl (p_rule (ruAt l i) Ah24 Ab25 ch26 cb27 g4 (pgW l i) w _ (Ext.trans (Keep.then_ (Ext.trans (Wr.after x8 (Ext.trans (NewB.ext n3) (NewB.ext n6)) rfl) (NewB.ext n33)) (Wrote.keep k35) (fun i_ hi_ h_ => by have a_ := NewB.eq n33; have b_ := Keep.size (Wr.after x8 (Ext.trans (NewB.ext n3) (NewB.ext n6)) rfl); omega)) x36) tb (BW.ext (Wr.bw x8) (Ext.trans (Keep.then_ (NewB.ext n33) (Wrote.keep k35) (fun i_ hi_ h_ => by have a_ := NewB.eq n33; have b_ := Keep.size (Ext.refl w7); omega)) x36)) ho28 rh29 rb30 (by assumption) tr tf (by omega)) ?_))))))
      rintro _ w39 ⟨rfl,wr40⟩
      refine c_done (n_then (c_reg (s_bslice (vs := [(0,.string (⟨#[10]⟩ : ByteArray))]) (cs := #[.string (⟨#[10]⟩ : ByteArray)]) (b1 ev_c) (bs106_1_0s (⟨#[10]⟩ : ByteArray)) (w0 rfl) ?_)))
      intro w42 g41 n43
      have ne_g41 : g41 ≠ g4 := by have a_ := NewB.eq n43; have b_ := BW.lt (Wr.bw wr40); omega
      refine s_call F_e54 (w0 rfl) ev_f (m2 (ej rfl e12) (ej rfl rfl)) (args := #[.pointer (some ⟨g4,0,none⟩),.slice (some ⟨g41,0,none⟩) 1 1]) rfl (p_put 97 _ g4 g41 (pgW l i ++ (ruW (ruAt l i))) [(⟨#[10]⟩ : ByteArray)] _ (BW.ext (Wr.bw wr40) (NewB.ext n43)) (Nat.le_trans (Nat.le_trans (Nat.le_trans (Nat.le_trans (Nat.le_trans (Nat.le_trans hB_ (Wr.size x8)) (Keep.size (NewB.ext n33))) (Keep.size (Wrote.keep k35))) (Keep.size x36)) (Wr.size wr40)) (Keep.size (NewB.ext n43))) (by decide) F_lies97 (NewB.blk n43) (by have hq_ := hlt_ (by omega) (by assumption); (try simp only [catL,ByteArray.size_append,z0,z1]); omega) (by simp)) ?_
      rintro _ w44 ⟨rfl,wr45⟩
      refine c_done (n_block (n_then (c_reg (s_add (r := ((i + 1 : Nat) : Int)) (ej rfl e15) ev_c (by omega) (by omega) (w0 rfl) (s_move (v := .int .i64 ((i + 1 : Nat) : Int)) (ej rfl rfl) (w0 rfl) (c_done ?_))))))
      exact ⟨(i + 1),_,rfl,⟨(Wr.cast (Wr.then_ (Wr.ext (Wr.then_ (Wr.ext x8 (Ext.trans (Keep.then_ (NewB.ext n33) (Wrote.keep k35) (fun i_ hi_ h_ => by have a_ := NewB.eq n33; have b_ := Keep.size (Ext.refl w7); omega)) x36) hB_) wr40) (NewB.ext n43) hB_) wr45) (by simp only [pgW,catL,app_nil,app_assoc])),by omega,(kids_step i11 (ruAt_there (by omega)) (by assumption)),e12,e13,e14,rfl⟩,(show l.length - (i + 1) < l.length - i by omega)⟩
    refine c_cond1 (vb (ej rfl rfl) (nbf h38)) (c_seq (c_reg (s_assign (v := .string (⟨#[]⟩ : ByteArray)) ev_c (w0 rfl) (s_assign (v := .int .i64 40) ev_c (w0 rfl) (c_done (n_then (c_ret (r_then (r_block (r_then (r_then ?_)))))))))))
    refine r_block (r_then (ret2 (v := .string (⟨#[]⟩ : ByteArray)) (v2 := .int .i64 40) rfl rfl rfl rfl rfl ?_))
    refine ⟨_,rfl,?_,(Ext.trans (Keep.then_ (Ext.trans (Wr.after x8 (Ext.trans (NewB.ext n3) (NewB.ext n6)) rfl) (NewB.ext n33)) (Wrote.keep k35) (fun i_ hi_ h_ => by have a_ := NewB.eq n33; have b_ := Keep.size (Wr.after x8 (Ext.trans (NewB.ext n3) (NewB.ext n6)) rfl); omega)) x36)⟩
    (rw [all_no (ruAt_there (l := l) (j := i) (by omega)) (by assumption)]; rfl)
  refine c_cond0 (vb (ej rfl rfl) (decide_eq_false h16)) (c_exit (e_then (e_then (e_hit (n_then (c_seq (c_reg (s_field (off := 0) (o' := 0) F_f97_0 (ej rfl e12) rfl (w0 rfl) (s_call F_e55 (w0 rfl) ev_f (m1 (ej rfl rfl)) (args := #[.pointer (some ⟨g4,0,none⟩)]) rfl (b_String 97 _ g4 (pgW l i) _ (Wr.bw x8) (Nat.le_trans hB_ (Wr.size x8)) (by (have e_ : i = l.length := (by omega)); subst e_; exact pgT_ne hne_)) ?_)))))))))
  rintro _ w46 ⟨rfl,bl47⟩
  refine s_assign (v := .string (pgW l i)) (ej rfl rfl) (w0 rfl) (s_assign (v := .int .i64 0) ev_c (w0 rfl) (c_done (n_then (c_ret (ret2 (v := .string (pgW l i)) (v2 := .int .i64 0) rfl rfl rfl rfl rfl ?_)))))
  refine ⟨_,rfl,?_,(ext_bel (Wr.after x8 (Ext.trans (NewB.ext n3) (NewB.ext n6)) rfl) bl47)⟩
  (rw [all_yes (by omega) i11]; (have e_ : i = l.length := (by omega)); subst e_; rfl)
theorem p_Program (l : List Ru) (A : Option Addr) (c : Nat) (w : World) (hl : l.length * 64 ≤ 140737488351232) (hr : Row RU 3 w A l) (hfew : l.length ≤ 1048577) (tb : Tabs Tryz.prog w) (tr : RelT Tryz.prog w) (tf : FoldT Tryz.prog w) : Rt Tryz.prog 26 #[.agg #[.slice A l.length c]] w fun v w' => v = .tuple #[.string (if l.all ruB then pgT l else ⟨#[]⟩),.int .i64 (code (l.all ruB))] ∧ Ext w w' := by
  by_cases h0 : l.length = 0
  · obtain rfl : l = [] := List.length_eq_zero_iff.1 h0
    exact Rt.mono (p_Program0 A c w tb) (fun v w' h => h)
  exact p_Program1 l A c w hl hr hfew tb tr tf h0
end Go.Proofs.Zw

set_option linter.unusedVariables false
set_option linter.unusedSimpArgs false
set_option maxRecDepth 10000
namespace Go.Proofs.Zw
open Go Go.Wk Go.Proofs Go.Lib
attribute [local irreducible] Go.wpList Go.wpStill Go.wpQuiet Go.Code.wp Go.Calls
theorem F_e23 : enterable Tryz.prog 23 = true := by kernel_rfl
theorem F_e24 : enterable Tryz.prog 24 = true := by kernel_rfl
theorem F_e25 : enterable Tryz.prog 25 = true := by kernel_rfl
theorem F_e26 : enterable Tryz.prog 26 = true := by kernel_rfl
theorem F_e27 : enterable Tryz.prog 27 = true := by kernel_rfl
theorem bd63_0s : ∀ (a0 : Option Addr) (a0n a0c : Nat),∀ w : World,(Instr.build 63 [(0,.slice a0 a0n a0c)].toArray).run Tryz.prog w = .ok (.agg #[.slice a0 a0n a0c]) w := by
  intros
  kernel_rfl
theorem l_PrintPrograms (l : List Ru) (A : Option Addr) (c : Nat) (w : World) (hl : l.length * 64 ≤ 140737488351232) (hr : Row RU 3 w A l) (tb : Tabs Tryz.prog w) (tr : RelT Tryz.prog w) (tf : FoldT Tryz.prog w) :
    Rt Tryz.prog 5 #[.slice A l.length c] w fun v w' => v = .bool true ∧ Ext w w' := by
  refine enter Tryz.func5 rfl (l := [.slice A l.length c]) rfl Tryz.ntmps5 (Nat.le_of_ble_eq_true rfl) ?_
  refine c_seq (c_reg (s_assign (v := .bool false) ev_c (w0 rfl) (c_done (n_then (c_seq (c_seq (c_reg (s_move (v := .slice A l.length c) (ej rfl rfl) (w0 rfl) (s_call F_e23 (w0 rfl) ev_f (m1 (ej rfl rfl)) (args := #[.slice A l.length c]) rfl (l_BeyondRules l A c _ hl hr) ?_)))))))))
  rintro _ w2 ⟨⟨z1,rfl,hfew4⟩,x3⟩
  refine c_done (n_then ?_)
  rcases Bool.eq_false_or_eq_true z1 with h5 | h5
  · refine c_cond1 (vb (ej rfl rfl) h5) (c_seq (c_reg (s_assign (v := .bool true) ev_c (w0 rfl) (c_done (n_then (c_ret (r_then (ret1 (v := .bool true) rfl rfl rfl ?_))))))))
    refine ⟨_,rfl,?_,x3⟩
    rfl
  refine c_cond0 (vb (ej rfl rfl) h5) (c_skip (n_then (c_seq (c_reg (s_move (v := .slice A l.length c) (ej rfl rfl) (w0 rfl) (s_call F_e24 (w0 rfl) ev_f (m1 (ej rfl rfl)) (args := #[.slice A l.length c]) rfl (l_TwinRules l A c _ (by omega) (Row.extU hr x3) (Tabs.ext tb x3)) ?_))))))
  rintro _ w7 ⟨b6,rfl,tw8,x9⟩
  refine s_assign (v := .slice (some ⟨b6,0,none⟩) l.length (l.length + 1)) (ej rfl rfl) (w0 rfl) (c_done (n_then (c_seq (c_reg (s_move (v := .slice A l.length c) (ej rfl rfl) (w0 rfl) (s_build (v := .agg #[.slice A l.length c]) (vs := [(0,.slice A l.length c)]) (b1 (ej rfl rfl)) (bd63_0s A l.length c) (w0 rfl) ?_))))))
  have hfew_ : l.length ≤ 1048577 := hfew4 (by assumption)
  refine s_call F_e25 (w0 rfl) ev_f (m1 (ej rfl rfl)) (args := #[.agg #[.slice A l.length c]]) rfl (r6_Program l A c _ (by omega) (Row.extU (Row.extU hr x3) x9) (by omega)) ?_
  rintro _ w11 ⟨rfl,x10⟩
  refine s_move (v := .tuple #[.string (if l.all ruB then pgT l else ⟨#[]⟩),.int .i64 (code (l.all ruB))]) (ej rfl rfl) (w0 rfl) (s_extract (v := .string (if l.all ruB then pgT l else ⟨#[]⟩)) (ej rfl rfl) rfl (w0 rfl) (s_extract (v := .int .i64 (code (l.all ruB))) (ej rfl rfl) rfl (w0 rfl) (s_assign (v := .string (if l.all ruB then pgT l else ⟨#[]⟩)) (ej rfl rfl) (w0 rfl) (s_assign (v := .int .i64 (code (l.all ruB))) (ej rfl rfl) (w0 rfl) (c_done (n_then (c_seq (c_reg (s_move (v := .slice (some ⟨b6,0,none⟩) l.length (l.length + 1)) (ej rfl rfl) (w0 rfl) (s_build (v := .agg #[.slice (some ⟨b6,0,none⟩) l.length (l.length + 1)]) (vs := [(0,.slice (some ⟨b6,0,none⟩) l.length (l.length + 1))]) (b1 (ej rfl rfl)) (bd63_0s (some ⟨b6,0,none⟩) l.length (l.length + 1)) (w0 rfl) (s_call F_e26 (w0 rfl) ev_f (m1 (ej rfl rfl)) (args := #[.agg #[.slice (some ⟨b6,0,none⟩) l.length (l.length + 1)]]) rfl (p_Program l (some ⟨b6,0,none⟩) (l.length + 1) _ (by omega) (Row.extU (TwG.rowsU (FU.tw tw8)) x10) (by omega) (Tabs.ext tb (Ext.trans (Ext.trans x3 x9) x10)) (RelT.ext tr (Ext.trans (Ext.trans x3 x9) x10)) (FoldT.ext tf (Ext.trans (Ext.trans x3 x9) x10))) ?_)))))))))))
  rintro _ w13 ⟨rfl,x12⟩
  refine s_move (v := .tuple #[.string (if l.all ruB then pgT l else ⟨#[]⟩),.int .i64 (code (l.all ruB))]) (ej rfl rfl) (w0 rfl) (s_extract (v := .string (if l.all ruB then pgT l else ⟨#[]⟩)) (ej rfl rfl) rfl (w0 rfl) (s_extract (v := .int .i64 (code (l.all ruB))) (ej rfl rfl) rfl (w0 rfl) (s_assign (v := .string (if l.all ruB then pgT l else ⟨#[]⟩)) (ej rfl rfl) (w0 rfl) (s_assign (v := .int .i64 (code (l.all ruB))) (ej rfl rfl) (w0 rfl) (c_done (n_then (c_seq (c_seq (c_reg (s_move (v := .string (if l.all ruB then pgT l else ⟨#[]⟩)) (ej rfl rfl) (w0 rfl) (s_move (v := .string (if l.all ruB then pgT l else ⟨#[]⟩)) (ej rfl rfl) (w0 rfl) ?_)))))))))))
  refine s_cmpS (r := false) (ej rfl rfl) (ej rfl rfl) (cmpS_selfn _) (w0 rfl) (s_move (v := .bool false) (ej rfl rfl) (w0 rfl) (s_move (v := .int .i64 (code (l.all ruB))) (ej rfl rfl) (wy rfl rfl rfl rfl) (s_move (v := .int .i64 (code (l.all ruB))) (ej rfl rfl) (wy rfl rfl rfl rfl) (s_cmp (r := false) (ej rfl rfl) (ej rfl rfl) (cmpI_selfn _) (wy rfl rfl rfl rfl) (s_pick0 (v := .bool false) (ej rfl rfl) (ej rfl rfl) (w0 rfl) (s_move (v := .bool false) (ej rfl rfl) (w0 rfl) (s_move (v := .slice (some ⟨b6,0,none⟩) l.length (l.length + 1)) (ej rfl rfl) (wy rfl rfl rfl rfl) (s_move (v := .slice A l.length c) (ej rfl rfl) (wy rfl rfl rfl rfl) (s_call F_e27 (wy rfl rfl rfl rfl) ev_f (m2 (ej rfl rfl) (ej rfl rfl)) (args := #[.slice (some ⟨b6,0,none⟩) l.length (l.length + 1),.slice A l.length c]) rfl (l_LeftRules l A c b6 _ _ (by omega) (TwG.ext okU (TwG.ext okU (FU.tw tw8) x10) x12) (Row.extU (Row.extU (Row.extU (Row.extU hr x3) x9) x10) x12) (Tabs.ext tb (Ext.trans (Ext.trans (Ext.trans x3 x9) x10) x12))) ?_)))))))))
  rintro _ w15 ⟨rfl,x14⟩
  refine s_not (b := true) (ej rfl rfl) (wy rfl rfl rfl rfl) (s_pick0 (v := .bool false) (ej rfl rfl) (ej rfl rfl) (w0 rfl) (c_done (n_then (c_cond0 (ej rfl rfl) (c_skip (n_then (c_seq (c_seq (c_reg (s_assign (v := .int .i64 0) ev_c (w0 rfl) (c_done ?_)))))))))))
  refine n_then (c_block ?_)
  have fu16 : FU 53 w.heap.size w15 b6 l := FU.mono (FU.ext (FU.ext (FU.ext tw8 x10) x12) x14) (Keep.size x3)
  refine c_loop (α := Nat × List Ru) (fun x_ env_ w_ => match x_ with | (i,l2) => Ext w w_ ∧ i ≤ l.length ∧ l2.length = l.length ∧ FU 53 w.heap.size w_ b6 l2 ∧ env_ 2 = .bool false ∧ env_ 3 = .slice (some ⟨b6,0,none⟩) l2.length (l.length + 1) ∧ env_ 4 = .string (if l.all ruB then pgT l else ⟨#[]⟩) ∧ env_ 5 = .int .i64 (code (l.all ruB)) ∧ env_ 6 = .string (if l.all ruB then pgT l else ⟨#[]⟩) ∧ env_ 7 = .int .i64 (code (l.all ruB)) ∧ env_ 8 = .int .i64 ((i : Nat) : Int)) (fun x_ => match x_ with | (i,l2) => l.length - i) (0,l) ⟨(Ext.trans (Ext.trans (Ext.trans (Ext.trans x3 x9) x10) x12) x14),Nat.zero_le _,rfl,fu16,rfl,rfl,rfl,rfl,rfl,rfl,rfl⟩ ?_
  rintro ⟨i,l2⟩ env19 w17 ⟨x18,i20,i21,i22,e23,e24,e25,e26,e27,e28,e29⟩
  have ge_b_ := i22.1
  refine c_seq (c_seq (c_reg (s_move (v := .int .i64 ((i : Nat) : Int)) (ej rfl e29) (w0 rfl) (s_move (v := .slice (some ⟨b6,0,none⟩) l2.length (l.length + 1)) (ej rfl e24) (w0 rfl) (s_lenL F_l58 (ej rfl rfl) (w0 rfl) (s_quo (r := ((l2.length / 2 : Nat) : Int)) (ej rfl rfl) ev_c (by decide) (quo_i64 l2.length 2 (K := 2) rfl (by decide) (by omega)) (w0 rfl) (s_cmp (r := decide (((i : Nat) : Int) < ((l2.length / 2 : Nat) : Int))) (ej rfl rfl) (ej rfl rfl) rfl (w0 rfl) (c_done (n_then ?_)))))))))
  by_cases h30 : ((i : Nat) : Int) < ((l2.length / 2 : Nat) : Int)
  · refine c_cond1 (vb (ej rfl rfl) (decide_eq_true h30)) (c_skip (n_then (c_seq (c_block (c_seq (c_reg (s_move (v := .slice (some ⟨b6,0,none⟩) l2.length (l.length + 1)) (ej rfl e24) (w0 rfl) (s_lenL F_l58 (ej rfl rfl) (w0 rfl) (s_sub (r := ((l2.length - 1 : Nat) : Int)) (ej rfl rfl) ev_c (by omega) (by omega) (w0 rfl) (s_move (v := .int .i64 ((i : Nat) : Int)) (ej rfl e29) (w0 rfl) (s_sub (r := (((l2.length - 1 - i) : Nat) : Int)) (ej rfl rfl) (ej rfl rfl) (by omega) (by omega) (w0 rfl) ?_)))))))))))
    refine s_assign (v := .int .i64 (((l2.length - 1 - i) : Nat) : Int)) (ej rfl rfl) (w0 rfl) (c_done (n_then ?_))
    have hk1_ : (l2.length - 1 - i) < l2.length := by omega
    have hk2_ : i < l2.length := by omega
    obtain ⟨_,qi_,hei_⟩ := FU.at_ i22 (j := i) (by omega)
    obtain ⟨bhi,bbi,rfl,hoi_,thi_,tbi_⟩ := qi_
    obtain ⟨_,qk_,hek_⟩ := FU.at_ i22 (j := (l2.length - 1 - i)) (by omega)
    obtain ⟨bhk,bbk,rfl,hok_,thk_,tbk_⟩ := qk_
    refine c_trace2 (fun k v wb wa => match k with | 0 => v = .slice (some ⟨b6,0,none⟩) l2.length (l.length + 1) | 1 => v = .int .i64 ((i : Nat) : Int) | 2 => v = .slice (some ⟨b6,0,none⟩) l2.length (l.length + 1) | 3 => v = .int .i64 (((l2.length - 1 - i) : Nat) : Int) | 4 => v = .slice (some ⟨b6,0,none⟩) l2.length (l.length + 1) | 5 => v = .int .i64 (((l2.length - 1 - i) : Nat) : Int) | 6 => v = .pointer (some ⟨b6,0 + (l2.length - 1 - i) * 3,none⟩) | 7 => v = .agg #[.string ((ruAt l2 (l2.length - 1 - i)).p),.slice (some ⟨bhk,0,none⟩) ((ruAt l2 (l2.length - 1 - i)).head.length) ((ruAt l2 (l2.length - 1 - i)).head.length + 1),.slice (some ⟨bbk,0,none⟩) ((ruAt l2 (l2.length - 1 - i)).body.length) ((ruAt l2 (l2.length - 1 - i)).body.length + 1)] | 8 => v = .slice (some ⟨b6,0,none⟩) l2.length (l.length + 1) | 9 => v = .int .i64 ((i : Nat) : Int) | 10 => v = .pointer (some ⟨b6,0 + i * 3,none⟩) | 11 => v = .agg #[.string ((ruAt l2 i).p),.slice (some ⟨bhi,0,none⟩) ((ruAt l2 i).head.length) ((ruAt l2 i).head.length + 1),.slice (some ⟨bbi,0,none⟩) ((ruAt l2 i).body.length) ((ruAt l2 i).body.length + 1)] | 12 => v = .pointer (some ⟨b6,0 + i * 3,none⟩) | _ => True) (fun k => [52,53,54,55,56,57,58,59,60,61,62,63,64].getD k 999) (fun k => [[],[],[],[],[],[],[4,5],[6],[],[],[8,9],[10],[0,1]].getD k []) 7 13 mixed (by kernel_rfl) (by decide) ?_ ?_ ?_
    · intro wd xd
      refine h_val (v := .slice (some ⟨b6,0,none⟩) l2.length (l.length + 1)) (w0 rfl) (fun w_ c_ => r_move (v := .slice (some ⟨b6,0,none⟩) l2.length (l.length + 1)) (ej rfl e24)) (h_val (v := .int .i64 ((i : Nat) : Int)) (w0 rfl) (fun w_ c_ => r_move (v := .int .i64 ((i : Nat) : Int)) (ej rfl e29)) (h_val (v := .slice (some ⟨b6,0,none⟩) l2.length (l.length + 1)) (w0 rfl) (fun w_ c_ => r_move (v := .slice (some ⟨b6,0,none⟩) l2.length (l.length + 1)) (ej rfl e24)) (h_val (v := .int .i64 (((l2.length - 1 - i) : Nat) : Int)) (w0 rfl) (fun w_ c_ => r_move (v := .int .i64 (((l2.length - 1 - i) : Nat) : Int)) (ej rfl rfl)) (h_val (v := .slice (some ⟨b6,0,none⟩) l2.length (l.length + 1)) (w0 rfl) (fun w_ c_ => r_move (v := .slice (some ⟨b6,0,none⟩) l2.length (l.length + 1)) (ej rfl e24)) (h_val (v := .int .i64 (((l2.length - 1 - i) : Nat) : Int)) (w0 rfl) (fun w_ c_ => r_move (v := .int .i64 (((l2.length - 1 - i) : Nat) : Int)) (ej rfl rfl)) (h_val (v := .pointer (some ⟨b6,0 + (l2.length - 1 - i) * 3,none⟩)) (w0 rfl) (fun w_ c_ => r_indexR (j := (l2.length - 1 - i)) F_l58 (ej rfl rfl) rfl (ej rfl rfl) rfl (by omega)) (h_done ?_)))))))
      exact ⟨_,rfl,(fun k_ hk_ => by have h_ : k_ = 0 ∨ k_ = 1 ∨ k_ = 2 ∨ k_ = 3 ∨ k_ = 4 ∨ k_ = 5 ∨ k_ = 6 := (by omega); rcases h_ with rfl | rfl | rfl | rfl | rfl | rfl | rfl <;> rfl),(fun s_ hs_ => by rw [upd_ne (k := 58) (fun e_ => hs_ 6 (by decide) e_.symm),upd_ne (k := 57) (fun e_ => hs_ 5 (by decide) e_.symm),upd_ne (k := 56) (fun e_ => hs_ 4 (by decide) e_.symm),upd_ne (k := 55) (fun e_ => hs_ 3 (by decide) e_.symm),upd_ne (k := 54) (fun e_ => hs_ 2 (by decide) e_.symm),upd_ne (k := 53) (fun e_ => hs_ 1 (by decide) e_.symm),upd_ne (k := 52) (fun e_ => hs_ 0 (by decide) e_.symm)])⟩
    · intro wd xd k_ hn_ hk_ env_ B_ A_ w_ hx_
      have hkm : k_ = 7 ∨ k_ = 8 ∨ k_ = 9 ∨ k_ = 10 ∨ k_ = 11 ∨ k_ = 12 := by omega
      rcases hkm with rfl | rfl | rfl | rfl | rfl | rfl
      · refine ⟨_,rfl,?_⟩
        refine s_loadL (cs := [.string ((ruAt l2 (l2.length - 1 - i)).p),.slice (some ⟨bhk,0,none⟩) ((ruAt l2 (l2.length - 1 - i)).head.length) ((ruAt l2 (l2.length - 1 - i)).head.length + 1),.slice (some ⟨bbk,0,none⟩) ((ruAt l2 (l2.length - 1 - i)).body.length) ((ruAt l2 (l2.length - 1 - i)).body.length + 1)]) F_m53 (ej rfl (Tr.g hx_ 6 (by decide))) rfl rfl (sub_cells (cells_ext (Tr.ext hx_) (cells_ext xd hek_)) 0 rfl) (w0 rfl) ?_
        exact tl_done ⟨_,rfl,rfl,Ext.refl _⟩
      · refine ⟨_,rfl,?_⟩
        refine s_move (v := .slice (some ⟨b6,0,none⟩) l2.length (l.length + 1)) (ej rfl ((Tr.env hx_ 3 (by decide)).trans e24)) (w0 rfl) ?_
        exact tl_done ⟨_,rfl,rfl,Ext.refl _⟩
      · refine ⟨_,rfl,?_⟩
        refine s_move (v := .int .i64 ((i : Nat) : Int)) (ej rfl ((Tr.env hx_ 8 (by decide)).trans e29)) (w0 rfl) ?_
        exact tl_done ⟨_,rfl,rfl,Ext.refl _⟩
      · refine ⟨_,rfl,?_⟩
        refine s_indexR (j := i) F_l58 (ej rfl (Tr.g hx_ 8 (by decide))) rfl (ej rfl (Tr.g hx_ 9 (by decide))) rfl (by omega) (w0 rfl) ?_
        exact tl_done ⟨_,rfl,rfl,Ext.refl _⟩
      · refine ⟨_,rfl,?_⟩
        refine s_loadL (cs := [.string ((ruAt l2 i).p),.slice (some ⟨bhi,0,none⟩) ((ruAt l2 i).head.length) ((ruAt l2 i).head.length + 1),.slice (some ⟨bbi,0,none⟩) ((ruAt l2 i).body.length) ((ruAt l2 i).body.length + 1)]) F_m53 (ej rfl (Tr.g hx_ 10 (by decide))) rfl rfl (sub_cells (cells_ext (Tr.ext hx_) (cells_ext xd hei_)) 0 rfl) (w0 rfl) ?_
        exact tl_done ⟨_,rfl,rfl,Ext.refl _⟩
      refine ⟨_,rfl,?_⟩
      refine s_indexR (j := i) F_l58 (ej rfl (Tr.g hx_ 0 (by decide))) rfl (ej rfl (Tr.g hx_ 1 (by decide))) rfl (by omega) (w0 rfl) ?_
      exact tl_done ⟨_,rfl,rfl,Ext.refl _⟩
    intro wd xd env_ B_ A_ w_ hx_
    refine tl_cons ?_
    refine s_storeU (q := (ruAt l2 (l2.length - 1 - i))) (c := [.string ((ruAt l2 (l2.length - 1 - i)).p),.slice (some ⟨bhk,0,none⟩) ((ruAt l2 (l2.length - 1 - i)).head.length) ((ruAt l2 (l2.length - 1 - i)).head.length + 1),.slice (some ⟨bbk,0,none⟩) ((ruAt l2 (l2.length - 1 - i)).body.length) ((ruAt l2 (l2.length - 1 - i)).body.length + 1)]) (FU.ext (FU.ext i22 xd) (Tr.ext hx_)) (by (try simp only [List.length_set]); omega) F_sz53 (ej rfl (Tr.g hx_ 12 (by decide))) (ej rfl (Tr.g hx_ 7 (by decide))) rfl rfl rfl (okU.keep (okU.keep (⟨bhk,bbk,rfl,hok_,thk_,tbk_⟩ : QU _ _ _ _) xd (fun _ h_ => h_.elim)) (Tr.ext hx_) (fun _ h_ => h_.elim)) (w0 rfl) ?_
    intro w31 fu32 k33
    refine tl_done ⟨trivial,?_⟩
    refine tl_cons ?_
    refine s_indexR (j := (l2.length - 1 - i)) F_l58 (ej rfl (Tr.g hx_ 2 (by decide))) rfl (ej rfl (Tr.g hx_ 3 (by decide))) rfl (by omega) (w0 rfl) ?_
    refine tl_done ⟨trivial,?_⟩
    refine tl_cons ?_
    refine s_storeU (q := (ruAt l2 i)) (c := [.string ((ruAt l2 i).p),.slice (some ⟨bhi,0,none⟩) ((ruAt l2 i).head.length) ((ruAt l2 i).head.length + 1),.slice (some ⟨bbi,0,none⟩) ((ruAt l2 i).body.length) ((ruAt l2 i).body.length + 1)]) fu32 (by (try simp only [List.length_set]); omega) F_sz53 (ej rfl rfl) (ej rfl (Tr.g hx_ 11 (by decide))) rfl rfl rfl (okU.keep (okU.keep (okU.keep (⟨bhi,bbi,rfl,hoi_,thi_,tbi_⟩ : QU _ _ _ _) xd (fun _ h_ => h_.elim)) (Tr.ext hx_) (fun _ h_ => h_.elim)) k33 (fun i_ h_ => by omega)) (w0 rfl) ?_
    intro w34 fu35 k36
    refine tl_done ⟨trivial,?_⟩
    refine tl_nil ?_
    refine n_block (n_then (c_reg (s_move (v := .int .i64 ((i : Nat) : Int)) (ej rfl ((Tr.env hx_ 8 (by decide)).trans e29)) (w0 rfl) (s_add (r := ((i + 1 : Nat) : Int)) (ej rfl rfl) ev_c (by omega) (by omega) (w0 rfl) (s_assign (v := .int .i64 ((i + 1 : Nat) : Int)) (ej rfl rfl) (w0 rfl) (c_done ?_))))))
    exact ⟨(i + 1,((l2.set i (ruAt l2 (l2.length - 1 - i))).set (l2.length - 1 - i) (ruAt l2 i))),_,rfl,⟨(Keep.then_ (Keep.then_ (Ext.trans (Ext.trans x18 xd) (Tr.ext hx_)) k33 (fun i_ hi_ h_ => by have a_ := ge_b_; omega)) k36 (fun i_ hi_ h_ => by have a_ := ge_b_; omega)),by omega,(by simp only [List.length_set]; omega),fu35,((Tr.env hx_ 2 (by decide)).trans e23),(Eq.trans ((Tr.env hx_ 3 (by decide)).trans e24) (congrArg (fun n_ => Value.slice (some ⟨b6,0,none⟩) n_ (l.length + 1)) (show l2.length = ((l2.set i (ruAt l2 (l2.length - 1 - i))).set (l2.length - 1 - i) (ruAt l2 i)).length by simp only [List.length_set]))),((Tr.env hx_ 4 (by decide)).trans e25),((Tr.env hx_ 5 (by decide)).trans e26),((Tr.env hx_ 6 (by decide)).trans e27),((Tr.env hx_ 7 (by decide)).trans e28),rfl⟩,(show l.length - (i + 1) < l.length - i by omega)⟩
  refine c_cond0 (vb (ej rfl rfl) (decide_eq_false h30)) (c_exit (e_then (e_then (e_hit (n_then (c_seq (c_reg (s_move (v := .slice (some ⟨b6,0,none⟩) l2.length (l.length + 1)) (ej rfl e24) (w0 rfl) (s_call F_e24 (w0 rfl) ev_f (m1 (ej rfl rfl)) (args := #[.slice (some ⟨b6,0,none⟩) l2.length (l.length + 1)]) rfl (l_TwinRules l2 (some ⟨b6,0,none⟩) (l.length + 1) _ (by omega) (TwG.rowsU (FU.tw i22)) (Tabs.ext tb x18)) ?_)))))))))
  rintro _ w38 ⟨b37,rfl,tw39,x40⟩
  refine s_build (v := .agg #[.slice (some ⟨b37,0,none⟩) l2.length (l2.length + 1)]) (vs := [(0,.slice (some ⟨b37,0,none⟩) l2.length (l2.length + 1))]) (b1 (ej rfl rfl)) (bd63_0s (some ⟨b37,0,none⟩) l2.length (l2.length + 1)) (w0 rfl) (s_call F_e25 (w0 rfl) ev_f (m1 (ej rfl rfl)) (args := #[.agg #[.slice (some ⟨b37,0,none⟩) l2.length (l2.length + 1)]]) rfl (r6_Program l2 (some ⟨b37,0,none⟩) (l2.length + 1) _ (by omega) (TwG.rowsU (FU.tw tw39)) (by omega)) ?_)
  rintro _ w42 ⟨rfl,x41⟩
  refine s_move (v := .tuple #[.string (if l2.all ruB then pgT l2 else ⟨#[]⟩),.int .i64 (code (l2.all ruB))]) (ej rfl rfl) (w0 rfl) (s_extract (v := .string (if l2.all ruB then pgT l2 else ⟨#[]⟩)) (ej rfl rfl) rfl (w0 rfl) (s_extract (v := .int .i64 (code (l2.all ruB))) (ej rfl rfl) rfl (w0 rfl) (s_assign (v := .string (if l2.all ruB then pgT l2 else ⟨#[]⟩)) (ej rfl rfl) (w0 rfl) (s_assign (v := .int .i64 (code (l2.all ruB))) (ej rfl rfl) (w0 rfl) (c_done (n_then (c_seq (c_reg (s_move (v := .slice (some ⟨b6,0,none⟩) l2.length (l.length + 1)) (ej rfl e24) (w0 rfl) (s_build (v := .agg #[.slice (some ⟨b6,0,none⟩) l2.length (l.length + 1)]) (vs := [(0,.slice (some ⟨b6,0,none⟩) l2.length (l.length + 1))]) (b1 (ej rfl rfl)) (bd63_0s (some ⟨b6,0,none⟩) l2.length (l.length + 1)) (w0 rfl) (s_call F_e26 (w0 rfl) ev_f (m1 (ej rfl rfl)) (args := #[.agg #[.slice (some ⟨b6,0,none⟩) l2.length (l.length + 1)]]) rfl (p_Program l2 (some ⟨b6,0,none⟩) (l.length + 1) _ (by omega) (Row.extU (Row.extU (TwG.rowsU (FU.tw i22)) x40) x41) (by omega) (Tabs.ext tb (Ext.trans (Ext.trans x18 x40) x41)) (RelT.ext tr (Ext.trans (Ext.trans x18 x40) x41)) (FoldT.ext tf (Ext.trans (Ext.trans x18 x40) x41))) ?_)))))))))))
  rintro _ w44 ⟨rfl,x43⟩
  refine s_move (v := .tuple #[.string (if l2.all ruB then pgT l2 else ⟨#[]⟩),.int .i64 (code (l2.all ruB))]) (ej rfl rfl) (w0 rfl) (s_extract (v := .string (if l2.all ruB then pgT l2 else ⟨#[]⟩)) (ej rfl rfl) rfl (w0 rfl) (s_extract (v := .int .i64 (code (l2.all ruB))) (ej rfl rfl) rfl (w0 rfl) (s_assign (v := .string (if l2.all ruB then pgT l2 else ⟨#[]⟩)) (ej rfl rfl) (w0 rfl) (s_assign (v := .int .i64 (code (l2.all ruB))) (ej rfl rfl) (w0 rfl) (c_done (n_then (c_seq (c_reg (s_move (v := .string (if l2.all ruB then pgT l2 else ⟨#[]⟩)) (ej rfl rfl) (w0 rfl) (s_move (v := .string (if l2.all ruB then pgT l2 else ⟨#[]⟩)) (ej rfl rfl) (w0 rfl) (s_cmpS (r := true) (ej rfl rfl) (ej rfl rfl) (cmpS_self _) (w0 rfl) ?_)))))))))))
  refine s_move (v := .bool true) (ej rfl rfl) (w0 rfl) (s_move (v := .int .i64 (code (l2.all ruB))) (ej rfl rfl) (wy rfl rfl rfl rfl) (s_move (v := .int .i64 (code (l2.all ruB))) (ej rfl rfl) (wy rfl rfl rfl rfl) (s_cmp (r := true) (ej rfl rfl) (ej rfl rfl) (cmpI_self _) (wy rfl rfl rfl rfl) (s_pick1 (v := .bool true) (ej rfl rfl) (ej rfl rfl) (w0 rfl) (s_move (v := .bool true) (ej rfl rfl) (w0 rfl) (s_call F_e17 (wy rfl rfl rfl rfl) ev_f m0 (args := #[]) rfl (l_lives _ (Tabs.ext tb (Ext.trans (Ext.trans (Ext.trans x18 x40) x41) x43))) ?_))))))
  rintro _ w46 ⟨rfl,x45⟩
  refine s_pick1 (v := .bool true) (ej rfl rfl) (ej rfl rfl) (w0 rfl) (s_assign (v := .bool true) (ej rfl rfl) (w0 rfl) (c_done (n_then (c_ret (ret1 (v := .bool true) rfl rfl rfl ?_)))))
  refine ⟨_,rfl,?_,(Ext.trans (Ext.trans (Ext.trans (Ext.trans x18 x40) x41) x43) x45)⟩
  rfl
end Go.Proofs.Zw

set_option linter.unusedVariables false
set_option linter.unusedSimpArgs false
set_option maxRecDepth 10000
namespace Go.Proofs.Zw
open Go Go.Wk Go.Proofs Go.Lib Go.ChangeShapes Go.WideShapes Go.RowKit
section
variable {H : Type} {enc : TypeId × Value → H} {w : World} {sp : Nat → Bool} {held : Bool}
theorem ce2 : Tryz.prog.cellsOf 2 = 1 := by kernel_rfl
theorem ce9 : Tryz.prog.cellsOf 9 = 1 := by kernel_rfl
theorem ce22 : Tryz.prog.cellsOf 22 = 1 := by kernel_rfl
theorem ce24 : Tryz.prog.cellsOf 24 = 2 := by kernel_rfl
theorem ce26 : Tryz.prog.cellsOf 26 = 1 := by kernel_rfl
theorem ce27 : Tryz.prog.cellsOf 27 = 1 := by kernel_rfl
theorem ce28 : Tryz.prog.cellsOf 28 = 1 := by kernel_rfl
theorem ce29 : Tryz.prog.cellsOf 29 = 1 := by kernel_rfl
theorem ce31 : Tryz.prog.cellsOf 31 = 3 := by kernel_rfl
theorem ce33 : Tryz.prog.cellsOf 33 = 4 := by kernel_rfl
theorem ce34 : Tryz.prog.cellsOf 34 = 1 := by kernel_rfl
theorem ce36 : Tryz.prog.cellsOf 36 = 6 := by kernel_rfl
theorem ce38 : Tryz.prog.cellsOf 38 = 16 := by kernel_rfl
theorem ce40 : Tryz.prog.cellsOf 40 = 1 := by kernel_rfl
theorem ce51 : Tryz.prog.cellsOf 51 = 1 := by kernel_rfl
theorem ce53 : Tryz.prog.cellsOf 53 = 3 := by kernel_rfl
theorem ce127 : Tryz.prog.cellsOf 127 = 1 := by kernel_rfl
theorem ce129 : Tryz.prog.cellsOf 129 = 5 := by kernel_rfl
theorem by33 : Tryz.prog.bytesOf 33 = 48 := by kernel_rfl
theorem by36 : Tryz.prog.bytesOf 36 = 80 := by kernel_rfl
theorem by38 : Tryz.prog.bytesOf 38 = 216 := by kernel_rfl
theorem by53 : Tryz.prog.bytesOf 53 = 64 := by kernel_rfl
theorem by129 : Tryz.prog.bytesOf 129 = 56 := by kernel_rfl
theorem len2 {l : List Value} (h : l.length = 2) : ∃ u0 u1,l = [u0,u1] := by
  match l,h with | [u0,u1],_ => exact ⟨u0,u1,rfl⟩
theorem len3 {l : List Value} (h : l.length = 3) : ∃ u0 u1 u2,l = [u0,u1,u2] := by
  match l,h with | [u0,u1,u2],_ => exact ⟨u0,u1,u2,rfl⟩
theorem len4 {l : List Value} (h : l.length = 4) : ∃ u0 u1 u2 u3,l = [u0,u1,u2,u3] := by
  match l,h with | [u0,u1,u2,u3],_ => exact ⟨u0,u1,u2,u3,rfl⟩
theorem len5 {l : List Value} (h : l.length = 5) : ∃ u0 u1 u2 u3 u4,l = [u0,u1,u2,u3,u4] := by
  match l,h with | [u0,u1,u2,u3,u4],_ => exact ⟨u0,u1,u2,u3,u4,rfl⟩
theorem len6 {l : List Value} (h : l.length = 6) : ∃ u0 u1 u2 u3 u4 u5,l = [u0,u1,u2,u3,u4,u5] := by
  match l,h with | [u0,u1,u2,u3,u4,u5],_ => exact ⟨u0,u1,u2,u3,u4,u5,rfl⟩
theorem len16 {l : List Value} (h : l.length = 16) : ∃ u0 u1 u2 u3 u4 u5 u6 u7 u8 u9 u10 u11 u12 u13 u14 u15,l = [u0,u1,u2,u3,u4,u5,u6,u7,u8,u9,u10,u11,u12,u13,u14,u15] := by
  match l,h with | [u0,u1,u2,u3,u4,u5,u6,u7,u8,u9,u10,u11,u12,u13,u14,u15],_ => exact ⟨u0,u1,u2,u3,u4,u5,u6,u7,u8,u9,u10,u11,u12,u13,u14,u15,rfl⟩
theorem xs2 {α : Type} {l : List α} (h : l.length = 2) : ∃ u0 u1,l = [u0,u1] := by
  match l,h with | [u0,u1],_ => exact ⟨u0,u1,rfl⟩
theorem xs3 {α : Type} {l : List α} (h : l.length = 3) : ∃ u0 u1 u2,l = [u0,u1,u2] := by
  match l,h with | [u0,u1,u2],_ => exact ⟨u0,u1,u2,rfl⟩
theorem xs5 {α : Type} {l : List α} (h : l.length = 5) : ∃ u0 u1 u2 u3 u4,l = [u0,u1,u2,u3,u4] := by
  match l,h with | [u0,u1,u2,u3,u4],_ => exact ⟨u0,u1,u2,u3,u4,rfl⟩
theorem small (n : Nat) : n ≤ reachBytes → n ≤ 140737488351232 := fun h => h
theorem i8_wf {n : Int} (h : (Lit.int .i8 n).wf = true) : -128 ≤ n ∧ n ≤ 127 := by
  simp only [Lit.wf,Bool.and_eq_true,decide_eq_true_eq] at h; exact h
theorem i64_wf {n : Int} (h : (Lit.int .i64 n).wf = true) : -9223372036854775808 ≤ n ∧ n ≤ 9223372036854775807 := by
  simp only [Lit.wf,Bool.and_eq_true,decide_eq_true_eq] at h; exact h
theorem weights_all {P : Program} {e : TypeId} {d : DataW H} {k : Nat} : ∀ {l : List (DataW H)},d ∈ l → k ∈ d.weights P e → k ∈ DataW.weightsAll P e l
  | [],h,_ => by simp at h
  | y :: l,h,hk => by
    rcases List.mem_cons.1 h with rfl | h
    · simp [DataW.weightsAll,hk]
    simp [DataW.weightsAll,weights_all h hk]
theorem o_slice {α : Type} (R : World → α → List Value → Prop) (zero : α) {t e : TypeId} {m bytes : Nat} (ht : Tryz.prog.underlying t = some (.slice e)) (hm : Tryz.prog.cellsOf e = m) (h0 : 0 < m) (hby : Tryz.prog.bytesOf e = bytes) {n : Nat}
    (hel : ∀ (n' : Nat),n' < n → ∀ (cs : List Value) (x : DataW H × List MemPlace),DataW.trod enc Tryz.prog w 0 sp held n' e cs = some x → (∀ k ∈ x.1.weights Tryz.prog e,k ≤ reachBytes) → ∃ y,R w y cs)
    {c : Value} {x : DataW H × List MemPlace} (h : DataW.trod enc Tryz.prog w 0 sp held n t [c] = some x) (hs : ∀ k ∈ x.1.weights Tryz.prog t,k ≤ reachBytes) :
    ∃ (l : List α) (A : Option Addr) (cap : Nat),c = .slice A l.length cap ∧ l.length ≤ cap ∧ l.length * bytes ≤ 140737488351232 ∧ Row R m w A l := by
  rcases DataW.trod_slice ht h with ⟨ec,rfl⟩ | ⟨ad,len,cap,elems,rest,n',rfl,ec,rfl,hb,hlc,hmx,hlen,hel1,hrest⟩
  · cases ec
    exact ⟨[],none,0,rfl,Nat.le_refl _,by simp,Row.nil⟩
  cases ec
  have hbytes : len * bytes ≤ 140737488351232 := by
    have h1 := hs ((elems.length + rest.length) * bytes) (by simp [DataW.weights,ht,hby])
    have h2 := small _ h1
    rw [hlen] at h2
    exact Nat.le_trans (Nat.mul_le_mul_right _ (Nat.le_add_right _ _)) h2
  have each : ∀ i,i < len → ∃ (y : α) (l : List Value),R w y l ∧ (i = 0 → ad.spot = none) ∧ ∀ (j : Nat) (u : Value),l[j]? = some u → w.cell? ⟨ad.block,ad.off + i * m + j,none⟩ = some u := by
    intro i hi
    have h1 := hel1 i hi
    rw [hm] at h1
    have hi2 : i < elems.length := by omega
    rw [List.getElem?_eq_getElem hi2] at h1
    obtain ⟨cs',hcs,htr⟩ := Option.bind_eq_some_iff.1 h1
    obtain ⟨hb',hl',hc'⟩ := World.cells?_some hcs
    obtain ⟨y,hy⟩ := hel n' (by omega) cs' _ htr (fun k hk => hs k (by
      simp only [DataW.weights,ht,List.mem_cons,List.mem_append]
      exact .inr (.inl (weights_all (List.mem_map_of_mem (List.getElem_mem hi2)) hk))))
    have hsp : (ad.add (i * m)).spot = none := by
      have := hc' 0 (by omega)
      rw [List.getElem?_eq_getElem (by omega)] at this
      rw [show (ad.add (i * m)).add 0 = ad.add (i * m) from by simp [Addr.add]] at this
      cases hq : (ad.add (i * m)).spot with
      | none => rfl
      | some q =>
        unfold World.cell? at this
        rw [hq] at this
        split at this <;> simp at this
    have had : ad.add (i * m) = ⟨ad.block,ad.off + i * m,none⟩ := by
      unfold Addr.add at hsp ⊢
      split
      · rename_i h0
        rw [if_pos h0] at hsp
        obtain ⟨b1,o1,s1⟩ := ad
        simp only at hsp
        subst hsp
        simp [h0]
      rfl
    refine ⟨y,cs',hy,?_,fun j u hu => ?_⟩
    · intro h0
      subst h0
      simpa [Addr.add] using hsp
    have hj : j < cs'.length := (List.getElem?_eq_some_iff.1 hu).1
    have := hc' j (by omega)
    rw [had,add0] at this
    rw [this]; exact hu
  have hex : ∃ f : Nat → α,∀ i,i < len → ∃ l : List Value,R w (f i) l ∧ (i = 0 → ad.spot = none) ∧ ∀ (j : Nat) (u : Value),l[j]? = some u → w.cell? ⟨ad.block,ad.off + i * m + j,none⟩ = some u := by
    refine ⟨fun i => if hi : i < len then Classical.choose (each i hi) else zero,fun i hi => ?_⟩
    simp only [dif_pos hi]
    exact Classical.choose_spec (each i hi)
  obtain ⟨f,hf⟩ := hex
  have hkl : ((List.range len).map f).length = len := by simp
  refine ⟨(List.range len).map f,some ad,cap,?_,?_,?_,?_⟩
  · rw [hkl]
  · rw [hkl]; exact hlc
  · rw [hkl]; exact hbytes
  by_cases h0 : len = 0
  · subst h0; exact .inl rfl
  obtain ⟨_,_,h2,_⟩ := hf 0 (by omega)
  have hsp := h2 rfl
  obtain ⟨b1,o1,s1⟩ := ad
  simp only at hsp
  subst hsp
  refine .inr ⟨b1,o1,rfl,fun j y hy => ?_⟩
  have hj : j < len := by
    have := (List.getElem?_eq_some_iff.1 hy).1
    rwa [hkl] at this
  obtain ⟨l,a1,_,a3⟩ := hf j hj
  have : y = f j := by simpa [hj] using hy.symm
  subst this
  exact ⟨l,a1,a3⟩
theorem o_V {n : Nat} {cs : List Value} {x : DataW H × List MemPlace} (h : DataW.trod enc Tryz.prog w 0 sp held n 31 cs = some x) (hs : ∀ k ∈ x.1.weights Tryz.prog 31,k ≤ reachBytes) : ∃ y,RV w y cs := by
  obtain ⟨xs,m,rfl,rfl,hl,hx,hf⟩ := DataW.trod_struct Tryz.underlying31 h
  obtain ⟨c0,c1,c2,rfl⟩ := len3 (hl.trans ce31)
  obtain ⟨a0,a1,a2,rfl⟩ := xs3 hx
  have f0 : DataW.trod enc Tryz.prog w 0 sp held m 29 (([c0,c1,c2].drop 0).take (Tryz.prog.cellsOf 29)) = some a0 := hf 0 _ rfl
  rw [ce29] at f0
  have f1 : DataW.trod enc Tryz.prog w 0 sp held m 2 (([c0,c1,c2].drop 1).take (Tryz.prog.cellsOf 2)) = some a1 := hf 1 _ rfl
  rw [ce2] at f1
  have f2 : DataW.trod enc Tryz.prog w 0 sp held m 9 (([c0,c1,c2].drop 2).take (Tryz.prog.cellsOf 9)) = some a2 := hf 2 _ rfl
  rw [ce9] at f2
  obtain ⟨k0,e0,r0,w0⟩ := DataW.trod_int (k := .i8) Tryz.underlying29 (show DataW.trod enc Tryz.prog w 0 sp held m 29 [c0] = some a0 from f0)
  cases e0
  subst r0
  obtain ⟨k1,e1,r1,w1⟩ := DataW.trod_int (k := .i64) Tryz.underlying2 (show DataW.trod enc Tryz.prog w 0 sp held m 2 [c1] = some a1 from f1)
  cases e1
  subst r1
  obtain ⟨s2,e2,r2,w2⟩ := DataW.trod_string Tryz.underlying9 (show DataW.trod enc Tryz.prog w 0 sp held m 9 [c2] = some a2 from f2)
  cases e2
  subst r2
  have z2 : s2.size ≤ 140737488351232 := hs s2.data.toList.length (by simp [DataW.weights,Tryz.underlying31,DataW.weightsEach])
  exact ⟨⟨k0,k1,s2⟩,rfl,⟨i8_wf w0,i64_wf w1,z2⟩⟩
theorem o_T {n : Nat} {cs : List Value} {x : DataW H × List MemPlace} (h : DataW.trod enc Tryz.prog w 0 sp held n 33 cs = some x) (hs : ∀ k ∈ x.1.weights Tryz.prog 33,k ≤ reachBytes) : ∃ y,RT w y cs := by
  obtain ⟨xs,m,rfl,rfl,hl,hx,hf⟩ := DataW.trod_struct Tryz.underlying33 h
  obtain ⟨c0,c1,c2,c3,rfl⟩ := len4 (hl.trans ce33)
  obtain ⟨a0,a1,rfl⟩ := xs2 hx
  have f0 : DataW.trod enc Tryz.prog w 0 sp held m 9 (([c0,c1,c2,c3].drop 0).take (Tryz.prog.cellsOf 9)) = some a0 := hf 0 _ rfl
  rw [ce9] at f0
  have f1 : DataW.trod enc Tryz.prog w 0 sp held m 31 (([c0,c1,c2,c3].drop 1).take (Tryz.prog.cellsOf 31)) = some a1 := hf 1 _ rfl
  rw [ce31] at f1
  obtain ⟨s0,e0,r0,w0⟩ := DataW.trod_string Tryz.underlying9 (show DataW.trod enc Tryz.prog w 0 sp held m 9 [c0] = some a0 from f0)
  cases e0
  subst r0
  have z0 : s0.size ≤ 140737488351232 := hs s0.data.toList.length (by simp [DataW.weights,Tryz.underlying33,DataW.weightsEach])
  obtain ⟨v1,ev1,hw1⟩ := o_V (show DataW.trod enc Tryz.prog w 0 sp held m 31 [c1,c2,c3] = some a1 from f1) (fun k hk => hs k (by simp [DataW.weights,Tryz.underlying33,DataW.weightsEach,hk]))
  simp only [List.cons.injEq,and_true] at ev1
  obtain ⟨rfl,rfl,rfl⟩ := ev1
  exact ⟨⟨s0,v1⟩,rfl,⟨z0,hw1⟩⟩
theorem o_E : ∀ (n : Nat) (cs : List Value) (x : DataW H × List MemPlace),DataW.trod enc Tryz.prog w 0 sp held n 36 cs = some x → (∀ k ∈ x.1.weights Tryz.prog 36,k ≤ reachBytes) → ∃ y,RE w y cs := by
  intro n
  induction n using Nat.strongRecOn with
  | _ n ih =>
    intro cs x h hs
    obtain ⟨xs,m,rfl,rfl,hl,hx,hf⟩ := DataW.trod_struct Tryz.underlying36 h
    obtain ⟨c0,c1,c2,c3,c4,c5,rfl⟩ := len6 (hl.trans ce36)
    obtain ⟨a0,a1,a2,rfl⟩ := xs3 hx
    have f0 : DataW.trod enc Tryz.prog w 0 sp held m 28 (([c0,c1,c2,c3,c4,c5].drop 0).take (Tryz.prog.cellsOf 28)) = some a0 := hf 0 _ rfl
    rw [ce28] at f0
    have f1 : DataW.trod enc Tryz.prog w 0 sp held m 33 (([c0,c1,c2,c3,c4,c5].drop 1).take (Tryz.prog.cellsOf 33)) = some a1 := hf 1 _ rfl
    rw [ce33] at f1
    have f2 : DataW.trod enc Tryz.prog w 0 sp held m 34 (([c0,c1,c2,c3,c4,c5].drop 5).take (Tryz.prog.cellsOf 34)) = some a2 := hf 2 _ rfl
    rw [ce34] at f2
    obtain ⟨k0,e0,r0,w0⟩ := DataW.trod_int (k := .i8) Tryz.underlying28 (show DataW.trod enc Tryz.prog w 0 sp held m 28 [c0] = some a0 from f0)
    cases e0
    subst r0
    obtain ⟨v1,ev1,hw1⟩ := o_T (show DataW.trod enc Tryz.prog w 0 sp held m 33 [c1,c2,c3,c4] = some a1 from f1) (fun k hk => hs k (by simp [DataW.weights,Tryz.underlying36,DataW.weightsEach,hk]))
    simp only [List.cons.injEq,and_true] at ev1
    obtain ⟨rfl,rfl,rfl,rfl⟩ := ev1
    obtain ⟨l2,A2,d2,el2,hl2,hc2,hr2⟩ := o_slice RE Ex.none Tryz.underlying34 ce36 (by decide) by36 (fun n' hn cs x h hs => ih n' (by omega) cs x h hs) (show DataW.trod enc Tryz.prog w 0 sp held m 34 [c5] = some a2 from f2) (fun k hk => hs k (by simp [DataW.weights,Tryz.underlying36,DataW.weightsEach,hk]))
    cases el2
    exact ⟨.mk k0 v1 l2,RE.mk_ (x := .mk k0 v1 l2) (A := A2) (c := d2) ⟨i8_wf w0,hw1,hl2,hc2⟩ hr2⟩
theorem o_A {n : Nat} {cs : List Value} {x : DataW H × List MemPlace} (h : DataW.trod enc Tryz.prog w 0 sp held n 24 cs = some x) (hs : ∀ k ∈ x.1.weights Tryz.prog 24,k ≤ reachBytes) : ∃ y,RA w y cs := by
  obtain ⟨xs,m,rfl,rfl,hl,hx,hf⟩ := DataW.trod_struct Tryz.underlying24 h
  obtain ⟨c0,c1,rfl⟩ := len2 (hl.trans ce24)
  obtain ⟨a0,a1,rfl⟩ := xs2 hx
  have f0 : DataW.trod enc Tryz.prog w 0 sp held m 9 (([c0,c1].drop 0).take (Tryz.prog.cellsOf 9)) = some a0 := hf 0 _ rfl
  rw [ce9] at f0
  have f1 : DataW.trod enc Tryz.prog w 0 sp held m 22 (([c0,c1].drop 1).take (Tryz.prog.cellsOf 22)) = some a1 := hf 1 _ rfl
  rw [ce22] at f1
  obtain ⟨s0,e0,r0,w0⟩ := DataW.trod_string Tryz.underlying9 (show DataW.trod enc Tryz.prog w 0 sp held m 9 [c0] = some a0 from f0)
  cases e0
  subst r0
  have z0 : s0.size ≤ 140737488351232 := hs s0.data.toList.length (by simp [DataW.weights,Tryz.underlying24,DataW.weightsEach])
  obtain ⟨l1,A1,d1,el1,hl1,hc1,hr1⟩ := o_slice RT Tm.none Tryz.underlying22 ce33 (by decide) by33 (fun n' hn cs x h hs => o_T h hs) (show DataW.trod enc Tryz.prog w 0 sp held m 22 [c1] = some a1 from f1) (fun k hk => hs k (by simp [DataW.weights,Tryz.underlying24,DataW.weightsEach,hk]))
  cases el1
  exact ⟨⟨s0,l1⟩,A1,d1,rfl,⟨z0,hl1,hc1⟩,hr1⟩
theorem o_L {n : Nat} {cs : List Value} {x : DataW H × List MemPlace} (h : DataW.trod enc Tryz.prog w 0 sp held n 38 cs = some x) (hs : ∀ k ∈ x.1.weights Tryz.prog 38,k ≤ reachBytes) : ∃ y,RL w y cs := by
  obtain ⟨xs,m,rfl,rfl,hl,hx,hf⟩ := DataW.trod_struct Tryz.underlying38 h
  obtain ⟨c0,c1,c2,c3,c4,c5,c6,c7,c8,c9,c10,c11,c12,c13,c14,c15,rfl⟩ := len16 (hl.trans ce38)
  obtain ⟨a0,a1,a2,a3,a4,rfl⟩ := xs5 hx
  have f0 : DataW.trod enc Tryz.prog w 0 sp held m 26 (([c0,c1,c2,c3,c4,c5,c6,c7,c8,c9,c10,c11,c12,c13,c14,c15].drop 0).take (Tryz.prog.cellsOf 26)) = some a0 := hf 0 _ rfl
  rw [ce26] at f0
  have f1 : DataW.trod enc Tryz.prog w 0 sp held m 24 (([c0,c1,c2,c3,c4,c5,c6,c7,c8,c9,c10,c11,c12,c13,c14,c15].drop 1).take (Tryz.prog.cellsOf 24)) = some a1 := hf 1 _ rfl
  rw [ce24] at f1
  have f2 : DataW.trod enc Tryz.prog w 0 sp held m 27 (([c0,c1,c2,c3,c4,c5,c6,c7,c8,c9,c10,c11,c12,c13,c14,c15].drop 3).take (Tryz.prog.cellsOf 27)) = some a2 := hf 2 _ rfl
  rw [ce27] at f2
  have f3 : DataW.trod enc Tryz.prog w 0 sp held m 36 (([c0,c1,c2,c3,c4,c5,c6,c7,c8,c9,c10,c11,c12,c13,c14,c15].drop 4).take (Tryz.prog.cellsOf 36)) = some a3 := hf 3 _ rfl
  rw [ce36] at f3
  have f4 : DataW.trod enc Tryz.prog w 0 sp held m 36 (([c0,c1,c2,c3,c4,c5,c6,c7,c8,c9,c10,c11,c12,c13,c14,c15].drop 10).take (Tryz.prog.cellsOf 36)) = some a4 := hf 4 _ rfl
  rw [ce36] at f4
  obtain ⟨k0,e0,r0,w0⟩ := DataW.trod_int (k := .i8) Tryz.underlying26 (show DataW.trod enc Tryz.prog w 0 sp held m 26 [c0] = some a0 from f0)
  cases e0
  subst r0
  obtain ⟨v1,A1,d1,ev1,ho1,hr1⟩ := o_A (show DataW.trod enc Tryz.prog w 0 sp held m 24 [c1,c2] = some a1 from f1) (fun k hk => hs k (by simp [DataW.weights,Tryz.underlying38,DataW.weightsEach,hk]))
  simp only [List.cons.injEq,and_true] at ev1
  obtain ⟨rfl,rfl⟩ := ev1
  obtain ⟨k2,e2,r2,w2⟩ := DataW.trod_int (k := .i8) Tryz.underlying27 (show DataW.trod enc Tryz.prog w 0 sp held m 27 [c3] = some a2 from f2)
  cases e2
  subst r2
  obtain ⟨v3,hv3⟩ := o_E m _ _ (show DataW.trod enc Tryz.prog w 0 sp held m 36 [c4,c5,c6,c7,c8,c9] = some a3 from f3) (fun k hk => hs k (by simp [DataW.weights,Tryz.underlying38,DataW.weightsEach,hk]))
  obtain ⟨A3,d3,ev3,ho3,hr3⟩ := RE.open_ hv3
  simp only [List.cons.injEq,and_true] at ev3
  obtain ⟨rfl,rfl,rfl,rfl,rfl,rfl⟩ := ev3
  obtain ⟨v4,hv4⟩ := o_E m _ _ (show DataW.trod enc Tryz.prog w 0 sp held m 36 [c10,c11,c12,c13,c14,c15] = some a4 from f4) (fun k hk => hs k (by simp [DataW.weights,Tryz.underlying38,DataW.weightsEach,hk]))
  obtain ⟨A4,d4,ev4,ho4,hr4⟩ := RE.open_ hv4
  simp only [List.cons.injEq,and_true] at ev4
  obtain ⟨rfl,rfl,rfl,rfl,rfl,rfl⟩ := ev4
  exact ⟨⟨k0,v1,k2,v3,v4⟩,A1,A3,A4,d1,d3,d4,rfl,⟨i8_wf w0,i8_wf w2,ho1,ho3,ho4⟩,hr1,hr3,hr4⟩
theorem o_G {n : Nat} {cs : List Value} {x : DataW H × List MemPlace} (h : DataW.trod enc Tryz.prog w 0 sp held n 129 cs = some x) (hs : ∀ k ∈ x.1.weights Tryz.prog 129,k ≤ reachBytes) : ∃ y,RG w y cs := by
  obtain ⟨xs,m,rfl,rfl,hl,hx,hf⟩ := DataW.trod_struct Tryz.underlying129 h
  obtain ⟨c0,c1,c2,c3,c4,rfl⟩ := len5 (hl.trans ce129)
  obtain ⟨a0,a1,rfl⟩ := xs2 hx
  have f0 : DataW.trod enc Tryz.prog w 0 sp held m 127 (([c0,c1,c2,c3,c4].drop 0).take (Tryz.prog.cellsOf 127)) = some a0 := hf 0 _ rfl
  rw [ce127] at f0
  have f1 : DataW.trod enc Tryz.prog w 0 sp held m 33 (([c0,c1,c2,c3,c4].drop 1).take (Tryz.prog.cellsOf 33)) = some a1 := hf 1 _ rfl
  rw [ce33] at f1
  obtain ⟨k0,e0,r0,w0⟩ := DataW.trod_int (k := .i8) Tryz.underlying127 (show DataW.trod enc Tryz.prog w 0 sp held m 127 [c0] = some a0 from f0)
  cases e0
  subst r0
  obtain ⟨v1,ev1,hw1⟩ := o_T (show DataW.trod enc Tryz.prog w 0 sp held m 33 [c1,c2,c3,c4] = some a1 from f1) (fun k hk => hs k (by simp [DataW.weights,Tryz.underlying129,DataW.weightsEach,hk]))
  simp only [List.cons.injEq,and_true] at ev1
  obtain ⟨rfl,rfl,rfl,rfl⟩ := ev1
  exact ⟨⟨k0,v1⟩,rfl,⟨i8_wf w0,hw1⟩⟩
theorem o_U {n : Nat} {cs : List Value} {x : DataW H × List MemPlace} (h : DataW.trod enc Tryz.prog w 0 sp held n 53 cs = some x) (hs : ∀ k ∈ x.1.weights Tryz.prog 53,k ≤ reachBytes) : ∃ y,RU w y cs := by
  obtain ⟨xs,m,rfl,rfl,hl,hx,hf⟩ := DataW.trod_struct Tryz.underlying53 h
  obtain ⟨c0,c1,c2,rfl⟩ := len3 (hl.trans ce53)
  obtain ⟨a0,a1,a2,rfl⟩ := xs3 hx
  have f0 : DataW.trod enc Tryz.prog w 0 sp held m 9 (([c0,c1,c2].drop 0).take (Tryz.prog.cellsOf 9)) = some a0 := hf 0 _ rfl
  rw [ce9] at f0
  have f1 : DataW.trod enc Tryz.prog w 0 sp held m 51 (([c0,c1,c2].drop 1).take (Tryz.prog.cellsOf 51)) = some a1 := hf 1 _ rfl
  rw [ce51] at f1
  have f2 : DataW.trod enc Tryz.prog w 0 sp held m 40 (([c0,c1,c2].drop 2).take (Tryz.prog.cellsOf 40)) = some a2 := hf 2 _ rfl
  rw [ce40] at f2
  obtain ⟨s0,e0,r0,w0⟩ := DataW.trod_string Tryz.underlying9 (show DataW.trod enc Tryz.prog w 0 sp held m 9 [c0] = some a0 from f0)
  cases e0
  subst r0
  have z0 : s0.size ≤ 140737488351232 := hs s0.data.toList.length (by simp [DataW.weights,Tryz.underlying53,DataW.weightsEach])
  obtain ⟨l1,A1,d1,el1,hl1,hc1,hr1⟩ := o_slice RG Ag.none Tryz.underlying51 ce129 (by decide) by129 (fun n' hn cs x h hs => o_G h hs) (show DataW.trod enc Tryz.prog w 0 sp held m 51 [c1] = some a1 from f1) (fun k hk => hs k (by simp [DataW.weights,Tryz.underlying53,DataW.weightsEach,hk]))
  cases el1
  obtain ⟨l2,A2,d2,el2,hl2,hc2,hr2⟩ := o_slice RL Lt.zero Tryz.underlying40 ce38 (by decide) by38 (fun n' hn cs x h hs => o_L h hs) (show DataW.trod enc Tryz.prog w 0 sp held m 40 [c2] = some a2 from f2) (fun k hk => hs k (by simp [DataW.weights,Tryz.underlying53,DataW.weightsEach,hk]))
  cases el2
  exact ⟨⟨s0,l1,l2⟩,A1,A2,d1,d2,rfl,⟨z0,hl1,hc1,hl2,hc2⟩,hr1,hr2⟩
theorem o_lU {n : Nat} {c : Value} {x : DataW H × List MemPlace} (h : DataW.trod enc Tryz.prog w 0 sp held n 58 [c] = some x) (hs : ∀ k ∈ x.1.weights Tryz.prog 58,k ≤ reachBytes) : ∃ l A cap,c = .slice A l.length cap ∧ l.length ≤ cap ∧ l.length * 64 ≤ 140737488351232 ∧ Row RU 3 w A l :=
  o_slice RU ⟨⟨#[]⟩,[],[]⟩ Tryz.underlying58 ce53 (by decide) by53 (fun n' hn cs x h hs => o_U h hs) h hs
end
end Go.Proofs.Zw

set_option linter.unusedVariables false
set_option maxRecDepth 100000
namespace Go.Proofs.YtjjkfbjidpolmaaGreatDoor
open Go Go.Proofs Go.ChangeShapes Go.WideShapes Go.RowKit Go.Wk Go.Deep
theorem own_ : ownKnob Tryz.prog.godebug = none := by kernel_rfl
theorem kids_ : Kids Tryz.prog (· < Tryz.prog.types.size) := kids_rows (by kernel_rfl) (by kernel_rfl)
theorem full_ : ∀ t e,t < Tryz.prog.types.size → Tryz.prog.underlying t = some (.slice e) → 0 < Tryz.prog.cellsOf e := slices_full_of Tryz.prog (by kernel_rfl)
def litV : DataW Unit → Option Value
  | .lit (.int k n) => some (.int k n)
  | .lit (.string l) => some (.string ⟨l.toArray⟩)
  | _ => none
theorem litV_of {P : Program} {W : World} {sp : Nat → Bool} {held : Bool} {enc : TypeId × Value → Unit} {m : Nat} {e : TypeId} {c : Value} {x : DataW Unit × List MemPlace} (he : (∃ k,P.underlying e = some (.int k)) ∨ P.underlying e = some .string) (h : DataW.trod enc P W 0 sp held m e [c] = some x) : litV x.1 = some c := by
  rcases he with ⟨k,he⟩ | he
  · obtain ⟨n,h1,h2,_⟩ := DataW.trod_int he h
    cases h1; subst h2; rfl
  obtain ⟨s,h1,h2,_⟩ := DataW.trod_string he h
  cases h1; subst h2
  simp [litV]
theorem var_of {P : Program} {W : World} {nm : String} {d : DataW Unit} {ds : List (DataW Unit)} {g t e n : Nat} {cs : List Value} {l : List (String × DataW Unit)} (h : laidMet P l W) (keep : String × DataW Unit → Bool) (hk : l.filter keep = [(nm,d)]) (hg : P.globalNamed nm = some g) (hty : (P.globals[g]?).map (·.type) = some t) (ht : P.underlying t = some (.array n e))
    (he : (∃ k,P.underlying e = some (.int k)) ∨ P.underlying e = some .string) (hce : P.cellsOf e = 1) (hct : P.cellsOf t = n) (hd : d = .agg ds) (hc : ds.map litV = cs.map some) : W.var? P nm = some cs.toArray := by
  have h1 := h.filter keep
  rw [hk] at h1
  obtain ⟨ps,⟨g',t',cs',fuel,p,q,hg',ht',hv,hd',_,_⟩,_⟩ := h1
  obtain rfl := Option.some.inj (hg.symm.trans hg')
  obtain rfl := Option.some.inj (hty.symm.trans ht')
  obtain ⟨xs,m,_,ex,hl0,hl,hel⟩ := DataW.trod_array ht hd'
  rw [hd] at ex
  have e3 : ds = xs.map (·.1) := DataW.agg.inj (Prod.mk.inj ex).1
  rw [hv]
  congr 1
  apply Array.ext'
  rw [List.toList_toArray]
  have hlen : cs'.toList.length = n := by rw [← hct]; exact hl0
  have key : cs'.toList.map some = cs.map some := by
    rw [← hc,e3,List.map_map]
    apply List.ext_getElem
    · simp [hlen,hl]
    intro i h2 h3
    have hi : i < n := by simpa [hlen] using h2
    have hE := hel i hi
    rw [hce,Nat.mul_one,List.getElem?_eq_getElem (by omega)] at hE
    have hx : (cs'.toList.drop i).take 1 = [cs'.toList[i]'(by omega)] := by
      rw [List.drop_eq_getElem_cons (by omega),List.take_succ_cons,List.take_zero]
    rw [hx] at hE
    have := litV_of he hE
    simp only [List.getElem_map,Function.comp]
    rw [this]
  have h7 := congrArg (List.filterMap id) key
  simpa [List.filterMap_map] using h7
theorem tabs_of {W : World} (h : laidMetH Tryz.prog Rows.printProgramsRow.laid W) : Tabs Tryz.prog W := by
  rw [MakeChecks.laidMetH_plain _ _ _ (by kernel_rfl)] at h
  refine ⟨?_,?_,?_,?_⟩
  · exact var_of h (fun x => x.1 == "pedigree/print.hold") (d := Rows.laid_pedigree_print_hold) (by kernel_rfl) (g := 1) (t := 156) (by kernel_rfl) (by kernel_rfl) Tryz.underlying156 (.inl ⟨_, Tryz.underlying3⟩) (by kernel_rfl) (by kernel_rfl) rfl (cs := [.int .i64 4, .int .i64 3, .int .i64 1, .int .i64 1, .int .i64 2, .int .i64 2, .int .i64 2, .int .i64 1, .int .i64 4, .int .i64 4, .int .i64 4]) rfl
  · exact var_of h (fun x => x.1 == "pedigree/print.words") (d := Rows.laid_pedigree_print_words) (by kernel_rfl) (g := 2) (t := 157) (by kernel_rfl) (by kernel_rfl) Tryz.underlying157 (.inr Tryz.underlying9) (by kernel_rfl) (by kernel_rfl) rfl (cs := [.string ⟨#[]⟩, .string ⟨#[]⟩, .string ⟨#[]⟩, .string ⟨#[]⟩, .string ⟨#[]⟩, .string ⟨#[]⟩, .string ⟨#[]⟩, .string ⟨#[]⟩, .string ⟨#[108, 101, 110]⟩, .string ⟨#[99, 104, 97, 114, 115]⟩, .string ⟨#[98, 97, 99, 107]⟩]) rfl
  · exact var_of h (fun x => x.1 == "pedigree/print.signs") (d := Rows.laid_pedigree_print_signs) (by kernel_rfl) (g := 3) (t := 158) (by kernel_rfl) (by kernel_rfl) Tryz.underlying158 (.inr Tryz.underlying9) (by kernel_rfl) (by kernel_rfl) rfl (cs := [.string ⟨#[]⟩, .string ⟨#[]⟩, .string ⟨#[43]⟩, .string ⟨#[45]⟩, .string ⟨#[42]⟩, .string ⟨#[47]⟩, .string ⟨#[37]⟩, .string ⟨#[38]⟩]) rfl
  exact var_of h (fun x => x.1 == "internal/strconv.uint64pow10") (d := Rows.laid_internal_strconv_uint64pow10) (by kernel_rfl) (g := 5) (t := 194) (by kernel_rfl) (by kernel_rfl) Tryz.underlying194 (.inl ⟨_, Tryz.underlying177⟩) (by kernel_rfl) (by kernel_rfl) rfl (cs := Go.Lib.pow10Tab.map fun z => .int .u64 z) rfl
theorem rels_of {W : World} (h : laidMetH Tryz.prog Rows.printProgramsRow.laid W) : RelT Tryz.prog W := by
  rw [MakeChecks.laidMetH_plain _ _ _ (by kernel_rfl)] at h
  exact var_of h (fun x => x.1 == "pedigree/print.rels") (d := Rows.laid_pedigree_print_rels) (by kernel_rfl) (g := 0) (t := 154) (by kernel_rfl) (by kernel_rfl) Tryz.underlying154 (.inr Tryz.underlying9) (by kernel_rfl) (by kernel_rfl) rfl (cs := [.string ⟨#[]⟩, .string ⟨#[61]⟩, .string ⟨#[33, 61]⟩, .string ⟨#[60]⟩, .string ⟨#[60, 61]⟩, .string ⟨#[62]⟩, .string ⟨#[62, 61]⟩]) rfl
theorem folds_of {W : World} (h : laidMetH Tryz.prog Rows.printProgramsRow.laid W) : FoldT Tryz.prog W := by
  rw [MakeChecks.laidMetH_plain _ _ _ (by kernel_rfl)] at h
  exact var_of h (fun x => x.1 == "pedigree/print.folds") (d := Rows.laid_pedigree_print_folds) (by kernel_rfl) (g := 4) (t := 161) (by kernel_rfl) (by kernel_rfl) Tryz.underlying161 (.inr Tryz.underlying9) (by kernel_rfl) (by kernel_rfl) rfl (cs := [.string ⟨#[]⟩, .string ⟨#[]⟩, .string ⟨#[115, 117, 109]⟩, .string ⟨#[109, 105, 110]⟩, .string ⟨#[109, 97, 120]⟩]) rfl
theorem lifted (os : Os) (started : os.Started) (H : Type) (enc : TypeId × Value → H) :
    ReturnsInHanded {} Tryz.checked os 5 .any (fun w args => (Rows.printProgramsSpec.pre enc Tryz.prog Tryz.f5 [] false w args ∧ laidMetH Tryz.prog Rows.printProgramsRow.laid w) ∧ sizedMet enc Tryz.prog Tryz.f5 (OpenSpec.ofChange Rows.printProgramsSpec) false w args)
      (Rows.printProgramsSpec.post enc Tryz.prog Tryz.f5 false true false false) := by
  refine returnsInHanded_of_change_and (C := Tryz.checked) (X := fun w _ => laidMetH Tryz.prog Rows.printProgramsRow.laid w) (fun _ _ _ hh h => h.of_heap hh) own_ started (by kernel_rfl) Tryz.func5
    (ChangeSpec.witness_shaped (enc := enc) (C := Tryz.checked) (os := os) (X := fun w _ => laidMetH Tryz.prog Rows.printProgramsRow.laid w) false (World.laidAll Tryz.prog os Rows.printProgramsRow.laid) #[.slice none 0 0] 8 (World.laidAll_os _ _ _)
      (World.shaped_of_ZipB (by kernel_rfl) (by kernel_rfl)) (by kernel_rfl) (by kernel_rfl) (by kernel_rfl)
      (by rw [MakeChecks.laidMetH_plain _ _ _ (by kernel_rfl)]; exact laidMet_laidAll _ (by kernel_rfl) (by kernel_rfl))) ?_
  intro W base args ds gs before hval0 hW hc hS hL _
  have hval : ∀ (j : Nat) t v,Tryz.f5.params[j]? = some t → args[j]? = some v → Value.okWide Tryz.prog W .any base t v := hval0
  have hW' := hW
  have hlt := DataW.Whole.lt hW
  obtain ⟨p,q,hA0,hV,rfl,_,_⟩ := hW
  have hA : DataW.TrodAll enc Tryz.prog W 0 (fun _ => true) true Tryz.f5.params.toList args.toList ds p := hA0
  have hAk := hA
  rw [Tryz.params5] at hA hval
  obtain ⟨v0,d0,rfl,rfl,h0⟩ := trodAll_one hA
  obtain ⟨rfl,rfl⟩ := trodVars_none hV
  have hS' : ((DataW.weightsEach Tryz.prog (Tryz.f5.params.toList ++ DataSpec.varTypes Tryz.prog Rows.printProgramsSpec.plain) ([d0] ++ [])).all fun x => decide (x ≤ reachBytes)) = true := hS
  rw [Tryz.params5] at hS'
  obtain ⟨a0,n0,c0,rfl⟩ := okWide_slice Tryz.underlying58 (hval 0 58 v0 rfl rfl)
  obtain ⟨fuel0,hf0⟩ := h0
  replace hf0 : DataW.trod enc Tryz.prog W 0 (fun _ => true) true fuel0 58 [.slice a0 n0 c0] = some (d0,p) := hf0
  obtain ⟨e0,e0A,e0c,hc0,e0l,e0b,e0r⟩ := Go.Proofs.Zw.o_lU hf0 (fun k hk => by
    have := List.all_eq_true.1 hS' k (DataW.weights_mem_each (j := 0) (t := 58) (d := d0) rfl rfl k hk)
    simpa using this)
  cases hc0
  have h2 := DataW.TrodAll.respare (spare' := fun b => decide (b < W.heap.size)) kids_ full_ (by rw [Tryz.params5]; decide) hAk (fun x hx => by simpa using hlt x (by simpa using hx))
  refine Calls.mono (Go.Proofs.Zw.l_PrintPrograms e0 a0 c0 W e0b e0r (tabs_of hL) (rels_of hL) (folds_of hL)) ?_
  rintro en W' ⟨v,rfl,rfl,x⟩
  have hbl := Ext.below x
  refine ⟨_,rfl,_,_,_,[],p,[],hW',?_,?_,rfl,hbl.frame _,fun h => by cases h⟩
  · exact trodAll_mk1 (shut_bool Tryz.underlying4 true)
  rw [Tryz.params5] at h2 ⊢
  obtain ⟨v1,d1,hv1,hd1,fuel2,hf2⟩ := trodAll_one h2
  simp only [List.cons.injEq,and_true] at hd1
  subst hd1
  refine trodAll_mk1 ⟨fuel2,?_⟩
  have hv2 : v1 = .slice a0 e0.length c0 := by simpa using hv1.symm
  subst hv2
  exact DataW.trod_carry fuel2 _ _ _ hf2 (fun q hq => hbl.same (hlt q (by simpa using hq)))
theorem f_holds : Rows.PrintProgramsSaid :=
  OpenClaim.holds_of_wide 5 Tryz.f5 rfl rfl rfl rfl rfl rfl rfl ⟨rfl,rfl,rfl,rfl,rfl⟩ rfl rfl rfl rfl rfl (by kernel_rfl) Tryz.func5 (by kernel_rfl)
    (of_decide_eq_true (by kernel_rfl)) (by unfold Func.isWrapper; rw [if_neg (of_decide_eq_false (by kernel_rfl))]; exact ⟨rfl,rfl⟩)
    (fun os started H enc _ => lifted os started H enc)
end Go.Proofs.YtjjkfbjidpolmaaGreatDoor

set_option maxRecDepth 100000
namespace Go.Proofs.YtjjkfbjidpolmaaGreatDoor
open Go Go.Proofs
theorem printPrograms_card : Rows.PrintProgramsCardSaid :=
  Claim7.holds_tied_plain_at .later [] [.data, .data, .data, .data, .data, .data, .data, .data] true (true, "8e5f5d00bd941419de4c50e2d145212bff63ccbd433706fb4c3c79556eb9ed38") true
    f_holds (fun _ h => by cases h) (by kernel_rfl) (fun _ h => by cases h) printPrograms_row_tie rfl ⟨rfl,rfl⟩ (by kernel_rfl) rfl
    (fun f fn hf hfn => by
      obtain rfl : f = 5 := Option.some.inj ((show Tryz.prog.funcNamed "pedigree/pedigreelaw06.PrintPrograms" = some 5 by kernel_rfl).symm.trans hf) |>.symm
      obtain rfl : fn = Tryz.f5 := (Option.some.inj (Tryz.func5.symm.trans hfn)).symm
      exact ⟨by kernel_rfl,fun j t ht => by
        rw [Tryz.params5] at ht
        have hm : t ∈ [58] := by simpa using Array.mem_of_getElem? ht
        have hall : ([58].all fun u => !Tryz.prog.wantsStandIn u) = true := by kernel_rfl
        exact (show Tryz.prog.wantsStandIn t = false by simpa using List.all_eq_true.1 hall t hm)⟩)
    (by kernel_rfl)
end Go.Proofs.YtjjkfbjidpolmaaGreatDoor
