/- YtjjkfbjidpolmaaGreatDoorRF: part of the proof of this seat, by an AI agent: the arguments are opened; the row; the tied card: the law returns true for every input that the row lets in, its arguments read behind the call as before. No condition of its own but those that its theorems state. -/
import Derived.Test.YtjjkfbjidpolmaaGreatDoorRE
import Derived.Test.YtjjkfbjidpolmaaGreatDoorRows
import Derived.ChangeArms
import Derived.DataReads
import Derived.SizedLaws
import Derived.Deep.Slices
import Derived.ChangeSame
import Derived.ChangeVars
import Derived.JoinedOf
import Derived.RowKit
import Derived.RowKit2
import Derived.RowKitTokens
import Derived.LaidLaws
import Derived.LaidHandle
import Derived.Stop.Joined
import Derived.ReadAgain
import Derived.ChangeAlike
import Derived.JoinedAt
import Derived.ProofKit
import Derived.OpenShut
import Derived.LaidMore
import Derived.Lay
import Derived.LaidSub
import Derived.Test.YtjjkfbjidpolmaaGreatDoorCards
import Derived.Test.YtjjkfbjidpolmaaGreatDoorTie
import Derived.SevenTiedAt
set_option maxHeartbeats 4000000
set_option linter.unusedVariables false
set_option linter.unusedSimpArgs false
set_option maxRecDepth 10000
namespace Go.Proofs.Zw
open Go Go.Wk Go.Proofs Go.Lib
attribute [local irreducible] Go.wpList Go.wpStill Go.wpQuiet Go.Code.wp Go.Calls
theorem F_e46 : enterable Tryz.prog 46 = true := by kernel_rfl
theorem F_e47 : enterable Tryz.prog 47 = true := by kernel_rfl
theorem F_e88 : enterable Tryz.prog 88 = true := by kernel_rfl
theorem r6_arg (x : Ag) (w : World) (hx : x.wf) (hag : argB x = true) :
    Rt Tryz.prog 88 #[.agg #[.int .i8 x.k,.string x.t.v,.int .i8 x.t.l.k,.int .i64 x.t.l.n,.string x.t.l.s]] w fun v w' => v = .string (argW x) ∧ Ext w w' := by
  refine enter Tryz.func88 rfl (l := [.agg #[.int .i8 x.k,.string x.t.v,.int .i8 x.t.l.k,.int .i64 x.t.l.n,.string x.t.l.s]]) rfl Tryz.ntmps88 (Nat.le_of_ble_eq_true rfl) ?_
  have hv_ := Tm.wf.v (Ag.wf.t hx)
  have hvs_ : x.k = 2 ∨ x.k = 3 ∨ x.k = 4 → x.t.v.size ≤ 802 := arg_vsize hag hx
  refine c_seq (c_reg (s_box (v := .agg #[.int .i8 x.k,.string x.t.v,.int .i8 x.t.l.k,.int .i64 x.t.l.n,.string x.t.l.s]) (cs := #[.int .i8 x.k,.string x.t.v,.int .i8 x.t.l.k,.int .i64 x.t.l.n,.string x.t.l.s]) (w0 rfl) (ej rfl rfl) rfl ?_))
  intro w2 g1 n3
  refine s_assign (v := .string (⟨#[]⟩ : ByteArray)) ev_c (w0 rfl) (c_done (n_then (c_seq (c_seq (c_reg (s_field (off := 0) (o' := 0) F_f129_0 (ej rfl rfl) rfl (w0 rfl) (s_load (v := .int .i8 x.k) F_o127 (ej rfl rfl) (cell_of_blk (i := 0) (NewB.blk n3) rfl) (w0 rfl) (c_done (n_then (c_block (c_seq ?_)))))))))))
  refine c_reg (s_cmp (r := decide (x.k = 1)) (ej rfl rfl) ev_c rfl (w0 rfl) (s_assign (v := .bool (decide (x.k = 1))) (ej rfl rfl) (w0 rfl) (c_done (n_then ?_))))
  by_cases h4 : x.k = 1
  · refine c_cond1 (vb (ej rfl rfl) (decide_eq_true h4)) (c_seq (c_reg (s_assign (v := .string (⟨#[99,111,117,110,116,40,41]⟩ : ByteArray)) ev_c (w0 rfl) (c_done (n_then (c_ret (r_block (r_then (ret1 (v := .string (⟨#[99,111,117,110,116,40,41]⟩ : ByteArray)) rfl rfl rfl ?_)))))))))
    refine ⟨_,rfl,?_,(NewB.ext n3)⟩
    (refine congrArg Value.string ?_; unfold argW; first | (rw [if_pos (by omega)]; done) | (rw [if_neg (by omega),if_pos (by omega),show foldB x.k ++ (⟨#[40]⟩ : ByteArray) = ⟨#[115,117,109,40]⟩ from by rw [show x.k = 2 by omega]; rfl]; done) | (rw [if_neg (by omega),if_pos (by omega),show foldB x.k ++ (⟨#[40]⟩ : ByteArray) = ⟨#[109,105,110,40]⟩ from by rw [show x.k = 3 by omega]; rfl]; done) | (rw [if_neg (by omega),if_pos (by omega),show foldB x.k ++ (⟨#[40]⟩ : ByteArray) = ⟨#[109,97,120,40]⟩ from by rw [show x.k = 4 by omega]; rfl]; done) | (rw [if_neg (by omega),if_neg (by omega)]; done))
  refine c_cond0 (vb (ej rfl rfl) (decide_eq_false h4)) (c_seq (c_reg (s_cmp (r := decide (x.k = 2)) (ej rfl rfl) ev_c rfl (w0 rfl) (s_assign (v := .bool (decide (x.k = 2))) (ej rfl rfl) (w0 rfl) (c_done (n_then ?_))))))
  by_cases h5 : x.k = 2
  · refine c_cond1 (vb (ej rfl rfl) (decide_eq_true h5)) (c_seq (c_reg (s_field (off := 1) (o' := 1) F_f129_1 (ej rfl rfl) rfl (w0 rfl) (s_field (off := 0) (o' := 1) F_f33_0 (ej rfl rfl) rfl (w0 rfl) (s_load (v := .string x.t.v) F_o9 (ej rfl rfl) (cell_of_blk (i := 1) (NewB.blk n3) rfl) (w0 rfl) (s_cat ev_c (ej rfl rfl) (by (try simp only [ByteArray.size_append,z0,z1,z2,z3,z4,z5,z6]); omega) (w0 rfl) (s_cat (ej rfl rfl) ev_c (by (try simp only [ByteArray.size_append,z0,z1,z2,z3,z4,z5,z6]); omega) (w0 rfl) (s_assign (v := .string ((⟨#[115,117,109,40]⟩ : ByteArray) ++ x.t.v ++ (⟨#[41]⟩ : ByteArray))) (ej rfl rfl) (w0 rfl) (c_done (n_then (c_ret ?_)))))))))))
    refine r_block (r_then (ret1 (v := .string ((⟨#[115,117,109,40]⟩ : ByteArray) ++ x.t.v ++ (⟨#[41]⟩ : ByteArray))) rfl rfl rfl ?_))
    refine ⟨_,rfl,?_,(NewB.ext n3)⟩
    (refine congrArg Value.string ?_; unfold argW; first | (rw [if_pos (by omega)]; done) | (rw [if_neg (by omega),if_pos (by omega),show foldB x.k ++ (⟨#[40]⟩ : ByteArray) = ⟨#[115,117,109,40]⟩ from by rw [show x.k = 2 by omega]; rfl]; done) | (rw [if_neg (by omega),if_pos (by omega),show foldB x.k ++ (⟨#[40]⟩ : ByteArray) = ⟨#[109,105,110,40]⟩ from by rw [show x.k = 3 by omega]; rfl]; done) | (rw [if_neg (by omega),if_pos (by omega),show foldB x.k ++ (⟨#[40]⟩ : ByteArray) = ⟨#[109,97,120,40]⟩ from by rw [show x.k = 4 by omega]; rfl]; done) | (rw [if_neg (by omega),if_neg (by omega)]; done))
  refine c_cond0 (vb (ej rfl rfl) (decide_eq_false h5)) (c_seq (c_reg (s_cmp (r := decide (x.k = 3)) (ej rfl rfl) ev_c rfl (w0 rfl) (s_assign (v := .bool (decide (x.k = 3))) (ej rfl rfl) (w0 rfl) (c_done (n_then ?_))))))
  by_cases h6 : x.k = 3
  · refine c_cond1 (vb (ej rfl rfl) (decide_eq_true h6)) (c_seq (c_reg (s_field (off := 1) (o' := 1) F_f129_1 (ej rfl rfl) rfl (w0 rfl) (s_field (off := 0) (o' := 1) F_f33_0 (ej rfl rfl) rfl (w0 rfl) (s_load (v := .string x.t.v) F_o9 (ej rfl rfl) (cell_of_blk (i := 1) (NewB.blk n3) rfl) (w0 rfl) (s_cat ev_c (ej rfl rfl) (by (try simp only [ByteArray.size_append,z0,z1,z2,z3,z4,z5,z6]); omega) (w0 rfl) (s_cat (ej rfl rfl) ev_c (by (try simp only [ByteArray.size_append,z0,z1,z2,z3,z4,z5,z6]); omega) (w0 rfl) (s_assign (v := .string ((⟨#[109,105,110,40]⟩ : ByteArray) ++ x.t.v ++ (⟨#[41]⟩ : ByteArray))) (ej rfl rfl) (w0 rfl) (c_done (n_then (c_ret ?_)))))))))))
    refine r_block (r_then (ret1 (v := .string ((⟨#[109,105,110,40]⟩ : ByteArray) ++ x.t.v ++ (⟨#[41]⟩ : ByteArray))) rfl rfl rfl ?_))
    refine ⟨_,rfl,?_,(NewB.ext n3)⟩
    (refine congrArg Value.string ?_; unfold argW; first | (rw [if_pos (by omega)]; done) | (rw [if_neg (by omega),if_pos (by omega),show foldB x.k ++ (⟨#[40]⟩ : ByteArray) = ⟨#[115,117,109,40]⟩ from by rw [show x.k = 2 by omega]; rfl]; done) | (rw [if_neg (by omega),if_pos (by omega),show foldB x.k ++ (⟨#[40]⟩ : ByteArray) = ⟨#[109,105,110,40]⟩ from by rw [show x.k = 3 by omega]; rfl]; done) | (rw [if_neg (by omega),if_pos (by omega),show foldB x.k ++ (⟨#[40]⟩ : ByteArray) = ⟨#[109,97,120,40]⟩ from by rw [show x.k = 4 by omega]; rfl]; done) | (rw [if_neg (by omega),if_neg (by omega)]; done))
  refine c_cond0 (vb (ej rfl rfl) (decide_eq_false h6)) (c_seq (c_reg (s_cmp (r := decide (x.k = 4)) (ej rfl rfl) ev_c rfl (w0 rfl) (s_assign (v := .bool (decide (x.k = 4))) (ej rfl rfl) (w0 rfl) (c_done (n_then ?_))))))
  by_cases h7 : x.k = 4
  · refine c_cond1 (vb (ej rfl rfl) (decide_eq_true h7)) (c_seq (c_reg (s_field (off := 1) (o' := 1) F_f129_1 (ej rfl rfl) rfl (w0 rfl) (s_field (off := 0) (o' := 1) F_f33_0 (ej rfl rfl) rfl (w0 rfl) (s_load (v := .string x.t.v) F_o9 (ej rfl rfl) (cell_of_blk (i := 1) (NewB.blk n3) rfl) (w0 rfl) (s_cat ev_c (ej rfl rfl) (by (try simp only [ByteArray.size_append,z0,z1,z2,z3,z4,z5,z6]); omega) (w0 rfl) (s_cat (ej rfl rfl) ev_c (by (try simp only [ByteArray.size_append,z0,z1,z2,z3,z4,z5,z6]); omega) (w0 rfl) (s_assign (v := .string ((⟨#[109,97,120,40]⟩ : ByteArray) ++ x.t.v ++ (⟨#[41]⟩ : ByteArray))) (ej rfl rfl) (w0 rfl) (c_done (n_then (c_ret ?_)))))))))))
    refine r_block (r_then (ret1 (v := .string ((⟨#[109,97,120,40]⟩ : ByteArray) ++ x.t.v ++ (⟨#[41]⟩ : ByteArray))) rfl rfl rfl ?_))
    refine ⟨_,rfl,?_,(NewB.ext n3)⟩
    (refine congrArg Value.string ?_; unfold argW; first | (rw [if_pos (by omega)]; done) | (rw [if_neg (by omega),if_pos (by omega),show foldB x.k ++ (⟨#[40]⟩ : ByteArray) = ⟨#[115,117,109,40]⟩ from by rw [show x.k = 2 by omega]; rfl]; done) | (rw [if_neg (by omega),if_pos (by omega),show foldB x.k ++ (⟨#[40]⟩ : ByteArray) = ⟨#[109,105,110,40]⟩ from by rw [show x.k = 3 by omega]; rfl]; done) | (rw [if_neg (by omega),if_pos (by omega),show foldB x.k ++ (⟨#[40]⟩ : ByteArray) = ⟨#[109,97,120,40]⟩ from by rw [show x.k = 4 by omega]; rfl]; done) | (rw [if_neg (by omega),if_neg (by omega)]; done))
  refine c_cond0 (vb (ej rfl rfl) (decide_eq_false h7)) (c_skip (n_block (n_then (c_seq (c_reg (s_field (off := 1) (o' := 1) F_f129_1 (ej rfl rfl) rfl (w0 rfl) (s_loadL (cs := [.string x.t.v,.int .i8 x.t.l.k,.int .i64 x.t.l.n,.string x.t.l.s]) F_m33 (ej rfl rfl) rfl rfl (blk_cells (NewB.blk n3) 1 rfl) (w0 rfl) (s_call F_e62 (w0 rfl) ev_f (m1 (ej rfl rfl)) (args := #[.agg #[.string x.t.v,.int .i8 x.t.l.k,.int .i64 x.t.l.n,.string x.t.l.s]]) rfl (r6_term x.t _ (Ag.wf.t hx)) ?_))))))))
  rintro _ w9 ⟨rfl,x8⟩
  refine s_assign (v := .string (termW x.t)) (ej rfl rfl) (w0 rfl) (c_done (n_then (c_ret (ret1 (v := .string (termW x.t)) rfl rfl rfl ?_))))
  refine ⟨_,rfl,?_,(Ext.trans (NewB.ext n3) x8)⟩
  (refine congrArg Value.string ?_; unfold argW; first | (rw [if_pos (by omega)]; done) | (rw [if_neg (by omega),if_pos (by omega),show foldB x.k ++ (⟨#[40]⟩ : ByteArray) = ⟨#[115,117,109,40]⟩ from by rw [show x.k = 2 by omega]; rfl]; done) | (rw [if_neg (by omega),if_pos (by omega),show foldB x.k ++ (⟨#[40]⟩ : ByteArray) = ⟨#[109,105,110,40]⟩ from by rw [show x.k = 3 by omega]; rfl]; done) | (rw [if_neg (by omega),if_pos (by omega),show foldB x.k ++ (⟨#[40]⟩ : ByteArray) = ⟨#[109,97,120,40]⟩ from by rw [show x.k = 4 by omega]; rfl]; done) | (rw [if_neg (by omega),if_neg (by omega)]; done))
theorem hdW_step {l : List Ag} {i : Nat} (h : i < l.length) : (l.take (i + 1)).map argW = (l.take i).map argW ++ [argW (agAt l i)] := by
  rw [List.take_add_one,agAt_there h]; simp
theorem r6_rule (x : Ru) (Ah Ab : Option Addr) (ch cb : Nat) (w : World) (ho : x.okc ch cb) (hrh : Row RG 5 w Ah x.head) (hrb : Row RL 16 w Ab x.body) (hru : ruB x = true) :
    Rt Tryz.prog 47 #[.agg #[.string x.p,.slice Ah x.head.length ch,.slice Ab x.body.length cb]] w fun v w' => v = .string (ruW x) ∧ Ext w w' := by
  refine enter Tryz.func47 rfl (l := [.agg #[.string x.p,.slice Ah x.head.length ch,.slice Ab x.body.length cb]]) rfl Tryz.ntmps47 (Nat.le_of_ble_eq_true rfl) ?_
  have hpr_ := Ru.okc.p ho
  have hhl_ := Ru.okc.hl ho
  have hhc_ := Ru.okc.hc ho
  have hbl_ := Ru.okc.bl ho
  have hbc_ := Ru.okc.bc ho
  obtain ⟨hnm_,hpz_,h24_,h16_,hha_,hlb_⟩ := ruB_parts hru
  have hcw_ := headW_size hru hrh
  refine c_seq (c_reg (s_box (v := .agg #[.string x.p,.slice Ah x.head.length ch,.slice Ab x.body.length cb]) (cs := #[.string x.p,.slice Ah x.head.length ch,.slice Ab x.body.length cb]) (w0 rfl) (ej rfl rfl) rfl ?_))
  intro w2 g1 n3
  refine s_assign (v := .string (⟨#[]⟩ : ByteArray)) ev_c (w0 rfl) (c_done (n_then (c_seq (c_reg (s_assign (v := .slice none 0 0) ev_c (w0 rfl) (c_done (n_then (c_seq (c_seq (c_reg (s_assign (v := .int .i64 0) ev_c (w0 rfl) ?_)))))))))))
  refine c_done (n_then (c_block ?_))
  have ge4 : w.heap.size ≤ g1 := by have a_ := NewB.eq n3; have b_ := Keep.size (Ext.refl w); omega
  refine c_loop (α := Nat × Option Addr × Nat) (fun x_ env_ w_ => match x_ with | (i,A1,c1) => Ext w w_ ∧ w_.heap[g1]? = some (.cells #[.string x.p,.slice Ah x.head.length ch,.slice Ab x.body.length cb] 53 (0,0)) ∧ i ≤ x.head.length ∧ OS 9 w.heap.size w_ A1 c1 ((x.head.take i).map argW) ∧ env_ 1 = .pointer (some ⟨g1,0,none⟩) ∧ env_ 2 = .string (⟨#[]⟩ : ByteArray) ∧ env_ 3 = .slice A1 (((x.head.take i).map argW).length) c1 ∧ env_ 4 = .int .i64 ((i : Nat) : Int)) (fun x_ => match x_ with | (i,A1,c1) => x.head.length - i) (0,none,0) ⟨(NewB.ext n3),(NewB.blk n3),Nat.zero_le _,(OS.cast OS.nil (by simp)),rfl,rfl,(congrArg (fun n_ => Value.slice none n_ 0) (show 0 = ((x.head.take 0).map argW).length by simp)),rfl⟩ ?_
  rintro ⟨i,A1,c1⟩ env7 w5 ⟨x6,bk14,i8,i9,e10,e11,e12,e13⟩
  refine c_seq (c_seq (c_reg (s_move (v := .int .i64 ((i : Nat) : Int)) (ej rfl e13) (w0 rfl) (s_field (off := 1) (o' := 1) F_f53_1 (ej rfl e10) rfl (w0 rfl) (s_load (v := .slice Ah x.head.length ch) F_o51 (ej rfl rfl) (cell_of_blk (i := 1) bk14 rfl) (w0 rfl) (s_lenL F_l51 (ej rfl rfl) (w0 rfl) (s_cmp (r := decide (((i : Nat) : Int) < (x.head.length : Int))) (ej rfl rfl) (ej rfl rfl) rfl (w0 rfl) (c_done (n_then ?_)))))))))
  by_cases h15 : ((i : Nat) : Int) < (x.head.length : Int)
  · refine c_cond1 (vb (ej rfl rfl) (decide_eq_true h15)) (c_skip (n_then (c_seq (c_block (c_reg (s_move (v := .slice A1 (((x.head.take i).map argW).length) c1) (ej rfl e12) (w0 rfl) (s_field (off := 1) (o' := 1) F_f53_1 (ej rfl e10) rfl (w0 rfl) (s_load (v := .slice Ah x.head.length ch) F_o51 (ej rfl rfl) (cell_of_blk (i := 1) bk14 rfl) (w0 rfl) (s_move (v := .int .i64 ((i : Nat) : Int)) (ej rfl e13) (w0 rfl) ?_)))))))))
    obtain ⟨b16,o17,x18,csx18,hA19,hx20,hR21,hc22⟩ := Row.at_ hrh i (by omega)
    obtain rfl := agAt_of hx20
    obtain ⟨rfl,wf23⟩ := hR21
    refine s_indexR (j := i) F_l51 (ej rfl rfl) hA19 (ej rfl rfl) rfl (by omega) (w0 rfl) (s_loadL (cs := [.int .i8 ((agAt x.head i).k),.string ((agAt x.head i).t.v),.int .i8 ((agAt x.head i).t.l.k),.int .i64 ((agAt x.head i).t.l.n),.string ((agAt x.head i).t.l.s)]) F_m129 (ej rfl rfl) rfl rfl (sub_cells (cells_ext x6 hc22) 0 rfl) (w0 rfl) (s_call F_e88 (w0 rfl) ev_f (m1 (ej rfl rfl)) (args := #[.agg #[.int .i8 ((agAt x.head i).k),.string ((agAt x.head i).t.v),.int .i8 ((agAt x.head i).t.l.k),.int .i64 ((agAt x.head i).t.l.n),.string ((agAt x.head i).t.l.s)]]) rfl (r6_arg (agAt x.head i) _ wf23 (hha_ _ (by omega))) ?_))
    rintro _ w25 ⟨rfl,x24⟩
    refine s_bslice (vs := [(0,.string (argW (agAt x.head i)))]) (cs := #[.string (argW (agAt x.head i))]) (b1 (ej rfl rfl)) (bs106_1_0s (argW (agAt x.head i))) (w0 rfl) ?_
    intro w27 g26 n28
    refine s_append (m := 1) (k := 1) (news := [.string (argW (agAt x.head i))]) F_ul106 F_if9 rfl (by decide) (ej rfl rfl) (OS.own (OS.ext (OS.ext i9 x24) (NewB.ext n28))) (ej rfl rfl) rfl (by have z_ := blk_cells (NewB.blk n28) 0 (cs := [.string (argW (agAt x.head i))]) rfl; exact z_) rfl (by simp only [List.length_map,List.length_take]; omega) (by simp only [List.length_map,List.length_take]; omega) (Keep.size (Ext.trans (Ext.trans x6 x24) (NewB.ext n28))) (w0 rfl) ?_
    intro A31 c32 w29 ow33 k30
    have ot34 := OS.snoc ow33
    refine s_assign (v := .slice A31 (((x.head.take i).map argW).length + 1) c32) (ej rfl rfl) (w0 rfl) (c_done (n_block (n_then (c_reg (s_move (v := .int .i64 ((i : Nat) : Int)) (ej rfl e13) (w0 rfl) (s_add (r := ((i + 1 : Nat) : Int)) (ej rfl rfl) ev_c (by omega) (by omega) (w0 rfl) (s_assign (v := .int .i64 ((i + 1 : Nat) : Int)) (ej rfl rfl) (w0 rfl) (c_done ?_))))))))
    exact ⟨(i + 1,A31,c32),_,rfl,⟨(Keep.then_ (Ext.trans (Ext.trans x6 x24) (NewB.ext n28)) k30 (fun i_ hi_ h_ => by have a_ := own_ge (OS.own (OS.ext (OS.ext i9 x24) (NewB.ext n28))) i_ h_; omega)),(Keep.blk k30 (Ext.blk (NewB.ext n28) (Ext.blk x24 bk14)) (own_ne (OS.own (OS.ext (OS.ext i9 x24) (NewB.ext n28))) (Ext.blk (NewB.ext n28) (Ext.blk x24 bk14)) (by first | decide | assumption))),by omega,(OS.cast ot34 (by rw [hdW_step (by omega)])),e10,e11,(congrArg (fun n_ => Value.slice A31 n_ c32) (show (((x.head.take i).map argW).length + 1) = (((x.head.take (i + 1)).map argW)).length by rw [hdW_step (by omega)]; first | (simp; done) | (simp; omega))),rfl⟩,(show x.head.length - (i + 1) < x.head.length - i by omega)⟩
  refine c_cond0 (vb (ej rfl rfl) (decide_eq_false h15)) (c_exit (e_then (e_then (e_hit (n_then (c_seq (c_reg (s_field (off := 0) (o' := 0) F_f53_0 (ej rfl e10) rfl (w0 rfl) (s_load (v := .string x.p) F_o9 (ej rfl rfl) (cell_of_blk (i := 0) bk14 rfl) (w0 rfl) (s_move (v := .slice A1 (((x.head.take i).map argW).length) c1) (ej rfl e12) (w0 rfl) (s_call F_e63 (w0 rfl) ev_f (m2 (ej rfl rfl) (ej rfl rfl)) (args := #[.string x.p,.slice A1 (((x.head.take i).map argW).length) c1]) rfl (r6_columns x.p _ (x.head.map argW) A1 c1 _ (by rw [List.take_of_length_le (by omega)]) (OS.row (OS.cast i9 (by rw [List.take_of_length_le (by omega)]))) (by rw [List.length_map]; omega) (fun i_ hi_ => by rw [List.length_map] at hi_; have z_ := argW_size (hha_ i_ hi_) (RG_wf hrh hi_); have e_ : sAt (x.head.map argW) i_ = argW (agAt x.head i_) := argW_at hi_; rw [e_]; omega) (by omega)) ?_)))))))))))
  rintro _ w36 ⟨rfl,x35⟩
  refine s_assign (v := .string (colW x.p (x.head.map argW))) (ej rfl rfl) (w0 rfl) (c_done (n_then (c_seq (c_seq (c_reg (s_assign (v := .int .i64 0) ev_c (w0 rfl) (c_done (n_then (c_block (c_loop (α := Nat) (fun (k : Nat) env_ w_ => Ext w36 w_ ∧ k ≤ x.body.length ∧ env_ 1 = .pointer (some ⟨g1,0,none⟩) ∧ env_ 2 = .string (⟨#[]⟩ : ByteArray) ∧ env_ 5 = .string (colW x.p (x.head.map argW) ++ ruP x.body k) ∧ env_ 6 = .int .i64 ((k : Nat) : Int)) (fun k => x.body.length - k) (0) ⟨Ext.refl _,Nat.zero_le _,e10,e11,(congrArg Value.string (show colW x.p (x.head.map argW) = colW x.p (x.head.map argW) ++ ruP x.body 0 by simp only [ruP,app_nil])),rfl⟩ ?_))))))))))
  rintro k env39 w37 ⟨x38,i40,e41,e42,e43,e44⟩
  have hP_ := ruP_le hrb hlb_ k i40
  have hkb_ : k * 500004 ≤ 16 * 500004 := Nat.mul_le_mul_right _ (by omega)
  refine c_seq (c_seq (c_reg (s_move (v := .int .i64 ((k : Nat) : Int)) (ej rfl e44) (w0 rfl) (s_field (off := 2) (o' := 2) F_f53_2 (ej rfl e41) rfl (w0 rfl) (s_load (v := .slice Ab x.body.length cb) F_o40 (ej rfl rfl) (cell_of_blk (i := 2) (Ext.blk x38 (Ext.blk x35 bk14)) rfl) (w0 rfl) (s_lenL F_l40 (ej rfl rfl) (w0 rfl) (s_cmp (r := decide (((k : Nat) : Int) < (x.body.length : Int))) (ej rfl rfl) (ej rfl rfl) rfl (w0 rfl) (c_done (n_then ?_)))))))))
  by_cases h45 : ((k : Nat) : Int) < (x.body.length : Int)
  · refine c_cond1 (vb (ej rfl rfl) (decide_eq_true h45)) (c_skip (n_then (c_seq (c_block (c_seq (c_seq (c_reg (s_move (v := .int .i64 ((k : Nat) : Int)) (ej rfl e44) (w0 rfl) (s_cmp (r := decide (((k : Nat) : Int) = 0)) (ej rfl rfl) ev_c rfl (w0 rfl) (c_done (n_then ?_)))))))))))
    by_cases h46 : ((k : Nat) : Int) = 0
    · refine c_cond1 (vb (ej rfl rfl) (decide_eq_true h46)) (c_reg (s_move (v := .string (colW x.p (x.head.map argW) ++ ruP x.body k)) (ej rfl e43) (w0 rfl) (s_cat (ej rfl rfl) ev_c (by (try simp only [ByteArray.size_append,z0,z1,z2,z3,z4,z5,z6]); omega) (w0 rfl) (s_assign (v := .string ((colW x.p (x.head.map argW) ++ ruP x.body k) ++ (⟨#[32,58,45,32]⟩ : ByteArray))) (ej rfl rfl) (w0 rfl) (c_done (n_then (c_reg (s_move (v := .string ((colW x.p (x.head.map argW) ++ ruP x.body k) ++ (⟨#[32,58,45,32]⟩ : ByteArray))) (ej rfl rfl) (w0 rfl) (s_field (off := 2) (o' := 2) F_f53_2 (ej rfl e41) rfl (w0 rfl) (s_load (v := .slice Ab x.body.length cb) F_o40 (ej rfl rfl) (cell_of_blk (i := 2) (Ext.blk x38 (Ext.blk x35 bk14)) rfl) (w0 rfl) (s_move (v := .int .i64 ((k : Nat) : Int)) (ej rfl e44) (w0 rfl) ?_)))))))))))
      obtain ⟨b47,o48,x49,csx49,hA50,hx51,hR52,hc53⟩ := Row.at_ hrb k (by omega)
      obtain rfl := ltAt_of hx51
      obtain ⟨Aa54,A55,A56,ca57,c58,c59,rfl,ho60,ra61,r62,r63⟩ := hR52
      have q64_a := Lt.okc.a ho60
      have q64_e1 := Lt.okc.e1 ho60
      have q64_e2 := Lt.okc.e2 ho60
      have := Ex.okc.l q64_e1
      have := Ex.okc.l q64_e2
      have := Ex.okc.c q64_e1
      have := Ex.okc.c q64_e2
      have := At.okc.l q64_a
      have := At.okc.c q64_a
      have := At.okc.p q64_a
      refine s_indexR (j := k) F_l40 (ej rfl rfl) hA50 (ej rfl rfl) rfl (by omega) (w0 rfl) (s_loadL (cs := [.int .i8 ((ltAt x.body k).k),.string ((ltAt x.body k).a.p),.slice Aa54 ((ltAt x.body k).a.args.length) ca57,.int .i8 ((ltAt x.body k).r),.int .i8 ((ltAt x.body k).e1.op),.string ((ltAt x.body k).e1.t.v),.int .i8 ((ltAt x.body k).e1.t.l.k),.int .i64 ((ltAt x.body k).e1.t.l.n),.string ((ltAt x.body k).e1.t.l.s),.slice A55 ((ltAt x.body k).e1.kids.length) c58,.int .i8 ((ltAt x.body k).e2.op),.string ((ltAt x.body k).e2.t.v),.int .i8 ((ltAt x.body k).e2.t.l.k),.int .i64 ((ltAt x.body k).e2.t.l.n),.string ((ltAt x.body k).e2.t.l.s),.slice A56 ((ltAt x.body k).e2.kids.length) c59]) F_m38 (ej rfl rfl) rfl rfl (sub_cells (cells_ext x38 (cells_ext x35 (cells_ext x6 hc53))) 0 rfl) (w0 rfl) ?_)
      have hz65 := ltW_at hrb hlb_ (i := k) (by omega)
      refine s_call F_e37 (w0 rfl) ev_f (m1 (ej rfl rfl)) (args := #[.agg #[.int .i8 ((ltAt x.body k).k),.string ((ltAt x.body k).a.p),.slice Aa54 ((ltAt x.body k).a.args.length) ca57,.int .i8 ((ltAt x.body k).r),.int .i8 ((ltAt x.body k).e1.op),.string ((ltAt x.body k).e1.t.v),.int .i8 ((ltAt x.body k).e1.t.l.k),.int .i64 ((ltAt x.body k).e1.t.l.n),.string ((ltAt x.body k).e1.t.l.s),.slice A55 ((ltAt x.body k).e1.kids.length) c58,.int .i8 ((ltAt x.body k).e2.op),.string ((ltAt x.body k).e2.t.v),.int .i8 ((ltAt x.body k).e2.t.l.k),.int .i64 ((ltAt x.body k).e2.t.l.n),.string ((ltAt x.body k).e2.t.l.s),.slice A56 ((ltAt x.body k).e2.kids.length) c59]]) rfl (r6_literal (ltAt x.body k) Aa54 A55 A56 ca57 c58 c59 _ ho60 (Row.extT (Row.extT (Row.extT ra61 x6) x35) x38) (Row.extE (Row.extE (Row.extE r62 x6) x35) x38) (Row.extE (Row.extE (Row.extE r63 x6) x35) x38) (hlb_ k (by omega))) ?_
      rintro _ w67 ⟨rfl,x66⟩
      refine s_cat (ej rfl rfl) (ej rfl rfl) (by (try simp only [ByteArray.size_append,z0,z1,z2,z3,z4,z5,z6]); omega) (w0 rfl) (s_assign (v := .string ((colW x.p (x.head.map argW) ++ ruP x.body k) ++ (⟨#[32,58,45,32]⟩ : ByteArray) ++ (ltW (ltAt x.body k)))) (ej rfl rfl) (w0 rfl) (c_done (n_block (n_then (c_reg (s_move (v := .int .i64 ((k : Nat) : Int)) (ej rfl e44) (w0 rfl) (s_add (r := ((k + 1 : Nat) : Int)) (ej rfl rfl) ev_c (by omega) (by omega) (w0 rfl) (s_assign (v := .int .i64 ((k + 1 : Nat) : Int)) (ej rfl rfl) (w0 rfl) (c_done ?_)))))))))
      exact ⟨(k + 1),_,rfl,⟨(Ext.trans x38 x66),by omega,e41,e42,(congrArg Value.string (by simp only [ruP]; rw [if_pos (by omega)]; simp only [app_assoc])),rfl⟩,(show x.body.length - (k + 1) < x.body.length - k by omega)⟩
    refine c_cond0 (vb (ej rfl rfl) (decide_eq_false h46)) (c_reg (s_move (v := .string (colW x.p (x.head.map argW) ++ ruP x.body k)) (ej rfl e43) (w0 rfl) (s_cat (ej rfl rfl) ev_c (by (try simp only [ByteArray.size_append,z0,z1,z2,z3,z4,z5,z6]); omega) (w0 rfl) (s_assign (v := .string ((colW x.p (x.head.map argW) ++ ruP x.body k) ++ (⟨#[44,32]⟩ : ByteArray))) (ej rfl rfl) (w0 rfl) (c_done (n_then (c_reg (s_move (v := .string ((colW x.p (x.head.map argW) ++ ruP x.body k) ++ (⟨#[44,32]⟩ : ByteArray))) (ej rfl rfl) (w0 rfl) (s_field (off := 2) (o' := 2) F_f53_2 (ej rfl e41) rfl (w0 rfl) (s_load (v := .slice Ab x.body.length cb) F_o40 (ej rfl rfl) (cell_of_blk (i := 2) (Ext.blk x38 (Ext.blk x35 bk14)) rfl) (w0 rfl) (s_move (v := .int .i64 ((k : Nat) : Int)) (ej rfl e44) (w0 rfl) ?_)))))))))))
    obtain ⟨b68,o69,x70,csx70,hA71,hx72,hR73,hc74⟩ := Row.at_ hrb k (by omega)
    obtain rfl := ltAt_of hx72
    obtain ⟨Aa75,A76,A77,ca78,c79,c80,rfl,ho81,ra82,r83,r84⟩ := hR73
    have q85_a := Lt.okc.a ho81
    have q85_e1 := Lt.okc.e1 ho81
    have q85_e2 := Lt.okc.e2 ho81
    have := Ex.okc.l q85_e1
    have := Ex.okc.l q85_e2
    have := Ex.okc.c q85_e1
    have := Ex.okc.c q85_e2
    have := At.okc.l q85_a
    have := At.okc.c q85_a
    have := At.okc.p q85_a
    refine s_indexR (j := k) F_l40 (ej rfl rfl) hA71 (ej rfl rfl) rfl (by omega) (w0 rfl) (s_loadL (cs := [.int .i8 ((ltAt x.body k).k),.string ((ltAt x.body k).a.p),.slice Aa75 ((ltAt x.body k).a.args.length) ca78,.int .i8 ((ltAt x.body k).r),.int .i8 ((ltAt x.body k).e1.op),.string ((ltAt x.body k).e1.t.v),.int .i8 ((ltAt x.body k).e1.t.l.k),.int .i64 ((ltAt x.body k).e1.t.l.n),.string ((ltAt x.body k).e1.t.l.s),.slice A76 ((ltAt x.body k).e1.kids.length) c79,.int .i8 ((ltAt x.body k).e2.op),.string ((ltAt x.body k).e2.t.v),.int .i8 ((ltAt x.body k).e2.t.l.k),.int .i64 ((ltAt x.body k).e2.t.l.n),.string ((ltAt x.body k).e2.t.l.s),.slice A77 ((ltAt x.body k).e2.kids.length) c80]) F_m38 (ej rfl rfl) rfl rfl (sub_cells (cells_ext x38 (cells_ext x35 (cells_ext x6 hc74))) 0 rfl) (w0 rfl) ?_)
    have hz86 := ltW_at hrb hlb_ (i := k) (by omega)
    refine s_call F_e37 (w0 rfl) ev_f (m1 (ej rfl rfl)) (args := #[.agg #[.int .i8 ((ltAt x.body k).k),.string ((ltAt x.body k).a.p),.slice Aa75 ((ltAt x.body k).a.args.length) ca78,.int .i8 ((ltAt x.body k).r),.int .i8 ((ltAt x.body k).e1.op),.string ((ltAt x.body k).e1.t.v),.int .i8 ((ltAt x.body k).e1.t.l.k),.int .i64 ((ltAt x.body k).e1.t.l.n),.string ((ltAt x.body k).e1.t.l.s),.slice A76 ((ltAt x.body k).e1.kids.length) c79,.int .i8 ((ltAt x.body k).e2.op),.string ((ltAt x.body k).e2.t.v),.int .i8 ((ltAt x.body k).e2.t.l.k),.int .i64 ((ltAt x.body k).e2.t.l.n),.string ((ltAt x.body k).e2.t.l.s),.slice A77 ((ltAt x.body k).e2.kids.length) c80]]) rfl (r6_literal (ltAt x.body k) Aa75 A76 A77 ca78 c79 c80 _ ho81 (Row.extT (Row.extT (Row.extT ra82 x6) x35) x38) (Row.extE (Row.extE (Row.extE r83 x6) x35) x38) (Row.extE (Row.extE (Row.extE r84 x6) x35) x38) (hlb_ k (by omega))) ?_
    rintro _ w88 ⟨rfl,x87⟩
    refine s_cat (ej rfl rfl) (ej rfl rfl) (by (try simp only [ByteArray.size_append,z0,z1,z2,z3,z4,z5,z6]); omega) (w0 rfl) (s_assign (v := .string ((colW x.p (x.head.map argW) ++ ruP x.body k) ++ (⟨#[44,32]⟩ : ByteArray) ++ (ltW (ltAt x.body k)))) (ej rfl rfl) (w0 rfl) (c_done (n_block (n_then (c_reg (s_move (v := .int .i64 ((k : Nat) : Int)) (ej rfl e44) (w0 rfl) (s_add (r := ((k + 1 : Nat) : Int)) (ej rfl rfl) ev_c (by omega) (by omega) (w0 rfl) (s_assign (v := .int .i64 ((k + 1 : Nat) : Int)) (ej rfl rfl) (w0 rfl) (c_done ?_)))))))))
    exact ⟨(k + 1),_,rfl,⟨(Ext.trans x38 x87),by omega,e41,e42,(congrArg Value.string (by simp only [ruP]; rw [if_neg (by omega)]; simp only [app_assoc])),rfl⟩,(show x.body.length - (k + 1) < x.body.length - k by omega)⟩
  refine c_cond0 (vb (ej rfl rfl) (decide_eq_false h45)) (c_exit (e_then (e_then (e_hit (n_then (c_seq (c_reg (s_move (v := .string (colW x.p (x.head.map argW) ++ ruP x.body k)) (ej rfl e43) (w0 rfl) (s_cat (ej rfl rfl) ev_c (by (try simp only [ByteArray.size_append,z0,z1,z2,z3,z4,z5,z6]); omega) (w0 rfl) (s_assign (v := .string ((colW x.p (x.head.map argW) ++ ruP x.body k) ++ (⟨#[46]⟩ : ByteArray))) (ej rfl rfl) (w0 rfl) (c_done ?_)))))))))))
  refine n_then (c_ret (ret1 (v := .string ((colW x.p (x.head.map argW) ++ ruP x.body k) ++ (⟨#[46]⟩ : ByteArray))) rfl rfl rfl ?_))
  refine ⟨_,rfl,?_,(Ext.trans (Ext.trans x6 x35) x38)⟩
  (refine congrArg Value.string ?_; have e_ : k = x.body.length := (by omega); subst e_; rfl)
theorem r6_Rule (x : Ru) (Ah Ab : Option Addr) (ch cb : Nat) (w : World) (ho : x.okc ch cb) (hrh : Row RG 5 w Ah x.head) (hrb : Row RL 16 w Ab x.body) :
    Rt Tryz.prog 20 #[.agg #[.string x.p,.slice Ah x.head.length ch,.slice Ab x.body.length cb]] w fun v w' => v = .tuple #[.string (if ruB x then ruW x else ⟨#[]⟩),.int .i64 (code (ruB x))] ∧ Ext w w' := by
  refine enter Tryz.func20 rfl (l := [.agg #[.string x.p,.slice Ah x.head.length ch,.slice Ab x.body.length cb]]) rfl Tryz.ntmps20 (Nat.le_of_ble_eq_true rfl) ?_
  have hpr_ := Ru.okc.p ho
  have hhl_ := Ru.okc.hl ho
  have hhc_ := Ru.okc.hc ho
  have hbl_ := Ru.okc.bl ho
  have hbc_ := Ru.okc.bc ho
  refine c_seq (c_reg (s_box (v := .agg #[.string x.p,.slice Ah x.head.length ch,.slice Ab x.body.length cb]) (cs := #[.string x.p,.slice Ah x.head.length ch,.slice Ab x.body.length cb]) (w0 rfl) (ej rfl rfl) rfl ?_))
  intro w2 g1 n3
  refine s_assign (v := .string (⟨#[]⟩ : ByteArray)) ev_c (w0 rfl) (s_assign (v := .int .i64 0) ev_c (w0 rfl) (c_done (n_then (c_seq (c_seq (c_reg (s_loadL (cs := [.string x.p,.slice Ah x.head.length ch,.slice Ab x.body.length cb]) F_m53 (ej rfl rfl) rfl rfl (blk_cells (NewB.blk n3) 0 rfl) (w0 rfl) (s_call F_e46 (w0 rfl) ev_f (m1 (ej rfl rfl)) (args := #[.agg #[.string x.p,.slice Ah x.head.length ch,.slice Ab x.body.length cb]]) rfl (r4_CheckRule x Ah Ab ch cb _ ho (Row.extG hrh (NewB.ext n3)) (Row.extL hrb (NewB.ext n3))) ?_))))))))
  rintro _ w5 ⟨rfl,x4⟩
  refine s_cmp (r := !(ruB x)) (ej rfl rfl) ev_c (ci_tn (b := (ruB x)) (by decide)) (w0 rfl) (c_done (n_then ?_))
  rcases Bool.eq_false_or_eq_true (ruB x) with h6 | h6
  · refine c_cond0 (vb (ej rfl rfl) (nbt h6)) (c_skip (n_then (c_seq (c_reg (s_loadL (cs := [.string x.p,.slice Ah x.head.length ch,.slice Ab x.body.length cb]) F_m53 (ej rfl rfl) rfl rfl (blk_cells (Ext.blk x4 (NewB.blk n3)) 0 rfl) (w0 rfl) (s_call F_e47 (w0 rfl) ev_f (m1 (ej rfl rfl)) (args := #[.agg #[.string x.p,.slice Ah x.head.length ch,.slice Ab x.body.length cb]]) rfl (r6_rule x Ah Ab ch cb _ ho (Row.extG (Row.extG hrh (NewB.ext n3)) x4) (Row.extL (Row.extL hrb (NewB.ext n3)) x4) (by assumption)) ?_))))))
    rintro _ w8 ⟨rfl,x7⟩
    refine s_assign (v := .string (ruW x)) (ej rfl rfl) (w0 rfl) (s_assign (v := .int .i64 0) ev_c (w0 rfl) (c_done (n_then (c_ret (ret2 (v := .string (ruW x)) (v2 := .int .i64 0) rfl rfl rfl rfl rfl ?_)))))
    refine ⟨_,rfl,?_,(Ext.trans (Ext.trans (NewB.ext n3) x4) x7)⟩
    (simp [code, *])
  refine c_cond1 (vb (ej rfl rfl) (nbf h6)) (c_seq (c_reg (s_assign (v := .string (⟨#[]⟩ : ByteArray)) ev_c (w0 rfl) (s_assign (v := .int .i64 40) ev_c (w0 rfl) (c_done (n_then (c_ret (r_then (ret2 (v := .string (⟨#[]⟩ : ByteArray)) (v2 := .int .i64 40) rfl rfl rfl rfl rfl ?_)))))))))
  refine ⟨_,rfl,?_,(Ext.trans (NewB.ext n3) x4)⟩
  (simp [code, *])
end Go.Proofs.Zw

set_option linter.unusedVariables false
set_option linter.unusedSimpArgs false
set_option maxRecDepth 10000
namespace Go.Proofs.Zw
open Go Go.Wk Go.Proofs Go.Lib
attribute [local irreducible] Go.wpList Go.wpStill Go.wpQuiet Go.Code.wp Go.Calls
theorem F_ar161 : arrayT Tryz.prog 161 5 1 = true := by kernel_rfl
theorem F_e91 : enterable Tryz.prog 91 = true := by kernel_rfl
theorem F_e92 : enterable Tryz.prog 92 = true := by kernel_rfl
theorem F_gn4 : Tryz.prog.globalNamed "pedigree/print.folds" = some 4 := by kernel_rfl
theorem bs106_4_0s_1s_2s_3s : ∀ (a0 : ByteArray) (a1 : ByteArray) (a2 : ByteArray) (a3 : ByteArray),∀ w : World,(Instr.buildSlice 106 4 [(0,.string a0),(1,.string a1),(2,.string a2),(3,.string a3)].toArray).run Tryz.prog w = .ok (.slice (some ⟨w.heap.size,0,none⟩) 4 4) (w.alloc (.cells #[.string a0,.string a1,.string a2,.string a3] 9)) := by
  intros
  kernel_rfl
theorem p_arg (x : Ag) (g : Nat) (s0 : ByteArray) (wz : World) (w : World) (x0 : Ext wz w) (tb : Tabs Tryz.prog wz) (hb : BW 5 97 wz.heap.size w g s0) (tf : FoldT Tryz.prog wz) (hx : x.wf) (hag : argB x = true) (hs : s0.size + 1000 ≤ 110000000000000) :
    Rt Tryz.prog 92 #[.pointer (some ⟨g,0,none⟩),.agg #[.int .i8 x.k,.string x.t.v,.int .i8 x.t.l.k,.int .i64 x.t.l.n,.string x.t.l.s]] w fun v w' => v = .tuple #[] ∧ Wr 5 97 wz.heap.size g (s0 ++ argW x) w w' := by
  refine enter Tryz.func92 rfl (l := [.pointer (some ⟨g,0,none⟩),.agg #[.int .i8 x.k,.string x.t.v,.int .i8 x.t.l.k,.int .i64 x.t.l.n,.string x.t.l.s]]) rfl Tryz.ntmps92 (Nat.le_of_ble_eq_true rfl) ?_
  have hB_ := Keep.size x0
  have hk04_ := arg_kinds hag
  have hvs_ : x.k = 2 ∨ x.k = 3 ∨ x.k = 4 → x.t.v.size ≤ 802 := arg_vsize hag hx
  have hfz_ := foldB_size x.k
  refine c_seq (c_reg (s_box (v := .agg #[.int .i8 x.k,.string x.t.v,.int .i8 x.t.l.k,.int .i64 x.t.l.n,.string x.t.l.s]) (cs := #[.int .i8 x.k,.string x.t.v,.int .i8 x.t.l.k,.int .i64 x.t.l.n,.string x.t.l.s]) (w0 rfl) (ej rfl rfl) rfl ?_))
  intro w2 g1 n3
  have ne_g1 : g1 ≠ g := by have a_ := NewB.eq n3; have b_ := BW.lt hb; omega
  refine c_done (n_then (c_seq (c_reg (s_field (off := 0) (o' := 0) F_f129_0 (ej rfl rfl) rfl (w0 rfl) (s_load (v := .int .i8 x.k) F_o127 (ej rfl rfl) (cell_of_blk (i := 0) (NewB.blk n3) rfl) (w0 rfl) (c_done (n_then (c_block (c_seq (c_reg (s_cmp (r := decide (x.k = 0)) (ej rfl rfl) ev_c rfl (w0 rfl) ?_)))))))))))
  refine s_assign (v := .bool (decide (x.k = 0))) (ej rfl rfl) (w0 rfl) (c_done (n_then ?_))
  by_cases h4 : x.k = 0
  · refine c_cond1 (vb (ej rfl rfl) (decide_eq_true h4)) (c_reg (s_move (v := .pointer (some ⟨g,0,none⟩)) (ej rfl rfl) (w0 rfl) (s_field (off := 1) (o' := 1) F_f129_1 (ej rfl rfl) rfl (w0 rfl) (s_loadL (cs := [.string x.t.v,.int .i8 x.t.l.k,.int .i64 x.t.l.n,.string x.t.l.s]) F_m33 (ej rfl rfl) rfl rfl (blk_cells (NewB.blk n3) 1 rfl) (w0 rfl) (s_call F_e71 (w0 rfl) ev_f (m2 (ej rfl rfl) (ej rfl rfl)) (args := #[.pointer (some ⟨g,0,none⟩),.agg #[.string x.t.v,.int .i8 x.t.l.k,.int .i64 x.t.l.n,.string x.t.l.s]]) rfl (p_term x.t g (s0) wz _ (Ext.trans x0 (NewB.ext n3)) tb (BW.ext hb (NewB.ext n3)) (Ag.wf.t hx) (by have := termW_size (arg_term hag (by omega)) (Ag.wf.t hx); omega)) ?_)))))
    rintro _ w5 ⟨rfl,wr6⟩
    refine c_done (n_block (ret0 rfl ?_))
    exact ⟨_,rfl,rfl,Wr.cast (Wr.then_ (Wr.of_ext hb (NewB.ext n3) hB_) wr6) (by unfold argW; first | (rw [if_pos (by omega)]; simp only [catL,app_nil]; done) | (rw [if_neg (by omega),if_pos (by omega)]; simp only [catL,app_nil,app_assoc]; done) | (rw [if_neg (by omega),if_neg (by omega)]; done))⟩
  refine c_cond0 (vb (ej rfl rfl) (decide_eq_false h4)) (c_seq (c_reg (s_cmp (r := decide (x.k = 1)) (ej rfl rfl) ev_c rfl (w0 rfl) (s_assign (v := .bool (decide (x.k = 1))) (ej rfl rfl) (w0 rfl) (c_done (n_then ?_))))))
  by_cases h7 : x.k = 1
  · refine c_cond1 (vb (ej rfl rfl) (decide_eq_true h7)) (c_reg (s_move (v := .pointer (some ⟨g,0,none⟩)) (ej rfl rfl) (w0 rfl) (s_bslice (vs := [(0,.string (⟨#[99,111,117,110,116,40,41]⟩ : ByteArray))]) (cs := #[.string (⟨#[99,111,117,110,116,40,41]⟩ : ByteArray)]) (b1 ev_c) (bs106_1_0s (⟨#[99,111,117,110,116,40,41]⟩ : ByteArray)) (w0 rfl) ?_)))
    intro w9 g8 n10
    have ne_g8 : g8 ≠ g := by have a_ := NewB.eq n10; have b_ := BW.lt (BW.ext hb (NewB.ext n3)); omega
    refine s_call F_e54 (w0 rfl) ev_f (m2 (ej rfl rfl) (ej rfl rfl)) (args := #[.pointer (some ⟨g,0,none⟩),.slice (some ⟨g8,0,none⟩) 1 1]) rfl (p_put 97 _ g g8 (s0) [(⟨#[99,111,117,110,116,40,41]⟩ : ByteArray)] _ (BW.ext (BW.ext hb (NewB.ext n3)) (NewB.ext n10)) (Nat.le_trans (Nat.le_trans hB_ (Keep.size (NewB.ext n3))) (Keep.size (NewB.ext n10))) (by decide) F_lies97 (NewB.blk n10) (by simp only [catL,ByteArray.size_append,z0,z1,z2,z3,z4,z5,z6,z7]; omega) (by simp)) ?_
    rintro _ w11 ⟨rfl,wr12⟩
    refine c_done (n_block (ret0 rfl ?_))
    exact ⟨_,rfl,rfl,Wr.cast (Wr.then_ (Wr.of_ext hb (Ext.trans (NewB.ext n3) (NewB.ext n10)) hB_) wr12) (by unfold argW; first | (rw [if_pos (by omega)]; simp only [catL,app_nil]; done) | (rw [if_neg (by omega),if_pos (by omega)]; simp only [catL,app_nil,app_assoc]; done) | (rw [if_neg (by omega),if_neg (by omega)]; done))⟩
  refine c_cond0 (vb (ej rfl rfl) (decide_eq_false h7)) ?_
  refine c_trace (fun k v wb wa => match k with | 0 => v = .pointer (some ⟨g,0,none⟩) | 1 => v = .pointer (some ⟨g1,0,none⟩) | 2 => v = .int .i8 x.k | 3 => v = .pointer (some ⟨4,0 + x.k.toNat * 1,none⟩) | 4 => v = .string (foldB x.k) | 5 => v = .pointer (some ⟨g1,1,none⟩) | 6 => v = .pointer (some ⟨g1,1,none⟩) | 7 => v = .string x.t.v | 8 => ∃ g_,v = .slice (some ⟨g_,0,none⟩) 4 4 ∧ NewB wb g_ (.cells #[.string (foldB x.k),.string (⟨#[40]⟩ : ByteArray),.string x.t.v,.string (⟨#[41]⟩ : ByteArray)] 9 (0,0)) wa | _ => True) (fun k => [6,7,8,9,10,11,12,13,14].getD k 999) (fun k => [[],[],[1],[2],[3],[],[5],[6],[4,7]].getD k []) 9 mixed (by kernel_rfl) (by decide) ?_ ?_
  · intro wd xd k_ hk_ env_ B_ A_ w_ hx_
    have hkm : k_ = 0 ∨ k_ = 1 ∨ k_ = 2 ∨ k_ = 3 ∨ k_ = 4 ∨ k_ = 5 ∨ k_ = 6 ∨ k_ = 7 ∨ k_ = 8 := by omega
    rcases hkm with rfl | rfl | rfl | rfl | rfl | rfl | rfl | rfl | rfl
    · refine ⟨_,rfl,?_⟩
      refine s_move (v := .pointer (some ⟨g,0,none⟩)) (ej rfl ((Tr.env hx_ 0 (by decide)).trans rfl)) (w0 rfl) ?_
      exact tl_done ⟨_,rfl,rfl,Ext.refl _⟩
    · refine ⟨_,rfl,?_⟩
      refine s_field (off := 0) (o' := 0) F_f129_0 (ej rfl ((Tr.env hx_ 3 (by decide)).trans rfl)) rfl (w0 rfl) ?_
      exact tl_done ⟨_,rfl,rfl,Ext.refl _⟩
    · refine ⟨_,rfl,?_⟩
      refine s_load (v := .int .i8 x.k) F_o127 (ej rfl (Tr.g hx_ 1 (by decide))) (cell_of_blk (i := 0) (Ext.blk (Tr.ext hx_) (Ext.blk xd (NewB.blk n3))) rfl) (w0 rfl) ?_
      exact tl_done ⟨_,rfl,rfl,Ext.refl _⟩
    · refine ⟨_,rfl,?_⟩
      refine s_indexA (j := x.k.toNat) F_ar161 ev_g (ej rfl (Tr.g hx_ 2 (by decide))) (by omega) (by omega) (w0 rfl) ?_
      exact tl_done ⟨_,rfl,rfl,Ext.refl _⟩
    · refine ⟨_,rfl,?_⟩
      refine s_load (v := .string (foldB x.k)) F_o9 (ej rfl (Tr.g hx_ 3 (by decide))) (FoldT.at_ (FoldT.ext tf (Ext.trans (Ext.trans (Ext.trans x0 (NewB.ext n3)) xd) (Tr.ext hx_))) F_gn4 (by omega)) (w0 rfl) ?_
      exact tl_done ⟨_,rfl,rfl,Ext.refl _⟩
    · refine ⟨_,rfl,?_⟩
      refine s_field (off := 1) (o' := 1) F_f129_1 (ej rfl ((Tr.env hx_ 3 (by decide)).trans rfl)) rfl (w0 rfl) ?_
      exact tl_done ⟨_,rfl,rfl,Ext.refl _⟩
    · refine ⟨_,rfl,?_⟩
      refine s_field (off := 0) (o' := 1) F_f33_0 (ej rfl (Tr.g hx_ 5 (by decide))) rfl (w0 rfl) ?_
      exact tl_done ⟨_,rfl,rfl,Ext.refl _⟩
    · refine ⟨_,rfl,?_⟩
      refine s_load (v := .string x.t.v) F_o9 (ej rfl (Tr.g hx_ 6 (by decide))) (cell_of_blk (i := 1) (Ext.blk (Tr.ext hx_) (Ext.blk xd (NewB.blk n3))) rfl) (w0 rfl) ?_
      exact tl_done ⟨_,rfl,rfl,Ext.refl _⟩
    refine ⟨_,rfl,?_⟩
    refine s_bslice (vs := [(0,.string (foldB x.k)),(1,.string (⟨#[40]⟩ : ByteArray)),(2,.string x.t.v),(3,.string (⟨#[41]⟩ : ByteArray))]) (cs := #[.string (foldB x.k),.string (⟨#[40]⟩ : ByteArray),.string x.t.v,.string (⟨#[41]⟩ : ByteArray)]) (b4 (ej rfl (Tr.g hx_ 4 (by decide))) ev_c (ej rfl (Tr.g hx_ 7 (by decide))) ev_c) (bs106_4_0s_1s_2s_3s (foldB x.k) (⟨#[40]⟩ : ByteArray) x.t.v (⟨#[41]⟩ : ByteArray)) (w0 rfl) ?_
    intro w14 g13 n15
    have ne_g13 : g13 ≠ g := by have a_ := NewB.eq n15; have b_ := BW.lt (BW.ext (BW.ext (BW.ext hb (NewB.ext n3)) xd) (Tr.ext hx_)); omega
    exact tl_done ⟨_,rfl,⟨g13,rfl,n15⟩,(NewB.ext n15)⟩
  intro wd xd env_ B_ A_ w_ hx_
  obtain ⟨g13,e16,n17⟩ := Tr.g hx_ 8 (by decide)
  replace e16 : env_ 14 = _ := e16
  have ne_g13 : g13 ≠ g := by have a_ := NewB.eq n17; have b_ := BW.lt (BW.ext hb (NewB.ext n3)); have c_ := Keep.size (Ext.trans xd (Tr.x0 hx_ 8 (by decide))); omega
  refine tl_cons ?_
  refine s_call F_e54 (w0 rfl) ev_f (m2 (ej rfl (Tr.g hx_ 0 (by decide))) (ej rfl e16)) (args := #[.pointer (some ⟨g,0,none⟩),.slice (some ⟨g13,0,none⟩) 4 4]) rfl (p_put 97 _ g g13 (s0) [foldB x.k,(⟨#[40]⟩ : ByteArray),x.t.v,(⟨#[41]⟩ : ByteArray)] _ (BW.ext (BW.ext (BW.ext hb (NewB.ext n3)) xd) (Tr.ext hx_)) (Nat.le_trans (Nat.le_trans (Nat.le_trans hB_ (Keep.size (NewB.ext n3))) (Keep.size xd)) (Keep.size (Tr.ext hx_))) (by decide) F_lies97 (Ext.blk (Tr.x2 hx_ 8 (by decide)) (NewB.blk n17)) (by simp only [catL,ByteArray.size_append,z0,z1,z2,z3,z4,z5,z6,z7]; omega) (by simp)) ?_
  rintro _ w18 ⟨rfl,wr19⟩
  refine tl_done ⟨trivial,?_⟩
  refine tl_nil ?_
  refine n_block (ret0 rfl ?_)
  exact ⟨_,rfl,rfl,Wr.cast (Wr.then_ (Wr.of_ext hb (Ext.trans (Ext.trans (NewB.ext n3) xd) (Tr.ext hx_)) hB_) wr19) (by unfold argW; first | (rw [if_pos (by omega)]; simp only [catL,app_nil]; done) | (rw [if_neg (by omega),if_pos (by omega)]; simp only [catL,app_nil,app_assoc]; done) | (rw [if_neg (by omega),if_neg (by omega)]; done))⟩
theorem p_columnsR (nm : ByteArray) (n : Nat) (l : List ByteArray) (g p1 p2 : Nat) (s0 : ByteArray) (wz : World) (w : World) (x0 : Ext wz w) (tb : Tabs Tryz.prog wz) (hb : BW 5 97 wz.heap.size w g s0) (hnl : n = l.length) (hn : l.length ≤ 24) (hM : ∀ i,i < l.length → (l.getD i ⟨#[]⟩).size ≤ 1000) (hs : s0.size + nm.size + 30000 ≤ 100000000000000) (hone : ∀ (i : Nat) (w' : World) (s1 : ByteArray),i < l.length → Ext wz w' → Bld 5 g w w' → BW 5 97 wz.heap.size w' g s1 → s1.size ≤ 100000000000000 → Rt Tryz.prog 91 #[.int .i64 ((i : Nat) : Int),.pointer (some ⟨p1,0,none⟩),.pointer (some ⟨p2,0,none⟩)] w' fun v w2 => v = .tuple #[] ∧ Wr 5 97 wz.heap.size g (s1 ++ l.getD i ⟨#[]⟩) w' w2) :
    Rt Tryz.prog 69 #[.pointer (some ⟨g,0,none⟩),.string nm,.int .i64 ((n : Nat) : Int),.func (.func 91) #[] #[.pointer (some ⟨p1,0,none⟩),.pointer (some ⟨p2,0,none⟩)]] w fun v w' => v = .tuple #[] ∧ Wr 5 97 wz.heap.size g (s0 ++ colW nm l) w w' := by
  refine enter Tryz.func69 rfl (l := [.pointer (some ⟨g,0,none⟩),.string nm,.int .i64 ((n : Nat) : Int),.func (.func 91) #[] #[.pointer (some ⟨p1,0,none⟩),.pointer (some ⟨p2,0,none⟩)]]) rfl Tryz.ntmps69 (Nat.le_of_ble_eq_true rfl) ?_
  subst hnl
  have hB_ := Keep.size x0
  refine c_seq (c_reg (s_move (v := .pointer (some ⟨g,0,none⟩)) (ej rfl rfl) (w0 rfl) (s_move (v := .string nm) (ej rfl rfl) (w0 rfl) (s_bslice (vs := [(0,.string nm)]) (cs := #[.string nm]) (b1 (ej rfl rfl)) (bs106_1_0s nm) (w0 rfl) ?_))))
  intro w2 g1 n3
  have ne_g1 : g1 ≠ g := by have a_ := NewB.eq n3; have b_ := BW.lt hb; omega
  refine s_call F_e54 (w0 rfl) ev_f (m2 (ej rfl rfl) (ej rfl rfl)) (args := #[.pointer (some ⟨g,0,none⟩),.slice (some ⟨g1,0,none⟩) 1 1]) rfl (p_put 97 _ g g1 (s0) [nm] _ (BW.ext hb (NewB.ext n3)) (Nat.le_trans hB_ (Keep.size (NewB.ext n3))) (by decide) F_lies97 (NewB.blk n3) (by simp only [catL,ByteArray.size_append,z0,z1,z2,z3,z4,z5,z6]; omega) (by simp)) ?_
  rintro _ w4 ⟨rfl,wr5⟩
  refine c_done (n_then (c_seq (c_seq (c_reg (s_move (v := .int .i64 ((l.length : Nat) : Int)) (ej rfl rfl) (w0 rfl) (s_move (v := .int .i64 0) ev_c (w0 rfl) (c_done (n_then (c_block (c_loop (α := Nat) (fun (i : Nat) env_ w_ => Wr 5 97 wz.heap.size g (s0 ++ nm ++ colP l i) w w_ ∧ i ≤ l.length ∧ env_ 0 = .pointer (some ⟨g,0,none⟩) ∧ env_ 2 = .int .i64 ((l.length : Nat) : Int) ∧ env_ 3 = .func (.func 91) #[] #[.pointer (some ⟨p1,0,none⟩),.pointer (some ⟨p2,0,none⟩)] ∧ env_ 13 = .int .i64 ((l.length : Nat) : Int) ∧ env_ 14 = .int .i64 ((i : Nat) : Int)) (fun i => l.length - i) (0) ⟨(Wr.cast (Wr.then_ (Wr.of_ext hb (NewB.ext n3) hB_) wr5) (by simp [catL,app_nil,colP])),Nat.zero_le _,rfl,rfl,rfl,rfl,rfl⟩ ?_))))))))))
  rintro i env8 w6 ⟨x7,i9,e10,e11,e12,e13,e14⟩
  have hP_ := colP_le hM i i9
  have hM2_ := hM i
  refine c_seq (c_reg (s_cmp (r := decide (((i : Nat) : Int) < ((l.length : Nat) : Int))) (ej rfl e14) (ej rfl e13) rfl (w0 rfl) (c_done (n_then (c_seq ?_)))))
  by_cases h15 : ((i : Nat) : Int) < ((l.length : Nat) : Int)
  · refine c_cond1 (vb (ej rfl rfl) (decide_eq_true h15)) (c_skip (n_then (c_seq (c_block (c_seq (c_reg (s_move (v := .int .i64 ((i : Nat) : Int)) (ej rfl e14) (w0 rfl) (s_assign (v := .int .i64 ((i : Nat) : Int)) (ej rfl rfl) (w0 rfl) (c_done (n_then (c_seq ?_)))))))))))
    refine c_seq (c_reg (s_move (v := .int .i64 ((i : Nat) : Int)) (ej rfl rfl) (w0 rfl) (s_cmp (r := decide (((i : Nat) : Int) = 0)) (ej rfl rfl) ev_c rfl (w0 rfl) (c_done (n_then ?_)))))
    by_cases h16 : ((i : Nat) : Int) = 0
    · refine c_cond1 (vb (ej rfl rfl) (decide_eq_true h16)) (c_reg (s_move (v := .pointer (some ⟨g,0,none⟩)) (ej rfl e10) (w0 rfl) (s_bslice (vs := [(0,.string (⟨#[40]⟩ : ByteArray))]) (cs := #[.string (⟨#[40]⟩ : ByteArray)]) (b1 ev_c) (bs106_1_0s (⟨#[40]⟩ : ByteArray)) (w0 rfl) ?_)))
      intro w18 g17 n19
      have ne_g17 : g17 ≠ g := by have a_ := NewB.eq n19; have b_ := BW.lt (Wr.bw x7); omega
      refine s_call F_e54 (w0 rfl) ev_f (m2 (ej rfl rfl) (ej rfl rfl)) (args := #[.pointer (some ⟨g,0,none⟩),.slice (some ⟨g17,0,none⟩) 1 1]) rfl (p_put 97 _ g g17 (s0 ++ nm ++ colP l i) [(⟨#[40]⟩ : ByteArray)] _ (BW.ext (Wr.bw x7) (NewB.ext n19)) (Nat.le_trans (Nat.le_trans hB_ (Wr.size x7)) (Keep.size (NewB.ext n19))) (by decide) F_lies97 (NewB.blk n19) (by simp only [catL,ByteArray.size_append,z0,z1,z2,z3,z4,z5,z6]; omega) (by simp)) ?_
      rintro _ w20 ⟨rfl,wr21⟩
      refine c_done (n_then (c_reg (s_move (v := .func (.func 91) #[] #[.pointer (some ⟨p1,0,none⟩),.pointer (some ⟨p2,0,none⟩)]) (ej rfl e12) (w0 rfl) (s_move (v := .int .i64 ((i : Nat) : Int)) (ej rfl rfl) (w0 rfl) (s_call F_e91 (w0 rfl) (ej rfl rfl) (m1 (ej rfl rfl)) (args := #[.int .i64 ((i : Nat) : Int),.pointer (some ⟨p1,0,none⟩),.pointer (some ⟨p2,0,none⟩)]) rfl (hone i _ (s0 ++ nm ++ colP l i ++ (catL [(⟨#[40]⟩ : ByteArray)])) (by omega) (Wr.after wr21 (Ext.trans (Wr.after x7 x0 rfl) (NewB.ext n19)) rfl) (Wr.bld (Wr.then_ (Wr.ext x7 (NewB.ext n19) hB_) wr21)) (Wr.bw wr21) (by simp only [catL,ByteArray.size_append,z0,z1,z2]; omega)) ?_)))))
      rintro _ w22 ⟨rfl,wr23⟩
      refine c_done (n_block (n_then (c_reg (s_add (r := ((i + 1 : Nat) : Int)) (ej rfl e14) ev_c (by omega) (by omega) (w0 rfl) (s_move (v := .int .i64 ((i + 1 : Nat) : Int)) (ej rfl rfl) (w0 rfl) (c_done ?_))))))
      exact ⟨(i + 1),_,rfl,⟨(Wr.cast (Wr.then_ (Wr.then_ (Wr.ext x7 (NewB.ext n19) hB_) wr21) wr23) (by simp only [colP]; (first | rw [if_pos (by omega)] | rw [if_neg (by omega)]); simp only [catL,app_nil,app_assoc])),by omega,e10,e11,e12,e13,rfl⟩,(show l.length - (i + 1) < l.length - i by omega)⟩
    refine c_cond0 (vb (ej rfl rfl) (decide_eq_false h16)) (c_reg (s_move (v := .pointer (some ⟨g,0,none⟩)) (ej rfl e10) (w0 rfl) (s_bslice (vs := [(0,.string (⟨#[44,32]⟩ : ByteArray))]) (cs := #[.string (⟨#[44,32]⟩ : ByteArray)]) (b1 ev_c) (bs106_1_0s (⟨#[44,32]⟩ : ByteArray)) (w0 rfl) ?_)))
    intro w25 g24 n26
    have ne_g24 : g24 ≠ g := by have a_ := NewB.eq n26; have b_ := BW.lt (Wr.bw x7); omega
    refine s_call F_e54 (w0 rfl) ev_f (m2 (ej rfl rfl) (ej rfl rfl)) (args := #[.pointer (some ⟨g,0,none⟩),.slice (some ⟨g24,0,none⟩) 1 1]) rfl (p_put 97 _ g g24 (s0 ++ nm ++ colP l i) [(⟨#[44,32]⟩ : ByteArray)] _ (BW.ext (Wr.bw x7) (NewB.ext n26)) (Nat.le_trans (Nat.le_trans hB_ (Wr.size x7)) (Keep.size (NewB.ext n26))) (by decide) F_lies97 (NewB.blk n26) (by simp only [catL,ByteArray.size_append,z0,z1,z2,z3,z4,z5,z6]; omega) (by simp)) ?_
    rintro _ w27 ⟨rfl,wr28⟩
    refine c_done (n_then (c_reg (s_move (v := .func (.func 91) #[] #[.pointer (some ⟨p1,0,none⟩),.pointer (some ⟨p2,0,none⟩)]) (ej rfl e12) (w0 rfl) (s_move (v := .int .i64 ((i : Nat) : Int)) (ej rfl rfl) (w0 rfl) (s_call F_e91 (w0 rfl) (ej rfl rfl) (m1 (ej rfl rfl)) (args := #[.int .i64 ((i : Nat) : Int),.pointer (some ⟨p1,0,none⟩),.pointer (some ⟨p2,0,none⟩)]) rfl (hone i _ (s0 ++ nm ++ colP l i ++ (catL [(⟨#[44,32]⟩ : ByteArray)])) (by omega) (Wr.after wr28 (Ext.trans (Wr.after x7 x0 rfl) (NewB.ext n26)) rfl) (Wr.bld (Wr.then_ (Wr.ext x7 (NewB.ext n26) hB_) wr28)) (Wr.bw wr28) (by simp only [catL,ByteArray.size_append,z0,z1,z2]; omega)) ?_)))))
    rintro _ w29 ⟨rfl,wr30⟩
    refine c_done (n_block (n_then (c_reg (s_add (r := ((i + 1 : Nat) : Int)) (ej rfl e14) ev_c (by omega) (by omega) (w0 rfl) (s_move (v := .int .i64 ((i + 1 : Nat) : Int)) (ej rfl rfl) (w0 rfl) (c_done ?_))))))
    exact ⟨(i + 1),_,rfl,⟨(Wr.cast (Wr.then_ (Wr.then_ (Wr.ext x7 (NewB.ext n26) hB_) wr28) wr30) (by simp only [colP]; (first | rw [if_pos (by omega)] | rw [if_neg (by omega)]); simp only [catL,app_nil,app_assoc])),by omega,e10,e11,e12,e13,rfl⟩,(show l.length - (i + 1) < l.length - i by omega)⟩
  refine c_cond0 (vb (ej rfl rfl) (decide_eq_false h15)) (c_exit (e_then (e_then (e_hit (n_then (c_seq (c_reg (s_move (v := .int .i64 ((l.length : Nat) : Int)) (ej rfl e11) (w0 rfl) (s_cmp (r := decide (0 < ((l.length : Nat) : Int))) (ej rfl rfl) ev_c rfl (w0 rfl) (c_done (n_then ?_)))))))))))
  by_cases h31 : 0 < ((l.length : Nat) : Int)
  · refine c_cond1 (vb (ej rfl rfl) (decide_eq_true h31)) (c_reg (s_move (v := .pointer (some ⟨g,0,none⟩)) (ej rfl e10) (w0 rfl) (s_bslice (vs := [(0,.string (⟨#[41]⟩ : ByteArray))]) (cs := #[.string (⟨#[41]⟩ : ByteArray)]) (b1 ev_c) (bs106_1_0s (⟨#[41]⟩ : ByteArray)) (w0 rfl) ?_)))
    intro w33 g32 n34
    have ne_g32 : g32 ≠ g := by have a_ := NewB.eq n34; have b_ := BW.lt (Wr.bw x7); omega
    refine s_call F_e54 (w0 rfl) ev_f (m2 (ej rfl rfl) (ej rfl rfl)) (args := #[.pointer (some ⟨g,0,none⟩),.slice (some ⟨g32,0,none⟩) 1 1]) rfl (p_put 97 _ g g32 (s0 ++ nm ++ colP l i) [(⟨#[41]⟩ : ByteArray)] _ (BW.ext (Wr.bw x7) (NewB.ext n34)) (Nat.le_trans (Nat.le_trans hB_ (Wr.size x7)) (Keep.size (NewB.ext n34))) (by decide) F_lies97 (NewB.blk n34) (by simp only [catL,ByteArray.size_append,z0,z1,z2,z3,z4,z5,z6]; omega) (by simp)) ?_
    rintro _ w35 ⟨rfl,wr36⟩
    refine c_done (ret0 rfl ?_)
    exact ⟨_,rfl,rfl,Wr.cast (Wr.then_ (Wr.ext x7 (NewB.ext n34) hB_) wr36) (by (have e_ : i = l.length := by omega); subst e_; unfold colW; first | (rw [if_neg (by omega)]; simp only [catL,app_nil,app_assoc]; done) | ((have e2_ : l.length = 0 := by omega); rw [if_pos e2_,e2_]; simp [colP,app_nil]))⟩
  refine c_cond0 (vb (ej rfl rfl) (decide_eq_false h31)) (c_skip (ret0 rfl ?_))
  exact ⟨_,rfl,rfl,Wr.cast x7 (by (have e_ : i = l.length := by omega); subst e_; unfold colW; first | (rw [if_neg (by omega)]; simp only [catL,app_nil,app_assoc]; done) | ((have e2_ : l.length = 0 := by omega); rw [if_pos e2_,e2_]; simp [colP,app_nil]))⟩
theorem p_rule1 (i : Nat) (x : Ru) (Ah Ab : Option Addr) (ch cb g p1 p2 : Nat) (s0 : ByteArray) (wz : World) (w : World) (x0 : Ext wz w) (tb : Tabs Tryz.prog wz) (hb : BW 5 97 wz.heap.size w g s0) (tf : FoldT Tryz.prog wz) (hrh : Row RG 5 wz Ah x.head) (hp1 : w.heap[p1]? = some (.cells #[.pointer (some ⟨g,0,none⟩)] 73 (0,0))) (hp2 : w.heap[p2]? = some (.cells #[.string x.p,.slice Ah x.head.length ch,.slice Ab x.body.length cb] 53 (0,0))) (hi : i < x.head.length) (hv : argB (agAt x.head i) = true) (hs : s0.size ≤ 100000000000000) :
    Rt Tryz.prog 91 #[.int .i64 ((i : Nat) : Int),.pointer (some ⟨p1,0,none⟩),.pointer (some ⟨p2,0,none⟩)] w fun v w' => v = .tuple #[] ∧ Wr 5 97 wz.heap.size g (s0 ++ argW (agAt x.head i)) w w' := by
  refine enter Tryz.func91 rfl (l := [.int .i64 ((i : Nat) : Int),.pointer (some ⟨p1,0,none⟩),.pointer (some ⟨p2,0,none⟩)]) rfl Tryz.ntmps91 (Nat.le_of_ble_eq_true rfl) ?_
  have hB_ := Keep.size x0
  have hag := hv
  refine c_tail 6 mixed (by kernel_rfl) rfl rfl ?_
  intro w1 x2
  refine t_val (v := .pointer (some ⟨g,0,none⟩)) (w0 rfl) (r_load (v := .pointer (some ⟨g,0,none⟩)) F_o73 (ej rfl rfl) (cell_of_blk (i := 0) (Ext.blk x2 hp1) rfl)) (t_val (v := .pointer (some ⟨p2,1,none⟩)) (w0 rfl) (r_field (off := 1) (o' := 1) F_f53_1 (ej rfl rfl) rfl) (t_val (v := .slice Ah x.head.length ch) (w0 rfl) (r_load (v := .slice Ah x.head.length ch) F_o51 (ej rfl rfl) (cell_of_blk (i := 1) (Ext.blk x2 hp2) rfl)) (t_val (v := .int .i64 ((i : Nat) : Int)) (w0 rfl) (r_move (v := .int .i64 ((i : Nat) : Int)) (ej rfl rfl)) ?_)))
  obtain ⟨b3,o4,x5,csx5,hA6,hx7,hR8,hc9⟩ := Row.at_ hrh i (by omega)
  obtain rfl := agAt_of hx7
  obtain ⟨rfl,wf10⟩ := hR8
  refine t_val (v := .pointer (some ⟨b3,o4 + i * 5,none⟩)) (w0 rfl) (r_indexR (j := i) F_l51 (ej rfl rfl) hA6 (ej rfl rfl) rfl (by omega)) (t_val (v := .agg #[.int .i8 ((agAt x.head i).k),.string ((agAt x.head i).t.v),.int .i8 ((agAt x.head i).t.l.k),.int .i64 ((agAt x.head i).t.l.n),.string ((agAt x.head i).t.l.s)]) (w0 rfl) (r_loadL (cs := [.int .i8 ((agAt x.head i).k),.string ((agAt x.head i).t.v),.int .i8 ((agAt x.head i).t.l.k),.int .i64 ((agAt x.head i).t.l.n),.string ((agAt x.head i).t.l.s)]) F_m129 (ej rfl rfl) rfl rfl (sub_cells (cells_ext x2 (cells_ext x0 hc9)) 0 rfl)) (t_done (s_call F_e92 (w0 rfl) ev_f (m2 (ej rfl rfl) (ej rfl rfl)) (args := #[.pointer (some ⟨g,0,none⟩),.agg #[.int .i8 ((agAt x.head i).k),.string ((agAt x.head i).t.v),.int .i8 ((agAt x.head i).t.l.k),.int .i64 ((agAt x.head i).t.l.n),.string ((agAt x.head i).t.l.s)]]) rfl (p_arg (agAt x.head i) g (s0) wz _ (Ext.trans x0 x2) tb (BW.ext hb x2) tf wf10 hag (by omega)) ?_)))
  rintro _ w11 ⟨rfl,wr12⟩
  refine c_done (ret0 rfl ?_)
  exact ⟨_,rfl,rfl,Wr.cast (Wr.then_ (Wr.of_ext hb x2 hB_) wr12) (rfl)⟩
theorem p_rule (x : Ru) (Ah Ab : Option Addr) (ch cb : Nat) (g : Nat) (s0 : ByteArray) (wz : World) (w : World) (x0 : Ext wz w) (tb : Tabs Tryz.prog wz) (hb : BW 5 97 wz.heap.size w g s0) (ho : x.okc ch cb) (hrh : Row RG 5 wz Ah x.head) (hrb : Row RL 16 wz Ab x.body) (hru : ruB x = true) (tr : RelT Tryz.prog wz) (tf : FoldT Tryz.prog wz) (hs : s0.size + 9000000 ≤ 90000000000000) :
    Rt Tryz.prog 50 #[.pointer (some ⟨g,0,none⟩),.agg #[.string x.p,.slice Ah x.head.length ch,.slice Ab x.body.length cb]] w fun v w' => v = .tuple #[] ∧ Wr 5 97 wz.heap.size g (s0 ++ ruW x) w w' := by
  refine enter Tryz.func50 rfl (l := [.pointer (some ⟨g,0,none⟩),.agg #[.string x.p,.slice Ah x.head.length ch,.slice Ab x.body.length cb]]) rfl Tryz.ntmps50 (Nat.le_of_ble_eq_true rfl) ?_
  have hB_ := Keep.size x0
  have hpr_ := Ru.okc.p ho
  have hhl_ := Ru.okc.hl ho
  have hhc_ := Ru.okc.hc ho
  have hbl_ := Ru.okc.bl ho
  have hbc_ := Ru.okc.bc ho
  obtain ⟨hnm_,hpz_,h24_,h16_,hha_,hlb_⟩ := ruB_parts hru
  have hcw_ := headW_size hru hrh
  refine c_seq (c_reg (s_box (v := .pointer (some ⟨g,0,none⟩)) (cs := #[.pointer (some ⟨g,0,none⟩)]) (w0 rfl) (ej rfl rfl) rfl ?_))
  intro w2 g1 n3
  have ne_g1 : g1 ≠ g := by have a_ := NewB.eq n3; have b_ := BW.lt hb; omega
  refine s_box (v := .agg #[.string x.p,.slice Ah x.head.length ch,.slice Ab x.body.length cb]) (cs := #[.string x.p,.slice Ah x.head.length ch,.slice Ab x.body.length cb]) (w0 rfl) (ej rfl rfl) rfl ?_
  intro w5 g4 n6
  have ne_g4 : g4 ≠ g := by have a_ := NewB.eq n6; have b_ := BW.lt (BW.ext hb (NewB.ext n3)); omega
  refine c_done (n_then (c_seq (c_reg (s_load (v := .pointer (some ⟨g,0,none⟩)) F_o73 (ej rfl rfl) (cell_of_blk (i := 0) (Ext.blk (NewB.ext n6) (NewB.blk n3)) rfl) (w0 rfl) (s_field (off := 0) (o' := 0) F_f53_0 (ej rfl rfl) rfl (w0 rfl) (s_load (v := .string x.p) F_o9 (ej rfl rfl) (cell_of_blk (i := 0) (NewB.blk n6) rfl) (w0 rfl) (s_field (off := 1) (o' := 1) F_f53_1 (ej rfl rfl) rfl (w0 rfl) (s_load (v := .slice Ah x.head.length ch) F_o51 (ej rfl rfl) (cell_of_blk (i := 1) (NewB.blk n6) rfl) (w0 rfl) (s_lenL F_l51 (ej rfl rfl) (w0 rfl) (s_makeFunc (vf := #[]) (vc := #[.pointer (some ⟨g1,0,none⟩),.pointer (some ⟨g4,0,none⟩)]) m0 (m2 (ej rfl rfl) (ej rfl rfl)) (w0 rfl) (s_call F_e69 (w0 rfl) ev_f (m4 (ej rfl rfl) (ej rfl rfl) (ej rfl rfl) (ej rfl rfl)) (args := #[.pointer (some ⟨g,0,none⟩),.string x.p,.int .i64 (x.head.length : Int),.func (.func 91) #[] #[.pointer (some ⟨g1,0,none⟩),.pointer (some ⟨g4,0,none⟩)]]) rfl (p_columnsR x.p _ (x.head.map argW) g g1 g4 (s0) wz _ (Ext.trans (Ext.trans x0 (NewB.ext n3)) (NewB.ext n6)) tb (BW.ext (BW.ext hb (NewB.ext n3)) (NewB.ext n6)) (by rw [List.length_map]) (by rw [List.length_map]; exact h24_) (fun i_ hi_ => by rw [List.length_map] at hi_; rw [argW_at hi_]; have z_ := argW_size (hha_ i_ hi_) (RG_wf hrh hi_); omega) (by omega) (fun i_ w_ s_ hi_ x_ bl_ hb_ hs_ => by rw [List.length_map] at hi_; rw [argW_at hi_]; exact p_rule1 i_ x Ah Ab ch cb g g1 g4 s_ wz w_ x_ tb hb_ tf hrh (Bld.blk bl_ (Ext.blk (NewB.ext n6) (NewB.blk n3)) (Or.inl (by decide)) ne_g1) (Bld.blk bl_ (NewB.blk n6) (Or.inl (by decide)) ne_g4) hi_ (hha_ i_ hi_) hs_)) ?_)))))))))))
  rintro _ w7 ⟨rfl,wr8⟩
  refine c_done (n_then (c_seq (c_seq (c_reg (s_field (off := 2) (o' := 2) F_f53_2 (ej rfl rfl) rfl (w0 rfl) (s_load (v := .slice Ab x.body.length cb) F_o40 (ej rfl rfl) (cell_of_blk (i := 2) (Wr.blk wr8 (NewB.blk n6) (Or.inl (by decide)) ne_g4) rfl) (w0 rfl) (s_lenL F_l40 (ej rfl rfl) (w0 rfl) (s_move (v := .int .i64 0) ev_c (w0 rfl) (c_done (n_then (c_block ?_)))))))))))
  have ge9 : wz.heap.size ≤ g1 := by have a_ := NewB.eq n3; have b_ := Keep.size x0; omega
  refine c_loop (α := Nat) (fun (k : Nat) env_ w_ => Wr 5 97 wz.heap.size g (s0 ++ colW x.p (x.head.map argW) ++ ruP x.body k) w w_ ∧ w_.heap[g1]? = some (.cells #[.pointer (some ⟨g,0,none⟩)] 73 (0,0)) ∧ k ≤ x.body.length ∧ env_ 2 = .pointer (some ⟨g1,0,none⟩) ∧ env_ 15 = .slice Ab x.body.length cb ∧ env_ 16 = .int .i64 (x.body.length : Int) ∧ env_ 17 = .int .i64 ((k : Nat) : Int)) (fun k => x.body.length - k) (0) ⟨(Wr.cast (Wr.then_ (Wr.of_ext hb (Ext.trans (NewB.ext n3) (NewB.ext n6)) hB_) wr8) (by simp only [ruP,app_nil])),(Wr.blk wr8 (Ext.blk (NewB.ext n6) (NewB.blk n3)) (Or.inl (by decide)) ne_g1),Nat.zero_le _,rfl,rfl,rfl,rfl⟩ ?_
  rintro k env12 w10 ⟨x11,bk18,i13,e14,e15,e16,e17⟩
  have hP_ := ruP_le hrb hlb_ k i13
  have hkb_ : k * 500004 ≤ 16 * 500004 := Nat.mul_le_mul_right _ (by omega)
  refine c_seq (c_reg (s_cmp (r := decide (((k : Nat) : Int) < (x.body.length : Int))) (ej rfl e17) (ej rfl e16) rfl (w0 rfl) (c_done (n_then (c_seq ?_)))))
  by_cases h19 : ((k : Nat) : Int) < (x.body.length : Int)
  · refine c_cond1 (vb (ej rfl rfl) (decide_eq_true h19)) (c_skip (n_then (c_seq (c_block (c_seq (c_reg (s_move (v := .int .i64 ((k : Nat) : Int)) (ej rfl e17) (w0 rfl) ?_)))))))
    obtain ⟨b20,o21,x22,csx22,hA23,hx24,hR25,hc26⟩ := Row.at_ hrb k (by omega)
    obtain rfl := ltAt_of hx24
    obtain ⟨Aa27,A28,A29,ca30,c31,c32,rfl,ho33,ra34,r35,r36⟩ := hR25
    have q37_a := Lt.okc.a ho33
    have q37_e1 := Lt.okc.e1 ho33
    have q37_e2 := Lt.okc.e2 ho33
    have := Ex.okc.l q37_e1
    have := Ex.okc.l q37_e2
    have := Ex.okc.c q37_e1
    have := Ex.okc.c q37_e2
    have := At.okc.l q37_a
    have := At.okc.c q37_a
    have := At.okc.p q37_a
    refine s_indexR (j := k) F_l40 (ej rfl e15) hA23 (ej rfl e17) rfl (by omega) (w0 rfl) (s_loadL (cs := [.int .i8 ((ltAt x.body k).k),.string ((ltAt x.body k).a.p),.slice Aa27 ((ltAt x.body k).a.args.length) ca30,.int .i8 ((ltAt x.body k).r),.int .i8 ((ltAt x.body k).e1.op),.string ((ltAt x.body k).e1.t.v),.int .i8 ((ltAt x.body k).e1.t.l.k),.int .i64 ((ltAt x.body k).e1.t.l.n),.string ((ltAt x.body k).e1.t.l.s),.slice A28 ((ltAt x.body k).e1.kids.length) c31,.int .i8 ((ltAt x.body k).e2.op),.string ((ltAt x.body k).e2.t.v),.int .i8 ((ltAt x.body k).e2.t.l.k),.int .i64 ((ltAt x.body k).e2.t.l.n),.string ((ltAt x.body k).e2.t.l.s),.slice A29 ((ltAt x.body k).e2.kids.length) c32]) F_m38 (ej rfl rfl) rfl rfl (sub_cells (cells_ext (Wr.after x11 x0 rfl) hc26) 0 rfl) (w0 rfl) (s_alloc (cs := #[.int .i8 0,.string (⟨#[]⟩ : ByteArray),.slice none 0 0,.int .i8 0,.int .i8 0,.string (⟨#[]⟩ : ByteArray),.int .i8 0,.int .i64 0,.string (⟨#[]⟩ : ByteArray),.slice none 0 0,.int .i8 0,.string (⟨#[]⟩ : ByteArray),.int .i8 0,.int .i64 0,.string (⟨#[]⟩ : ByteArray),.slice none 0 0]) (w0 rfl) F_z38 rfl ?_))
    intro w39 g38 n40
    have ne_g38 : g38 ≠ g := by have a_ := NewB.eq n40; have b_ := BW.lt (Wr.bw x11); omega
    refine s_assign (v := .int .i64 ((k : Nat) : Int)) (ej rfl rfl) (w0 rfl) (s_store (cs' := #[.int .i8 ((ltAt x.body k).k),.string ((ltAt x.body k).a.p),.slice Aa27 ((ltAt x.body k).a.args.length) ca30,.int .i8 ((ltAt x.body k).r),.int .i8 ((ltAt x.body k).e1.op),.string ((ltAt x.body k).e1.t.v),.int .i8 ((ltAt x.body k).e1.t.l.k),.int .i64 ((ltAt x.body k).e1.t.l.n),.string ((ltAt x.body k).e1.t.l.s),.slice A28 ((ltAt x.body k).e1.kids.length) c31,.int .i8 ((ltAt x.body k).e2.op),.string ((ltAt x.body k).e2.t.v),.int .i8 ((ltAt x.body k).e2.t.l.k),.int .i64 ((ltAt x.body k).e2.t.l.n),.string ((ltAt x.body k).e2.t.l.s),.slice A29 ((ltAt x.body k).e2.kids.length) c32]) F_sz38 (ej rfl rfl) (ej rfl rfl) (l := [.int .i8 ((ltAt x.body k).k),.string ((ltAt x.body k).a.p),.slice Aa27 ((ltAt x.body k).a.args.length) ca30,.int .i8 ((ltAt x.body k).r),.int .i8 ((ltAt x.body k).e1.op),.string ((ltAt x.body k).e1.t.v),.int .i8 ((ltAt x.body k).e1.t.l.k),.int .i64 ((ltAt x.body k).e1.t.l.n),.string ((ltAt x.body k).e1.t.l.s),.slice A28 ((ltAt x.body k).e1.kids.length) c31,.int .i8 ((ltAt x.body k).e2.op),.string ((ltAt x.body k).e2.t.v),.int .i8 ((ltAt x.body k).e2.t.l.k),.int .i64 ((ltAt x.body k).e2.t.l.n),.string ((ltAt x.body k).e2.t.l.s),.slice A29 ((ltAt x.body k).e2.kids.length) c32]) rfl rfl rfl (NewB.blk n40) (Nat.le_of_ble_eq_true rfl) rfl (w0 rfl) ?_)
    intro w41 k42
    refine c_done (n_then (c_seq (c_seq (c_reg (s_move (v := .int .i64 ((k : Nat) : Int)) (ej rfl rfl) (w0 rfl) (s_cmp (r := decide (((k : Nat) : Int) = 0)) (ej rfl rfl) ev_c rfl (w0 rfl) (c_done (n_then ?_))))))))
    by_cases h43 : ((k : Nat) : Int) = 0
    · refine c_cond1 (vb (ej rfl rfl) (decide_eq_true h43)) (c_reg (s_load (v := .pointer (some ⟨g,0,none⟩)) F_o73 (ej rfl e14) (cell_of_blk (i := 0) (Ext.blk (Keep.then_ (NewB.ext n40) (Wrote.keep k42) (fun i_ hi_ h_ => by have a_ := NewB.eq n40; have b_ := Keep.size (Ext.refl w10); omega)) bk18) rfl) (w0 rfl) (s_bslice (vs := [(0,.string (⟨#[32,58,45,32]⟩ : ByteArray))]) (cs := #[.string (⟨#[32,58,45,32]⟩ : ByteArray)]) (b1 ev_c) (bs106_1_0s (⟨#[32,58,45,32]⟩ : ByteArray)) (w0 rfl) ?_)))
      intro w45 g44 n46
      have ne_g44 : g44 ≠ g := by have a_ := NewB.eq n46; have b_ := BW.lt (BW.ext (Wr.bw x11) (Keep.then_ (NewB.ext n40) (Wrote.keep k42) (fun i_ hi_ h_ => by have a_ := NewB.eq n40; have b_ := Keep.size (Ext.refl w10); omega))); omega
      refine s_call F_e54 (w0 rfl) ev_f (m2 (ej rfl rfl) (ej rfl rfl)) (args := #[.pointer (some ⟨g,0,none⟩),.slice (some ⟨g44,0,none⟩) 1 1]) rfl (p_put 97 _ g g44 (s0 ++ colW x.p (x.head.map argW) ++ ruP x.body k) [(⟨#[32,58,45,32]⟩ : ByteArray)] _ (BW.ext (Wr.bw x11) (Ext.trans (Keep.then_ (NewB.ext n40) (Wrote.keep k42) (fun i_ hi_ h_ => by have a_ := NewB.eq n40; have b_ := Keep.size (Ext.refl w10); omega)) (NewB.ext n46))) (Nat.le_trans (Nat.le_trans (Nat.le_trans (Nat.le_trans hB_ (Wr.size x11)) (Keep.size (NewB.ext n40))) (Keep.size (Wrote.keep k42))) (Keep.size (NewB.ext n46))) (by decide) F_lies97 (NewB.blk n46) (by simp only [catL,ByteArray.size_append,z0,z1,z2,z3,z4,z5,z6,z7]; omega) (by simp)) ?_
      rintro _ w47 ⟨rfl,wr48⟩
      refine c_done (n_then (c_reg (s_load (v := .pointer (some ⟨g,0,none⟩)) F_o73 (ej rfl e14) (cell_of_blk (i := 0) (Wr.blk wr48 (Ext.blk (NewB.ext n46) (Keep.blk (Wrote.keep k42) (Ext.blk (NewB.ext n40) bk18) (by have a_ := NewB.eq n40; have b_ := lt_of_blk bk18; omega))) (Or.inl (by decide)) ne_g1) rfl) (w0 rfl) (s_loadL (cs := [.int .i8 ((ltAt x.body k).k),.string ((ltAt x.body k).a.p),.slice Aa27 ((ltAt x.body k).a.args.length) ca30,.int .i8 ((ltAt x.body k).r),.int .i8 ((ltAt x.body k).e1.op),.string ((ltAt x.body k).e1.t.v),.int .i8 ((ltAt x.body k).e1.t.l.k),.int .i64 ((ltAt x.body k).e1.t.l.n),.string ((ltAt x.body k).e1.t.l.s),.slice A28 ((ltAt x.body k).e1.kids.length) c31,.int .i8 ((ltAt x.body k).e2.op),.string ((ltAt x.body k).e2.t.v),.int .i8 ((ltAt x.body k).e2.t.l.k),.int .i64 ((ltAt x.body k).e2.t.l.n),.string ((ltAt x.body k).e2.t.l.s),.slice A29 ((ltAt x.body k).e2.kids.length) c32]) F_m38 (ej rfl rfl) rfl rfl (blk_cells (Wr.blk wr48 (Ext.blk (NewB.ext n46) (Wrote.blk k42)) (Or.inl (by decide)) ne_g38) 0 rfl) (w0 rfl) ?_))))
      have hz49 := ltW_at hrb hlb_ (i := k) (by omega)
      refine s_call F_e40 (w0 rfl) ev_f (m2 (ej rfl rfl) (ej rfl rfl)) (args := #[.pointer (some ⟨g,0,none⟩),.agg #[.int .i8 ((ltAt x.body k).k),.string ((ltAt x.body k).a.p),.slice Aa27 ((ltAt x.body k).a.args.length) ca30,.int .i8 ((ltAt x.body k).r),.int .i8 ((ltAt x.body k).e1.op),.string ((ltAt x.body k).e1.t.v),.int .i8 ((ltAt x.body k).e1.t.l.k),.int .i64 ((ltAt x.body k).e1.t.l.n),.string ((ltAt x.body k).e1.t.l.s),.slice A28 ((ltAt x.body k).e1.kids.length) c31,.int .i8 ((ltAt x.body k).e2.op),.string ((ltAt x.body k).e2.t.v),.int .i8 ((ltAt x.body k).e2.t.l.k),.int .i64 ((ltAt x.body k).e2.t.l.n),.string ((ltAt x.body k).e2.t.l.s),.slice A29 ((ltAt x.body k).e2.kids.length) c32]]) rfl (p_literal (ltAt x.body k) Aa27 A28 A29 ca30 c31 c32 g (s0 ++ colW x.p (x.head.map argW) ++ ruP x.body k ++ (catL [(⟨#[32,58,45,32]⟩ : ByteArray)])) wz _ (Wr.after wr48 (Ext.trans (Keep.then_ (Ext.trans (Wr.after x11 x0 rfl) (NewB.ext n40)) (Wrote.keep k42) (fun i_ hi_ h_ => by have a_ := NewB.eq n40; have b_ := Keep.size (Wr.after x11 x0 rfl); omega)) (NewB.ext n46)) rfl) tb (Wr.bw wr48) ho33 ra34 r35 r36 (hlb_ k (by omega)) tr (by (try simp only [ByteArray.size_append,catL,z0,z2,z4]); omega)) ?_
      rintro _ w50 ⟨rfl,wr51⟩
      refine c_done (n_block (n_then (c_reg (s_add (r := ((k + 1 : Nat) : Int)) (ej rfl e17) ev_c (by omega) (by omega) (w0 rfl) (s_move (v := .int .i64 ((k + 1 : Nat) : Int)) (ej rfl rfl) (w0 rfl) (c_done ?_))))))
      exact ⟨(k + 1),_,rfl,⟨(Wr.cast (Wr.then_ (Wr.then_ (Wr.ext x11 (Ext.trans (Keep.then_ (NewB.ext n40) (Wrote.keep k42) (fun i_ hi_ h_ => by have a_ := NewB.eq n40; have b_ := Keep.size (Ext.refl w10); omega)) (NewB.ext n46)) hB_) wr48) wr51) (by simp only [ruP]; (first | rw [if_pos (by omega)] | rw [if_neg (by omega)]); simp only [catL,app_nil,app_assoc])),(Wr.blk wr51 (Wr.blk wr48 (Ext.blk (NewB.ext n46) (Keep.blk (Wrote.keep k42) (Ext.blk (NewB.ext n40) bk18) (by have a_ := NewB.eq n40; have b_ := lt_of_blk bk18; omega))) (Or.inl (by decide)) ne_g1) (Or.inl (by decide)) ne_g1),by omega,e14,e15,e16,rfl⟩,(show x.body.length - (k + 1) < x.body.length - k by omega)⟩
    refine c_cond0 (vb (ej rfl rfl) (decide_eq_false h43)) (c_reg (s_load (v := .pointer (some ⟨g,0,none⟩)) F_o73 (ej rfl e14) (cell_of_blk (i := 0) (Ext.blk (Keep.then_ (NewB.ext n40) (Wrote.keep k42) (fun i_ hi_ h_ => by have a_ := NewB.eq n40; have b_ := Keep.size (Ext.refl w10); omega)) bk18) rfl) (w0 rfl) (s_bslice (vs := [(0,.string (⟨#[44,32]⟩ : ByteArray))]) (cs := #[.string (⟨#[44,32]⟩ : ByteArray)]) (b1 ev_c) (bs106_1_0s (⟨#[44,32]⟩ : ByteArray)) (w0 rfl) ?_)))
    intro w53 g52 n54
    have ne_g52 : g52 ≠ g := by have a_ := NewB.eq n54; have b_ := BW.lt (BW.ext (Wr.bw x11) (Keep.then_ (NewB.ext n40) (Wrote.keep k42) (fun i_ hi_ h_ => by have a_ := NewB.eq n40; have b_ := Keep.size (Ext.refl w10); omega))); omega
    refine s_call F_e54 (w0 rfl) ev_f (m2 (ej rfl rfl) (ej rfl rfl)) (args := #[.pointer (some ⟨g,0,none⟩),.slice (some ⟨g52,0,none⟩) 1 1]) rfl (p_put 97 _ g g52 (s0 ++ colW x.p (x.head.map argW) ++ ruP x.body k) [(⟨#[44,32]⟩ : ByteArray)] _ (BW.ext (Wr.bw x11) (Ext.trans (Keep.then_ (NewB.ext n40) (Wrote.keep k42) (fun i_ hi_ h_ => by have a_ := NewB.eq n40; have b_ := Keep.size (Ext.refl w10); omega)) (NewB.ext n54))) (Nat.le_trans (Nat.le_trans (Nat.le_trans (Nat.le_trans hB_ (Wr.size x11)) (Keep.size (NewB.ext n40))) (Keep.size (Wrote.keep k42))) (Keep.size (NewB.ext n54))) (by decide) F_lies97 (NewB.blk n54) (by simp only [catL,ByteArray.size_append,z0,z1,z2,z3,z4,z5,z6,z7]; omega) (by simp)) ?_
    rintro _ w55 ⟨rfl,wr56⟩
    refine c_done (n_then (c_reg (s_load (v := .pointer (some ⟨g,0,none⟩)) F_o73 (ej rfl e14) (cell_of_blk (i := 0) (Wr.blk wr56 (Ext.blk (NewB.ext n54) (Keep.blk (Wrote.keep k42) (Ext.blk (NewB.ext n40) bk18) (by have a_ := NewB.eq n40; have b_ := lt_of_blk bk18; omega))) (Or.inl (by decide)) ne_g1) rfl) (w0 rfl) (s_loadL (cs := [.int .i8 ((ltAt x.body k).k),.string ((ltAt x.body k).a.p),.slice Aa27 ((ltAt x.body k).a.args.length) ca30,.int .i8 ((ltAt x.body k).r),.int .i8 ((ltAt x.body k).e1.op),.string ((ltAt x.body k).e1.t.v),.int .i8 ((ltAt x.body k).e1.t.l.k),.int .i64 ((ltAt x.body k).e1.t.l.n),.string ((ltAt x.body k).e1.t.l.s),.slice A28 ((ltAt x.body k).e1.kids.length) c31,.int .i8 ((ltAt x.body k).e2.op),.string ((ltAt x.body k).e2.t.v),.int .i8 ((ltAt x.body k).e2.t.l.k),.int .i64 ((ltAt x.body k).e2.t.l.n),.string ((ltAt x.body k).e2.t.l.s),.slice A29 ((ltAt x.body k).e2.kids.length) c32]) F_m38 (ej rfl rfl) rfl rfl (blk_cells (Wr.blk wr56 (Ext.blk (NewB.ext n54) (Wrote.blk k42)) (Or.inl (by decide)) ne_g38) 0 rfl) (w0 rfl) ?_))))
    have hz57 := ltW_at hrb hlb_ (i := k) (by omega)
    refine s_call F_e40 (w0 rfl) ev_f (m2 (ej rfl rfl) (ej rfl rfl)) (args := #[.pointer (some ⟨g,0,none⟩),.agg #[.int .i8 ((ltAt x.body k).k),.string ((ltAt x.body k).a.p),.slice Aa27 ((ltAt x.body k).a.args.length) ca30,.int .i8 ((ltAt x.body k).r),.int .i8 ((ltAt x.body k).e1.op),.string ((ltAt x.body k).e1.t.v),.int .i8 ((ltAt x.body k).e1.t.l.k),.int .i64 ((ltAt x.body k).e1.t.l.n),.string ((ltAt x.body k).e1.t.l.s),.slice A28 ((ltAt x.body k).e1.kids.length) c31,.int .i8 ((ltAt x.body k).e2.op),.string ((ltAt x.body k).e2.t.v),.int .i8 ((ltAt x.body k).e2.t.l.k),.int .i64 ((ltAt x.body k).e2.t.l.n),.string ((ltAt x.body k).e2.t.l.s),.slice A29 ((ltAt x.body k).e2.kids.length) c32]]) rfl (p_literal (ltAt x.body k) Aa27 A28 A29 ca30 c31 c32 g (s0 ++ colW x.p (x.head.map argW) ++ ruP x.body k ++ (catL [(⟨#[44,32]⟩ : ByteArray)])) wz _ (Wr.after wr56 (Ext.trans (Keep.then_ (Ext.trans (Wr.after x11 x0 rfl) (NewB.ext n40)) (Wrote.keep k42) (fun i_ hi_ h_ => by have a_ := NewB.eq n40; have b_ := Keep.size (Wr.after x11 x0 rfl); omega)) (NewB.ext n54)) rfl) tb (Wr.bw wr56) ho33 ra34 r35 r36 (hlb_ k (by omega)) tr (by (try simp only [ByteArray.size_append,catL,z0,z2,z4]); omega)) ?_
    rintro _ w58 ⟨rfl,wr59⟩
    refine c_done (n_block (n_then (c_reg (s_add (r := ((k + 1 : Nat) : Int)) (ej rfl e17) ev_c (by omega) (by omega) (w0 rfl) (s_move (v := .int .i64 ((k + 1 : Nat) : Int)) (ej rfl rfl) (w0 rfl) (c_done ?_))))))
    exact ⟨(k + 1),_,rfl,⟨(Wr.cast (Wr.then_ (Wr.then_ (Wr.ext x11 (Ext.trans (Keep.then_ (NewB.ext n40) (Wrote.keep k42) (fun i_ hi_ h_ => by have a_ := NewB.eq n40; have b_ := Keep.size (Ext.refl w10); omega)) (NewB.ext n54)) hB_) wr56) wr59) (by simp only [ruP]; (first | rw [if_pos (by omega)] | rw [if_neg (by omega)]); simp only [catL,app_nil,app_assoc])),(Wr.blk wr59 (Wr.blk wr56 (Ext.blk (NewB.ext n54) (Keep.blk (Wrote.keep k42) (Ext.blk (NewB.ext n40) bk18) (by have a_ := NewB.eq n40; have b_ := lt_of_blk bk18; omega))) (Or.inl (by decide)) ne_g1) (Or.inl (by decide)) ne_g1),by omega,e14,e15,e16,rfl⟩,(show x.body.length - (k + 1) < x.body.length - k by omega)⟩
  refine c_cond0 (vb (ej rfl rfl) (decide_eq_false h19)) (c_exit (e_then (e_then (e_hit (n_then (c_reg (s_load (v := .pointer (some ⟨g,0,none⟩)) F_o73 (ej rfl e14) (cell_of_blk (i := 0) bk18 rfl) (w0 rfl) (s_bslice (vs := [(0,.string (⟨#[46]⟩ : ByteArray))]) (cs := #[.string (⟨#[46]⟩ : ByteArray)]) (b1 ev_c) (bs106_1_0s (⟨#[46]⟩ : ByteArray)) (w0 rfl) ?_))))))))
  intro w61 g60 n62
  have ne_g60 : g60 ≠ g := by have a_ := NewB.eq n62; have b_ := BW.lt (Wr.bw x11); omega
  refine s_call F_e54 (w0 rfl) ev_f (m2 (ej rfl rfl) (ej rfl rfl)) (args := #[.pointer (some ⟨g,0,none⟩),.slice (some ⟨g60,0,none⟩) 1 1]) rfl (p_put 97 _ g g60 (s0 ++ colW x.p (x.head.map argW) ++ ruP x.body k) [(⟨#[46]⟩ : ByteArray)] _ (BW.ext (Wr.bw x11) (NewB.ext n62)) (Nat.le_trans (Nat.le_trans hB_ (Wr.size x11)) (Keep.size (NewB.ext n62))) (by decide) F_lies97 (NewB.blk n62) (by simp only [catL,ByteArray.size_append,z0,z1,z2,z3,z4,z5,z6,z7]; omega) (by simp)) ?_
  rintro _ w63 ⟨rfl,wr64⟩
  refine c_done (ret0 rfl ?_)
  exact ⟨_,rfl,rfl,Wr.cast (Wr.then_ (Wr.ext x11 (NewB.ext n62) hB_) wr64) (by (have e_ : k = x.body.length := by omega); subst e_; simp only [ruW,catL,app_nil,app_assoc])⟩
end Go.Proofs.Zw

set_option linter.unusedVariables false
set_option linter.unusedSimpArgs false
set_option maxRecDepth 10000
namespace Go.Proofs.Zw
open Go Go.Wk Go.Proofs Go.Lib
attribute [local irreducible] Go.wpList Go.wpStill Go.wpQuiet Go.Code.wp Go.Calls
theorem F_e18 : enterable Tryz.prog 18 = true := by kernel_rfl
theorem F_e19 : enterable Tryz.prog 19 = true := by kernel_rfl
theorem F_e20 : enterable Tryz.prog 20 = true := by kernel_rfl
theorem F_e21 : enterable Tryz.prog 21 = true := by kernel_rfl
theorem F_e22 : enterable Tryz.prog 22 = true := by kernel_rfl
theorem F_e48 : enterable Tryz.prog 48 = true := by kernel_rfl
theorem F_e49 : enterable Tryz.prog 49 = true := by kernel_rfl
theorem F_e50 : enterable Tryz.prog 50 = true := by kernel_rfl
theorem p_toldR (x : Ru) (Ah Ab : Option Addr) (ch cb : Nat) (w : World) (ho : x.okc ch cb) (hrh : Row RG 5 w Ah x.head) (hrb : Row RL 16 w Ab x.body) (tb : Tabs Tryz.prog w) (tr : RelT Tryz.prog w) (tf : FoldT Tryz.prog w) :
    Rt Tryz.prog 48 #[.agg #[.string x.p,.slice Ah x.head.length ch,.slice Ab x.body.length cb],.func (.func 49) #[] #[],.func (.func 50) #[] #[]] w fun v w' => v = .tuple #[.string (if ruB x then ruW x else ⟨#[]⟩),.int .i64 (code (ruB x))] ∧ Ext w w' := by
  refine enter Tryz.func48 rfl (l := [.agg #[.string x.p,.slice Ah x.head.length ch,.slice Ab x.body.length cb],.func (.func 49) #[] #[],.func (.func 50) #[] #[]]) rfl Tryz.ntmps48 (Nat.le_of_ble_eq_true rfl) ?_
  have hpr_ := Ru.okc.p ho
  have hhl_ := Ru.okc.hl ho
  have hhc_ := Ru.okc.hc ho
  have hbl_ := Ru.okc.bl ho
  have hbc_ := Ru.okc.bc ho
  refine c_seq (c_reg (s_box (v := .agg #[.string x.p,.slice Ah x.head.length ch,.slice Ab x.body.length cb]) (cs := #[.string x.p,.slice Ah x.head.length ch,.slice Ab x.body.length cb]) (w0 rfl) (ej rfl rfl) rfl ?_))
  intro w2 g1 n3
  refine s_assign (v := .string (⟨#[]⟩ : ByteArray)) ev_c (w0 rfl) (s_assign (v := .int .i64 0) ev_c (w0 rfl) (c_done (n_then (c_seq (c_seq (c_reg (s_move (v := .func (.func 49) #[] #[]) (ej rfl rfl) (w0 rfl) (s_loadL (cs := [.string x.p,.slice Ah x.head.length ch,.slice Ab x.body.length cb]) F_m53 (ej rfl rfl) rfl rfl (blk_cells (NewB.blk n3) 0 rfl) (w0 rfl) (s_call F_e49 (w0 rfl) (ej rfl rfl) (m1 (ej rfl rfl)) (args := #[.agg #[.string x.p,.slice Ah x.head.length ch,.slice Ab x.body.length cb]]) rfl (t_CheckRule x Ah Ab ch cb _ ho (Row.extG hrh (NewB.ext n3)) (Row.extL hrb (NewB.ext n3))) ?_)))))))))
  rintro _ w5 ⟨rfl,x4⟩
  refine s_cmp (r := !(ruB x)) (ej rfl rfl) ev_c (ci_tn (b := (ruB x)) (by decide)) (w0 rfl) (c_done (n_then ?_))
  rcases Bool.eq_false_or_eq_true (ruB x) with h6 | h6
  · refine c_cond0 (vb (ej rfl rfl) (nbt h6)) (c_skip (n_then (c_seq (c_reg (s_alloc (cs := #[.pointer none,.slice none 0 0]) (w0 rfl) F_z97 rfl ?_)))))
    intro w8 g7 n9
    have bw_ : BW 5 97 w.heap.size w8 g7 ⟨#[]⟩ := BW.new n9 rfl (by decide) (Keep.size (Ext.trans (NewB.ext n3) x4))
    have hB_ := Keep.size (Ext.trans (Ext.trans (NewB.ext n3) x4) (NewB.ext n9))
    refine c_done (n_then (c_seq (c_reg (s_move (v := .func (.func 50) #[] #[]) (ej rfl rfl) (w0 rfl) (s_loadL (cs := [.string x.p,.slice Ah x.head.length ch,.slice Ab x.body.length cb]) F_m53 (ej rfl rfl) rfl rfl (blk_cells (Ext.blk (NewB.ext n9) (Ext.blk x4 (NewB.blk n3))) 0 rfl) (w0 rfl) (s_call F_e50 (w0 rfl) (ej rfl rfl) (m2 (ej rfl rfl) (ej rfl rfl)) (args := #[.pointer (some ⟨g7,0,none⟩),.agg #[.string x.p,.slice Ah x.head.length ch,.slice Ab x.body.length cb]]) rfl (p_rule x Ah Ab ch cb g7 ((⟨#[]⟩ : ByteArray)) w _ (Ext.trans (Ext.trans (NewB.ext n3) x4) (NewB.ext n9)) tb bw_ ho hrh hrb (by assumption) tr tf (by (try simp only [ByteArray.size_append,z0]); omega)) ?_))))))
    rintro _ w10 ⟨rfl,wr11⟩
    refine c_done (n_then (c_seq (c_reg (s_field (off := 0) (o' := 0) F_f97_0 (ej rfl rfl) rfl (w0 rfl) (s_call F_e55 (w0 rfl) ev_f (m1 (ej rfl rfl)) (args := #[.pointer (some ⟨g7,0,none⟩)]) rfl (b_String 97 _ g7 ((⟨#[]⟩ : ByteArray) ++ (ruW x)) _ (Wr.bw wr11) (Nat.le_trans hB_ (Wr.size wr11)) (by rw [nil_app]; exact ruW_ne)) ?_)))))
    rintro _ w12 ⟨rfl,bl13⟩
    refine s_assign (v := .string ((⟨#[]⟩ : ByteArray) ++ (ruW x))) (ej rfl rfl) (w0 rfl) (s_assign (v := .int .i64 0) ev_c (w0 rfl) (c_done (n_then (c_ret (ret2 (v := .string ((⟨#[]⟩ : ByteArray) ++ (ruW x))) (v2 := .int .i64 0) rfl rfl rfl rfl rfl ?_)))))
    refine ⟨_,rfl,?_,(ext_bel (Wr.after wr11 (Ext.trans (Ext.trans (NewB.ext n3) x4) (NewB.ext n9)) rfl) bl13)⟩
    (simp [code,nil_app, *])
  refine c_cond1 (vb (ej rfl rfl) (nbf h6)) (c_seq (c_reg (s_assign (v := .string (⟨#[]⟩ : ByteArray)) ev_c (w0 rfl) (s_assign (v := .int .i64 40) ev_c (w0 rfl) (c_done (n_then (c_ret (r_then (ret2 (v := .string (⟨#[]⟩ : ByteArray)) (v2 := .int .i64 40) rfl rfl rfl rfl rfl ?_)))))))))
  refine ⟨_,rfl,?_,(Ext.trans (NewB.ext n3) x4)⟩
  (simp [code,nil_app, *])
theorem p_Rule (x : Ru) (Ah Ab : Option Addr) (ch cb : Nat) (w : World) (ho : x.okc ch cb) (hrh : Row RG 5 w Ah x.head) (hrb : Row RL 16 w Ab x.body) (tb : Tabs Tryz.prog w) (tr : RelT Tryz.prog w) (tf : FoldT Tryz.prog w) :
    Rt Tryz.prog 21 #[.agg #[.string x.p,.slice Ah x.head.length ch,.slice Ab x.body.length cb]] w fun v w' => v = .tuple #[.string (if ruB x then ruW x else ⟨#[]⟩),.int .i64 (code (ruB x))] ∧ Ext w w' := by
  refine enter Tryz.func21 rfl (l := [.agg #[.string x.p,.slice Ah x.head.length ch,.slice Ab x.body.length cb]]) rfl Tryz.ntmps21 (Nat.le_of_ble_eq_true rfl) ?_
  have hpr_ := Ru.okc.p ho
  have hhl_ := Ru.okc.hl ho
  have hhc_ := Ru.okc.hc ho
  have hbl_ := Ru.okc.bl ho
  have hbc_ := Ru.okc.bc ho
  refine c_seq (c_reg (s_box (v := .agg #[.string x.p,.slice Ah x.head.length ch,.slice Ab x.body.length cb]) (cs := #[.string x.p,.slice Ah x.head.length ch,.slice Ab x.body.length cb]) (w0 rfl) (ej rfl rfl) rfl ?_))
  intro w2 g1 n3
  refine s_assign (v := .string (⟨#[]⟩ : ByteArray)) ev_c (w0 rfl) (s_assign (v := .int .i64 0) ev_c (w0 rfl) (c_done (n_then (c_seq (c_reg (s_loadL (cs := [.string x.p,.slice Ah x.head.length ch,.slice Ab x.body.length cb]) F_m53 (ej rfl rfl) rfl rfl (blk_cells (NewB.blk n3) 0 rfl) (w0 rfl) (s_call F_e48 (w0 rfl) ev_f (m3 (ej rfl rfl) ev_f ev_f) (args := #[.agg #[.string x.p,.slice Ah x.head.length ch,.slice Ab x.body.length cb],.func (.func 49) #[] #[],.func (.func 50) #[] #[]]) rfl (p_toldR x Ah Ab ch cb _ ho (Row.extG hrh (NewB.ext n3)) (Row.extL hrb (NewB.ext n3)) (Tabs.ext tb (NewB.ext n3)) (RelT.ext tr (NewB.ext n3)) (FoldT.ext tf (NewB.ext n3))) ?_)))))))
  rintro _ w5 ⟨rfl,x4⟩
  refine s_extract (v := .string (if ruB x then ruW x else ⟨#[]⟩)) (ej rfl rfl) rfl (w0 rfl) (s_extract (v := .int .i64 (code (ruB x))) (ej rfl rfl) rfl (w0 rfl) (s_assign (v := .string (if ruB x then ruW x else ⟨#[]⟩)) (ej rfl rfl) (w0 rfl) (s_assign (v := .int .i64 (code (ruB x))) (ej rfl rfl) (w0 rfl) (c_done (n_then (c_ret (ret2 (v := .string (if ruB x then ruW x else ⟨#[]⟩)) (v2 := .int .i64 (code (ruB x))) rfl rfl rfl rfl rfl ?_)))))))
  refine ⟨_,rfl,?_,(Ext.trans (NewB.ext n3) x4)⟩
  rfl
theorem l_PrintRules (x : Ru) (Ah Ab : Option Addr) (ch cb : Nat) (w : World) (ho : x.okc ch cb) (hrh : Row RG 5 w Ah x.head) (hrb : Row RL 16 w Ab x.body) (tb : Tabs Tryz.prog w) (tr : RelT Tryz.prog w) (tf : FoldT Tryz.prog w) :
    Rt Tryz.prog 4 #[.agg #[.string x.p,.slice Ah x.head.length ch,.slice Ab x.body.length cb]] w fun v w' => v = .bool true ∧ Ext w w' := by
  refine enter Tryz.func4 rfl (l := [.agg #[.string x.p,.slice Ah x.head.length ch,.slice Ab x.body.length cb]]) rfl Tryz.ntmps4 (Nat.le_of_ble_eq_true rfl) ?_
  have hpr_ := Ru.okc.p ho
  have hhl_ := Ru.okc.hl ho
  have hhc_ := Ru.okc.hc ho
  have hbl_ := Ru.okc.bl ho
  have hbc_ := Ru.okc.bc ho
  refine c_seq (c_reg (s_box (v := .agg #[.string x.p,.slice Ah x.head.length ch,.slice Ab x.body.length cb]) (cs := #[.string x.p,.slice Ah x.head.length ch,.slice Ab x.body.length cb]) (w0 rfl) (ej rfl rfl) rfl ?_))
  intro w2 g1 n3
  refine s_assign (v := .bool false) ev_c (w0 rfl) (c_done (n_then (c_seq (c_seq (c_reg (s_loadL (cs := [.string x.p,.slice Ah x.head.length ch,.slice Ab x.body.length cb]) F_m53 (ej rfl rfl) rfl rfl (blk_cells (NewB.blk n3) 0 rfl) (w0 rfl) (s_call F_e18 (w0 rfl) ev_f (m1 (ej rfl rfl)) (args := #[.agg #[.string x.p,.slice Ah x.head.length ch,.slice Ab x.body.length cb]]) rfl (l_BeyondRule x Ah Ab ch cb _ ho (Row.extG hrh (NewB.ext n3)) (Row.extL hrb (NewB.ext n3))) ?_)))))))
  rintro _ w5 ⟨⟨z4,rfl⟩,x6⟩
  refine c_done (n_then ?_)
  rcases Bool.eq_false_or_eq_true z4 with h7 | h7
  · refine c_cond1 (vb (ej rfl rfl) h7) (c_seq (c_reg (s_assign (v := .bool true) ev_c (w0 rfl) (c_done (n_then (c_ret (r_then (ret1 (v := .bool true) rfl rfl rfl ?_))))))))
    refine ⟨_,rfl,?_,(Ext.trans (NewB.ext n3) x6)⟩
    rfl
  refine c_cond0 (vb (ej rfl rfl) h7) (c_skip (n_then (c_seq (c_reg (s_loadL (cs := [.string x.p,.slice Ah x.head.length ch,.slice Ab x.body.length cb]) F_m53 (ej rfl rfl) rfl rfl (blk_cells (Ext.blk x6 (NewB.blk n3)) 0 rfl) (w0 rfl) (s_call F_e19 (w0 rfl) ev_f (m1 (ej rfl rfl)) (args := #[.agg #[.string x.p,.slice Ah x.head.length ch,.slice Ab x.body.length cb]]) rfl (l_TwinRule x Ah Ab ch cb _ ho (Row.extG (Row.extG hrh (NewB.ext n3)) x6) (Row.extL (Row.extL hrb (NewB.ext n3)) x6) (Tabs.ext tb (Ext.trans (NewB.ext n3) x6))) ?_))))))
  rintro _ w10 ⟨b8,b9,rfl,tw12,tw13,x11⟩
  have okt14 : Ru.okc x (x.head.length + 1) (x.body.length + 1) := ⟨Ru.okc.p ho,Nat.le_succ _,Ru.okc.hc ho,Nat.le_succ _,Ru.okc.bc ho⟩
  have := Ru.okc.p okt14
  have := Ru.okc.hl okt14
  have := Ru.okc.hc okt14
  have := Ru.okc.bl okt14
  have := Ru.okc.bc okt14
  refine s_alloc (cs := #[.string (⟨#[]⟩ : ByteArray),.slice none 0 0,.slice none 0 0]) (w0 rfl) F_z53 rfl ?_
  intro w16 g15 n17
  refine s_store (cs' := #[.string x.p,.slice (some ⟨b8,0,none⟩) x.head.length (x.head.length + 1),.slice (some ⟨b9,0,none⟩) x.body.length (x.body.length + 1)]) F_sz53 (ej rfl rfl) (ej rfl rfl) (l := [.string x.p,.slice (some ⟨b8,0,none⟩) x.head.length (x.head.length + 1),.slice (some ⟨b9,0,none⟩) x.body.length (x.body.length + 1)]) rfl rfl rfl (NewB.blk n17) (Nat.le_of_ble_eq_true rfl) rfl (w0 rfl) ?_
  intro w18 k19
  refine c_done (n_then (c_seq (c_reg (s_loadL (cs := [.string x.p,.slice Ah x.head.length ch,.slice Ab x.body.length cb]) F_m53 (ej rfl rfl) rfl rfl (blk_cells (Ext.blk (Keep.then_ (Ext.trans (Ext.trans x6 x11) (NewB.ext n17)) (Wrote.keep k19) (fun i_ hi_ h_ => by have a_ := NewB.eq n17; have b_ := Keep.size (Ext.trans x6 x11); omega)) (NewB.blk n3)) 0 rfl) (w0 rfl) (s_call F_e20 (w0 rfl) ev_f (m1 (ej rfl rfl)) (args := #[.agg #[.string x.p,.slice Ah x.head.length ch,.slice Ab x.body.length cb]]) rfl (r6_Rule x Ah Ab ch cb _ ho (Row.extG hrh (Keep.then_ (Ext.trans (Ext.trans (Ext.trans (NewB.ext n3) x6) x11) (NewB.ext n17)) (Wrote.keep k19) (fun i_ hi_ h_ => by have a_ := NewB.eq n17; have b_ := Keep.size (Ext.trans (Ext.trans (NewB.ext n3) x6) x11); omega))) (Row.extL hrb (Keep.then_ (Ext.trans (Ext.trans (Ext.trans (NewB.ext n3) x6) x11) (NewB.ext n17)) (Wrote.keep k19) (fun i_ hi_ h_ => by have a_ := NewB.eq n17; have b_ := Keep.size (Ext.trans (Ext.trans (NewB.ext n3) x6) x11); omega)))) ?_)))))
  rintro _ w21 ⟨rfl,x20⟩
  refine s_move (v := .tuple #[.string (if ruB x then ruW x else ⟨#[]⟩),.int .i64 (code (ruB x))]) (ej rfl rfl) (w0 rfl) (s_extract (v := .string (if ruB x then ruW x else ⟨#[]⟩)) (ej rfl rfl) rfl (w0 rfl) (s_extract (v := .int .i64 (code (ruB x))) (ej rfl rfl) rfl (w0 rfl) (s_assign (v := .string (if ruB x then ruW x else ⟨#[]⟩)) (ej rfl rfl) (w0 rfl) (s_assign (v := .int .i64 (code (ruB x))) (ej rfl rfl) (w0 rfl) (c_done (n_then (c_seq (c_reg (s_loadL (cs := [.string x.p,.slice (some ⟨b8,0,none⟩) x.head.length (x.head.length + 1),.slice (some ⟨b9,0,none⟩) x.body.length (x.body.length + 1)]) F_m53 (ej rfl rfl) rfl rfl (blk_cells (Ext.blk x20 (Wrote.blk k19)) 0 rfl) (w0 rfl) (s_call F_e21 (w0 rfl) ev_f (m1 (ej rfl rfl)) (args := #[.agg #[.string x.p,.slice (some ⟨b8,0,none⟩) x.head.length (x.head.length + 1),.slice (some ⟨b9,0,none⟩) x.body.length (x.body.length + 1)]]) rfl (p_Rule x (some ⟨b8,0,none⟩) (some ⟨b9,0,none⟩) (x.head.length + 1) (x.body.length + 1) _ okt14 (Row.extG (TwG.rowsG tw12) (Ext.trans (Keep.then_ (NewB.ext n17) (Wrote.keep k19) (fun i_ hi_ h_ => by have a_ := NewB.eq n17; have b_ := Keep.size (Ext.refl w10); omega)) x20)) (Row.extL (TwG.rowsL tw13) (Ext.trans (Keep.then_ (NewB.ext n17) (Wrote.keep k19) (fun i_ hi_ h_ => by have a_ := NewB.eq n17; have b_ := Keep.size (Ext.refl w10); omega)) x20)) (Tabs.ext tb (Ext.trans (Keep.then_ (Ext.trans (Ext.trans (Ext.trans (NewB.ext n3) x6) x11) (NewB.ext n17)) (Wrote.keep k19) (fun i_ hi_ h_ => by have a_ := NewB.eq n17; have b_ := Keep.size (Ext.trans (Ext.trans (NewB.ext n3) x6) x11); omega)) x20)) (RelT.ext tr (Ext.trans (Keep.then_ (Ext.trans (Ext.trans (Ext.trans (NewB.ext n3) x6) x11) (NewB.ext n17)) (Wrote.keep k19) (fun i_ hi_ h_ => by have a_ := NewB.eq n17; have b_ := Keep.size (Ext.trans (Ext.trans (NewB.ext n3) x6) x11); omega)) x20)) (FoldT.ext tf (Ext.trans (Keep.then_ (Ext.trans (Ext.trans (Ext.trans (NewB.ext n3) x6) x11) (NewB.ext n17)) (Wrote.keep k19) (fun i_ hi_ h_ => by have a_ := NewB.eq n17; have b_ := Keep.size (Ext.trans (Ext.trans (NewB.ext n3) x6) x11); omega)) x20))) ?_))))))))))
  rintro _ w23 ⟨rfl,x22⟩
  refine s_move (v := .tuple #[.string (if ruB x then ruW x else ⟨#[]⟩),.int .i64 (code (ruB x))]) (ej rfl rfl) (w0 rfl) (s_extract (v := .string (if ruB x then ruW x else ⟨#[]⟩)) (ej rfl rfl) rfl (w0 rfl) (s_extract (v := .int .i64 (code (ruB x))) (ej rfl rfl) rfl (w0 rfl) (s_assign (v := .string (if ruB x then ruW x else ⟨#[]⟩)) (ej rfl rfl) (w0 rfl) (s_assign (v := .int .i64 (code (ruB x))) (ej rfl rfl) (w0 rfl) (c_done (n_then (c_seq (c_reg (s_move (v := .string (if ruB x then ruW x else ⟨#[]⟩)) (ej rfl rfl) (w0 rfl) (s_move (v := .string (if ruB x then ruW x else ⟨#[]⟩)) (ej rfl rfl) (w0 rfl) (s_cmpS (r := true) (ej rfl rfl) (ej rfl rfl) (cmpS_self _) (w0 rfl) ?_)))))))))))
  refine s_move (v := .bool true) (ej rfl rfl) (w0 rfl) (s_move (v := .int .i64 (code (ruB x))) (ej rfl rfl) (wy rfl rfl rfl rfl) (s_move (v := .int .i64 (code (ruB x))) (ej rfl rfl) (wy rfl rfl rfl rfl) (s_cmp (r := true) (ej rfl rfl) (ej rfl rfl) (cmpI_self _) (wy rfl rfl rfl rfl) (s_pick1 (v := .bool true) (ej rfl rfl) (ej rfl rfl) (w0 rfl) (s_move (v := .bool true) (ej rfl rfl) (w0 rfl) (s_loadL (cs := [.string x.p,.slice (some ⟨b8,0,none⟩) x.head.length (x.head.length + 1),.slice (some ⟨b9,0,none⟩) x.body.length (x.body.length + 1)]) F_m53 (ej rfl rfl) rfl rfl (blk_cells (Ext.blk x22 (Ext.blk x20 (Wrote.blk k19))) 0 rfl) (wy rfl rfl rfl rfl) (s_loadL (cs := [.string x.p,.slice Ah x.head.length ch,.slice Ab x.body.length cb]) F_m53 (ej rfl rfl) rfl rfl (blk_cells (Ext.blk (Ext.trans (Ext.trans (Keep.then_ (Ext.trans (Ext.trans x6 x11) (NewB.ext n17)) (Wrote.keep k19) (fun i_ hi_ h_ => by have a_ := NewB.eq n17; have b_ := Keep.size (Ext.trans x6 x11); omega)) x20) x22) (NewB.blk n3)) 0 rfl) (wy rfl rfl rfl rfl) (s_call F_e22 (wy rfl rfl rfl rfl) ev_f (m2 (ej rfl rfl) (ej rfl rfl)) (args := #[.agg #[.string x.p,.slice (some ⟨b8,0,none⟩) x.head.length (x.head.length + 1),.slice (some ⟨b9,0,none⟩) x.body.length (x.body.length + 1)],.agg #[.string x.p,.slice Ah x.head.length ch,.slice Ab x.body.length cb]]) rfl (l_LeftRule x Ah Ab ch cb b8 b9 _ _ ho (Row.extG hrh (Ext.trans (Ext.trans (Keep.then_ (Ext.trans (Ext.trans (Ext.trans (NewB.ext n3) x6) x11) (NewB.ext n17)) (Wrote.keep k19) (fun i_ hi_ h_ => by have a_ := NewB.eq n17; have b_ := Keep.size (Ext.trans (Ext.trans (NewB.ext n3) x6) x11); omega)) x20) x22)) (Row.extL hrb (Ext.trans (Ext.trans (Keep.then_ (Ext.trans (Ext.trans (Ext.trans (NewB.ext n3) x6) x11) (NewB.ext n17)) (Wrote.keep k19) (fun i_ hi_ h_ => by have a_ := NewB.eq n17; have b_ := Keep.size (Ext.trans (Ext.trans (NewB.ext n3) x6) x11); omega)) x20) x22)) (TwG.ext okG tw12 (Ext.trans (Ext.trans (Keep.then_ (NewB.ext n17) (Wrote.keep k19) (fun i_ hi_ h_ => by have a_ := NewB.eq n17; have b_ := Keep.size (Ext.refl w10); omega)) x20) x22)) (TwG.ext okL tw13 (Ext.trans (Ext.trans (Keep.then_ (NewB.ext n17) (Wrote.keep k19) (fun i_ hi_ h_ => by have a_ := NewB.eq n17; have b_ := Keep.size (Ext.refl w10); omega)) x20) x22)) (Tabs.ext tb (Ext.trans (Ext.trans (Keep.then_ (Ext.trans (Ext.trans (Ext.trans (NewB.ext n3) x6) x11) (NewB.ext n17)) (Wrote.keep k19) (fun i_ hi_ h_ => by have a_ := NewB.eq n17; have b_ := Keep.size (Ext.trans (Ext.trans (NewB.ext n3) x6) x11); omega)) x20) x22))) ?_))))))))
  rintro _ w25 ⟨rfl,x24⟩
  refine s_pick1 (v := .bool true) (ej rfl rfl) (ej rfl rfl) (w0 rfl) (s_move (v := .bool true) (ej rfl rfl) (w0 rfl) (s_call F_e17 (wy rfl rfl rfl rfl) ev_f m0 (args := #[]) rfl (l_lives _ (Tabs.ext tb (Ext.trans (Ext.trans (Ext.trans (Keep.then_ (Ext.trans (Ext.trans (Ext.trans (NewB.ext n3) x6) x11) (NewB.ext n17)) (Wrote.keep k19) (fun i_ hi_ h_ => by have a_ := NewB.eq n17; have b_ := Keep.size (Ext.trans (Ext.trans (NewB.ext n3) x6) x11); omega)) x20) x22) x24))) ?_))
  rintro _ w27 ⟨rfl,x26⟩
  refine s_pick1 (v := .bool true) (ej rfl rfl) (ej rfl rfl) (w0 rfl) (s_assign (v := .bool true) (ej rfl rfl) (w0 rfl) (c_done (n_then (c_ret (ret1 (v := .bool true) rfl rfl rfl ?_)))))
  refine ⟨_,rfl,?_,(Ext.trans (Ext.trans (Ext.trans (Ext.trans (Keep.then_ (Ext.trans (Ext.trans (Ext.trans (NewB.ext n3) x6) x11) (NewB.ext n17)) (Wrote.keep k19) (fun i_ hi_ h_ => by have a_ := NewB.eq n17; have b_ := Keep.size (Ext.trans (Ext.trans (NewB.ext n3) x6) x11); omega)) x20) x22) x24) x26)⟩
  rfl
end Go.Proofs.Zw

set_option linter.unusedVariables false
set_option linter.unusedSimpArgs false
set_option maxRecDepth 10000
namespace Go.Proofs.Zw
open Go Go.Wk Go.Proofs Go.Lib Go.ChangeShapes Go.WideShapes Go.RowKit
section
variable {H : Type} {enc : TypeId × Value → H} {w : World} {sp : Nat → Bool} {held : Bool}
theorem ce2 : Tryz.prog.cellsOf 2 = 1 := by kernel_rfl
theorem ce9 : Tryz.prog.cellsOf 9 = 1 := by kernel_rfl
theorem ce22 : Tryz.prog.cellsOf 22 = 1 := by kernel_rfl
theorem ce24 : Tryz.prog.cellsOf 24 = 2 := by kernel_rfl
theorem ce26 : Tryz.prog.cellsOf 26 = 1 := by kernel_rfl
theorem ce27 : Tryz.prog.cellsOf 27 = 1 := by kernel_rfl
theorem ce28 : Tryz.prog.cellsOf 28 = 1 := by kernel_rfl
theorem ce29 : Tryz.prog.cellsOf 29 = 1 := by kernel_rfl
theorem ce31 : Tryz.prog.cellsOf 31 = 3 := by kernel_rfl
theorem ce33 : Tryz.prog.cellsOf 33 = 4 := by kernel_rfl
theorem ce34 : Tryz.prog.cellsOf 34 = 1 := by kernel_rfl
theorem ce36 : Tryz.prog.cellsOf 36 = 6 := by kernel_rfl
theorem ce38 : Tryz.prog.cellsOf 38 = 16 := by kernel_rfl
theorem ce40 : Tryz.prog.cellsOf 40 = 1 := by kernel_rfl
theorem ce51 : Tryz.prog.cellsOf 51 = 1 := by kernel_rfl
theorem ce53 : Tryz.prog.cellsOf 53 = 3 := by kernel_rfl
theorem ce127 : Tryz.prog.cellsOf 127 = 1 := by kernel_rfl
theorem ce129 : Tryz.prog.cellsOf 129 = 5 := by kernel_rfl
theorem by33 : Tryz.prog.bytesOf 33 = 48 := by kernel_rfl
theorem by36 : Tryz.prog.bytesOf 36 = 80 := by kernel_rfl
theorem by38 : Tryz.prog.bytesOf 38 = 216 := by kernel_rfl
theorem by129 : Tryz.prog.bytesOf 129 = 56 := by kernel_rfl
theorem len2 {l : List Value} (h : l.length = 2) : ∃ u0 u1,l = [u0,u1] := by
  match l,h with | [u0,u1],_ => exact ⟨u0,u1,rfl⟩
theorem len3 {l : List Value} (h : l.length = 3) : ∃ u0 u1 u2,l = [u0,u1,u2] := by
  match l,h with | [u0,u1,u2],_ => exact ⟨u0,u1,u2,rfl⟩
theorem len4 {l : List Value} (h : l.length = 4) : ∃ u0 u1 u2 u3,l = [u0,u1,u2,u3] := by
  match l,h with | [u0,u1,u2,u3],_ => exact ⟨u0,u1,u2,u3,rfl⟩
theorem len5 {l : List Value} (h : l.length = 5) : ∃ u0 u1 u2 u3 u4,l = [u0,u1,u2,u3,u4] := by
  match l,h with | [u0,u1,u2,u3,u4],_ => exact ⟨u0,u1,u2,u3,u4,rfl⟩
theorem len6 {l : List Value} (h : l.length = 6) : ∃ u0 u1 u2 u3 u4 u5,l = [u0,u1,u2,u3,u4,u5] := by
  match l,h with | [u0,u1,u2,u3,u4,u5],_ => exact ⟨u0,u1,u2,u3,u4,u5,rfl⟩
theorem len16 {l : List Value} (h : l.length = 16) : ∃ u0 u1 u2 u3 u4 u5 u6 u7 u8 u9 u10 u11 u12 u13 u14 u15,l = [u0,u1,u2,u3,u4,u5,u6,u7,u8,u9,u10,u11,u12,u13,u14,u15] := by
  match l,h with | [u0,u1,u2,u3,u4,u5,u6,u7,u8,u9,u10,u11,u12,u13,u14,u15],_ => exact ⟨u0,u1,u2,u3,u4,u5,u6,u7,u8,u9,u10,u11,u12,u13,u14,u15,rfl⟩
theorem xs2 {α : Type} {l : List α} (h : l.length = 2) : ∃ u0 u1,l = [u0,u1] := by
  match l,h with | [u0,u1],_ => exact ⟨u0,u1,rfl⟩
theorem xs3 {α : Type} {l : List α} (h : l.length = 3) : ∃ u0 u1 u2,l = [u0,u1,u2] := by
  match l,h with | [u0,u1,u2],_ => exact ⟨u0,u1,u2,rfl⟩
theorem xs5 {α : Type} {l : List α} (h : l.length = 5) : ∃ u0 u1 u2 u3 u4,l = [u0,u1,u2,u3,u4] := by
  match l,h with | [u0,u1,u2,u3,u4],_ => exact ⟨u0,u1,u2,u3,u4,rfl⟩
theorem small (n : Nat) : n ≤ reachBytes → n ≤ 140737488351232 := fun h => h
theorem i8_wf {n : Int} (h : (Lit.int .i8 n).wf = true) : -128 ≤ n ∧ n ≤ 127 := by
  simp only [Lit.wf,Bool.and_eq_true,decide_eq_true_eq] at h; exact h
theorem i64_wf {n : Int} (h : (Lit.int .i64 n).wf = true) : -9223372036854775808 ≤ n ∧ n ≤ 9223372036854775807 := by
  simp only [Lit.wf,Bool.and_eq_true,decide_eq_true_eq] at h; exact h
theorem weights_all {P : Program} {e : TypeId} {d : DataW H} {k : Nat} : ∀ {l : List (DataW H)},d ∈ l → k ∈ d.weights P e → k ∈ DataW.weightsAll P e l
  | [],h,_ => by simp at h
  | y :: l,h,hk => by
    rcases List.mem_cons.1 h with rfl | h
    · simp [DataW.weightsAll,hk]
    simp [DataW.weightsAll,weights_all h hk]
theorem o_slice {α : Type} (R : World → α → List Value → Prop) (zero : α) {t e : TypeId} {m bytes : Nat} (ht : Tryz.prog.underlying t = some (.slice e)) (hm : Tryz.prog.cellsOf e = m) (h0 : 0 < m) (hby : Tryz.prog.bytesOf e = bytes) {n : Nat}
    (hel : ∀ (n' : Nat),n' < n → ∀ (cs : List Value) (x : DataW H × List MemPlace),DataW.trod enc Tryz.prog w 0 sp held n' e cs = some x → (∀ k ∈ x.1.weights Tryz.prog e,k ≤ reachBytes) → ∃ y,R w y cs)
    {c : Value} {x : DataW H × List MemPlace} (h : DataW.trod enc Tryz.prog w 0 sp held n t [c] = some x) (hs : ∀ k ∈ x.1.weights Tryz.prog t,k ≤ reachBytes) :
    ∃ (l : List α) (A : Option Addr) (cap : Nat),c = .slice A l.length cap ∧ l.length ≤ cap ∧ l.length * bytes ≤ 140737488351232 ∧ Row R m w A l := by
  rcases DataW.trod_slice ht h with ⟨ec,rfl⟩ | ⟨ad,len,cap,elems,rest,n',rfl,ec,rfl,hb,hlc,hmx,hlen,hel1,hrest⟩
  · cases ec
    exact ⟨[],none,0,rfl,Nat.le_refl _,by simp,Row.nil⟩
  cases ec
  have hbytes : len * bytes ≤ 140737488351232 := by
    have h1 := hs ((elems.length + rest.length) * bytes) (by simp [DataW.weights,ht,hby])
    have h2 := small _ h1
    rw [hlen] at h2
    exact Nat.le_trans (Nat.mul_le_mul_right _ (Nat.le_add_right _ _)) h2
  have each : ∀ i,i < len → ∃ (y : α) (l : List Value),R w y l ∧ (i = 0 → ad.spot = none) ∧ ∀ (j : Nat) (u : Value),l[j]? = some u → w.cell? ⟨ad.block,ad.off + i * m + j,none⟩ = some u := by
    intro i hi
    have h1 := hel1 i hi
    rw [hm] at h1
    have hi2 : i < elems.length := by omega
    rw [List.getElem?_eq_getElem hi2] at h1
    obtain ⟨cs',hcs,htr⟩ := Option.bind_eq_some_iff.1 h1
    obtain ⟨hb',hl',hc'⟩ := World.cells?_some hcs
    obtain ⟨y,hy⟩ := hel n' (by omega) cs' _ htr (fun k hk => hs k (by
      simp only [DataW.weights,ht,List.mem_cons,List.mem_append]
      exact .inr (.inl (weights_all (List.mem_map_of_mem (List.getElem_mem hi2)) hk))))
    have hsp : (ad.add (i * m)).spot = none := by
      have := hc' 0 (by omega)
      rw [List.getElem?_eq_getElem (by omega)] at this
      rw [show (ad.add (i * m)).add 0 = ad.add (i * m) from by simp [Addr.add]] at this
      cases hq : (ad.add (i * m)).spot with
      | none => rfl
      | some q =>
        unfold World.cell? at this
        rw [hq] at this
        split at this <;> simp at this
    have had : ad.add (i * m) = ⟨ad.block,ad.off + i * m,none⟩ := by
      unfold Addr.add at hsp ⊢
      split
      · rename_i h0
        rw [if_pos h0] at hsp
        obtain ⟨b1,o1,s1⟩ := ad
        simp only at hsp
        subst hsp
        simp [h0]
      rfl
    refine ⟨y,cs',hy,?_,fun j u hu => ?_⟩
    · intro h0
      subst h0
      simpa [Addr.add] using hsp
    have hj : j < cs'.length := (List.getElem?_eq_some_iff.1 hu).1
    have := hc' j (by omega)
    rw [had,add0] at this
    rw [this]; exact hu
  have hex : ∃ f : Nat → α,∀ i,i < len → ∃ l : List Value,R w (f i) l ∧ (i = 0 → ad.spot = none) ∧ ∀ (j : Nat) (u : Value),l[j]? = some u → w.cell? ⟨ad.block,ad.off + i * m + j,none⟩ = some u := by
    refine ⟨fun i => if hi : i < len then Classical.choose (each i hi) else zero,fun i hi => ?_⟩
    simp only [dif_pos hi]
    exact Classical.choose_spec (each i hi)
  obtain ⟨f,hf⟩ := hex
  have hkl : ((List.range len).map f).length = len := by simp
  refine ⟨(List.range len).map f,some ad,cap,?_,?_,?_,?_⟩
  · rw [hkl]
  · rw [hkl]; exact hlc
  · rw [hkl]; exact hbytes
  by_cases h0 : len = 0
  · subst h0; exact .inl rfl
  obtain ⟨_,_,h2,_⟩ := hf 0 (by omega)
  have hsp := h2 rfl
  obtain ⟨b1,o1,s1⟩ := ad
  simp only at hsp
  subst hsp
  refine .inr ⟨b1,o1,rfl,fun j y hy => ?_⟩
  have hj : j < len := by
    have := (List.getElem?_eq_some_iff.1 hy).1
    rwa [hkl] at this
  obtain ⟨l,a1,_,a3⟩ := hf j hj
  have : y = f j := by simpa [hj] using hy.symm
  subst this
  exact ⟨l,a1,a3⟩
theorem o_V {n : Nat} {cs : List Value} {x : DataW H × List MemPlace} (h : DataW.trod enc Tryz.prog w 0 sp held n 31 cs = some x) (hs : ∀ k ∈ x.1.weights Tryz.prog 31,k ≤ reachBytes) : ∃ y,RV w y cs := by
  obtain ⟨xs,m,rfl,rfl,hl,hx,hf⟩ := DataW.trod_struct Tryz.underlying31 h
  obtain ⟨c0,c1,c2,rfl⟩ := len3 (hl.trans ce31)
  obtain ⟨a0,a1,a2,rfl⟩ := xs3 hx
  have f0 : DataW.trod enc Tryz.prog w 0 sp held m 29 (([c0,c1,c2].drop 0).take (Tryz.prog.cellsOf 29)) = some a0 := hf 0 _ rfl
  rw [ce29] at f0
  have f1 : DataW.trod enc Tryz.prog w 0 sp held m 2 (([c0,c1,c2].drop 1).take (Tryz.prog.cellsOf 2)) = some a1 := hf 1 _ rfl
  rw [ce2] at f1
  have f2 : DataW.trod enc Tryz.prog w 0 sp held m 9 (([c0,c1,c2].drop 2).take (Tryz.prog.cellsOf 9)) = some a2 := hf 2 _ rfl
  rw [ce9] at f2
  obtain ⟨k0,e0,r0,w0⟩ := DataW.trod_int (k := .i8) Tryz.underlying29 (show DataW.trod enc Tryz.prog w 0 sp held m 29 [c0] = some a0 from f0)
  cases e0
  subst r0
  obtain ⟨k1,e1,r1,w1⟩ := DataW.trod_int (k := .i64) Tryz.underlying2 (show DataW.trod enc Tryz.prog w 0 sp held m 2 [c1] = some a1 from f1)
  cases e1
  subst r1
  obtain ⟨s2,e2,r2,w2⟩ := DataW.trod_string Tryz.underlying9 (show DataW.trod enc Tryz.prog w 0 sp held m 9 [c2] = some a2 from f2)
  cases e2
  subst r2
  have z2 : s2.size ≤ 140737488351232 := hs s2.data.toList.length (by simp [DataW.weights,Tryz.underlying31,DataW.weightsEach])
  exact ⟨⟨k0,k1,s2⟩,rfl,⟨i8_wf w0,i64_wf w1,z2⟩⟩
theorem o_T {n : Nat} {cs : List Value} {x : DataW H × List MemPlace} (h : DataW.trod enc Tryz.prog w 0 sp held n 33 cs = some x) (hs : ∀ k ∈ x.1.weights Tryz.prog 33,k ≤ reachBytes) : ∃ y,RT w y cs := by
  obtain ⟨xs,m,rfl,rfl,hl,hx,hf⟩ := DataW.trod_struct Tryz.underlying33 h
  obtain ⟨c0,c1,c2,c3,rfl⟩ := len4 (hl.trans ce33)
  obtain ⟨a0,a1,rfl⟩ := xs2 hx
  have f0 : DataW.trod enc Tryz.prog w 0 sp held m 9 (([c0,c1,c2,c3].drop 0).take (Tryz.prog.cellsOf 9)) = some a0 := hf 0 _ rfl
  rw [ce9] at f0
  have f1 : DataW.trod enc Tryz.prog w 0 sp held m 31 (([c0,c1,c2,c3].drop 1).take (Tryz.prog.cellsOf 31)) = some a1 := hf 1 _ rfl
  rw [ce31] at f1
  obtain ⟨s0,e0,r0,w0⟩ := DataW.trod_string Tryz.underlying9 (show DataW.trod enc Tryz.prog w 0 sp held m 9 [c0] = some a0 from f0)
  cases e0
  subst r0
  have z0 : s0.size ≤ 140737488351232 := hs s0.data.toList.length (by simp [DataW.weights,Tryz.underlying33,DataW.weightsEach])
  obtain ⟨v1,ev1,hw1⟩ := o_V (show DataW.trod enc Tryz.prog w 0 sp held m 31 [c1,c2,c3] = some a1 from f1) (fun k hk => hs k (by simp [DataW.weights,Tryz.underlying33,DataW.weightsEach,hk]))
  simp only [List.cons.injEq,and_true] at ev1
  obtain ⟨rfl,rfl,rfl⟩ := ev1
  exact ⟨⟨s0,v1⟩,rfl,⟨z0,hw1⟩⟩
theorem o_E : ∀ (n : Nat) (cs : List Value) (x : DataW H × List MemPlace),DataW.trod enc Tryz.prog w 0 sp held n 36 cs = some x → (∀ k ∈ x.1.weights Tryz.prog 36,k ≤ reachBytes) → ∃ y,RE w y cs := by
  intro n
  induction n using Nat.strongRecOn with
  | _ n ih =>
    intro cs x h hs
    obtain ⟨xs,m,rfl,rfl,hl,hx,hf⟩ := DataW.trod_struct Tryz.underlying36 h
    obtain ⟨c0,c1,c2,c3,c4,c5,rfl⟩ := len6 (hl.trans ce36)
    obtain ⟨a0,a1,a2,rfl⟩ := xs3 hx
    have f0 : DataW.trod enc Tryz.prog w 0 sp held m 28 (([c0,c1,c2,c3,c4,c5].drop 0).take (Tryz.prog.cellsOf 28)) = some a0 := hf 0 _ rfl
    rw [ce28] at f0
    have f1 : DataW.trod enc Tryz.prog w 0 sp held m 33 (([c0,c1,c2,c3,c4,c5].drop 1).take (Tryz.prog.cellsOf 33)) = some a1 := hf 1 _ rfl
    rw [ce33] at f1
    have f2 : DataW.trod enc Tryz.prog w 0 sp held m 34 (([c0,c1,c2,c3,c4,c5].drop 5).take (Tryz.prog.cellsOf 34)) = some a2 := hf 2 _ rfl
    rw [ce34] at f2
    obtain ⟨k0,e0,r0,w0⟩ := DataW.trod_int (k := .i8) Tryz.underlying28 (show DataW.trod enc Tryz.prog w 0 sp held m 28 [c0] = some a0 from f0)
    cases e0
    subst r0
    obtain ⟨v1,ev1,hw1⟩ := o_T (show DataW.trod enc Tryz.prog w 0 sp held m 33 [c1,c2,c3,c4] = some a1 from f1) (fun k hk => hs k (by simp [DataW.weights,Tryz.underlying36,DataW.weightsEach,hk]))
    simp only [List.cons.injEq,and_true] at ev1
    obtain ⟨rfl,rfl,rfl,rfl⟩ := ev1
    obtain ⟨l2,A2,d2,el2,hl2,hc2,hr2⟩ := o_slice RE Ex.none Tryz.underlying34 ce36 (by decide) by36 (fun n' hn cs x h hs => ih n' (by omega) cs x h hs) (show DataW.trod enc Tryz.prog w 0 sp held m 34 [c5] = some a2 from f2) (fun k hk => hs k (by simp [DataW.weights,Tryz.underlying36,DataW.weightsEach,hk]))
    cases el2
    exact ⟨.mk k0 v1 l2,RE.mk_ (x := .mk k0 v1 l2) (A := A2) (c := d2) ⟨i8_wf w0,hw1,hl2,hc2⟩ hr2⟩
theorem o_A {n : Nat} {cs : List Value} {x : DataW H × List MemPlace} (h : DataW.trod enc Tryz.prog w 0 sp held n 24 cs = some x) (hs : ∀ k ∈ x.1.weights Tryz.prog 24,k ≤ reachBytes) : ∃ y,RA w y cs := by
  obtain ⟨xs,m,rfl,rfl,hl,hx,hf⟩ := DataW.trod_struct Tryz.underlying24 h
  obtain ⟨c0,c1,rfl⟩ := len2 (hl.trans ce24)
  obtain ⟨a0,a1,rfl⟩ := xs2 hx
  have f0 : DataW.trod enc Tryz.prog w 0 sp held m 9 (([c0,c1].drop 0).take (Tryz.prog.cellsOf 9)) = some a0 := hf 0 _ rfl
  rw [ce9] at f0
  have f1 : DataW.trod enc Tryz.prog w 0 sp held m 22 (([c0,c1].drop 1).take (Tryz.prog.cellsOf 22)) = some a1 := hf 1 _ rfl
  rw [ce22] at f1
  obtain ⟨s0,e0,r0,w0⟩ := DataW.trod_string Tryz.underlying9 (show DataW.trod enc Tryz.prog w 0 sp held m 9 [c0] = some a0 from f0)
  cases e0
  subst r0
  have z0 : s0.size ≤ 140737488351232 := hs s0.data.toList.length (by simp [DataW.weights,Tryz.underlying24,DataW.weightsEach])
  obtain ⟨l1,A1,d1,el1,hl1,hc1,hr1⟩ := o_slice RT Tm.none Tryz.underlying22 ce33 (by decide) by33 (fun n' hn cs x h hs => o_T h hs) (show DataW.trod enc Tryz.prog w 0 sp held m 22 [c1] = some a1 from f1) (fun k hk => hs k (by simp [DataW.weights,Tryz.underlying24,DataW.weightsEach,hk]))
  cases el1
  exact ⟨⟨s0,l1⟩,A1,d1,rfl,⟨z0,hl1,hc1⟩,hr1⟩
theorem o_L {n : Nat} {cs : List Value} {x : DataW H × List MemPlace} (h : DataW.trod enc Tryz.prog w 0 sp held n 38 cs = some x) (hs : ∀ k ∈ x.1.weights Tryz.prog 38,k ≤ reachBytes) : ∃ y,RL w y cs := by
  obtain ⟨xs,m,rfl,rfl,hl,hx,hf⟩ := DataW.trod_struct Tryz.underlying38 h
  obtain ⟨c0,c1,c2,c3,c4,c5,c6,c7,c8,c9,c10,c11,c12,c13,c14,c15,rfl⟩ := len16 (hl.trans ce38)
  obtain ⟨a0,a1,a2,a3,a4,rfl⟩ := xs5 hx
  have f0 : DataW.trod enc Tryz.prog w 0 sp held m 26 (([c0,c1,c2,c3,c4,c5,c6,c7,c8,c9,c10,c11,c12,c13,c14,c15].drop 0).take (Tryz.prog.cellsOf 26)) = some a0 := hf 0 _ rfl
  rw [ce26] at f0
  have f1 : DataW.trod enc Tryz.prog w 0 sp held m 24 (([c0,c1,c2,c3,c4,c5,c6,c7,c8,c9,c10,c11,c12,c13,c14,c15].drop 1).take (Tryz.prog.cellsOf 24)) = some a1 := hf 1 _ rfl
  rw [ce24] at f1
  have f2 : DataW.trod enc Tryz.prog w 0 sp held m 27 (([c0,c1,c2,c3,c4,c5,c6,c7,c8,c9,c10,c11,c12,c13,c14,c15].drop 3).take (Tryz.prog.cellsOf 27)) = some a2 := hf 2 _ rfl
  rw [ce27] at f2
  have f3 : DataW.trod enc Tryz.prog w 0 sp held m 36 (([c0,c1,c2,c3,c4,c5,c6,c7,c8,c9,c10,c11,c12,c13,c14,c15].drop 4).take (Tryz.prog.cellsOf 36)) = some a3 := hf 3 _ rfl
  rw [ce36] at f3
  have f4 : DataW.trod enc Tryz.prog w 0 sp held m 36 (([c0,c1,c2,c3,c4,c5,c6,c7,c8,c9,c10,c11,c12,c13,c14,c15].drop 10).take (Tryz.prog.cellsOf 36)) = some a4 := hf 4 _ rfl
  rw [ce36] at f4
  obtain ⟨k0,e0,r0,w0⟩ := DataW.trod_int (k := .i8) Tryz.underlying26 (show DataW.trod enc Tryz.prog w 0 sp held m 26 [c0] = some a0 from f0)
  cases e0
  subst r0
  obtain ⟨v1,A1,d1,ev1,ho1,hr1⟩ := o_A (show DataW.trod enc Tryz.prog w 0 sp held m 24 [c1,c2] = some a1 from f1) (fun k hk => hs k (by simp [DataW.weights,Tryz.underlying38,DataW.weightsEach,hk]))
  simp only [List.cons.injEq,and_true] at ev1
  obtain ⟨rfl,rfl⟩ := ev1
  obtain ⟨k2,e2,r2,w2⟩ := DataW.trod_int (k := .i8) Tryz.underlying27 (show DataW.trod enc Tryz.prog w 0 sp held m 27 [c3] = some a2 from f2)
  cases e2
  subst r2
  obtain ⟨v3,hv3⟩ := o_E m _ _ (show DataW.trod enc Tryz.prog w 0 sp held m 36 [c4,c5,c6,c7,c8,c9] = some a3 from f3) (fun k hk => hs k (by simp [DataW.weights,Tryz.underlying38,DataW.weightsEach,hk]))
  obtain ⟨A3,d3,ev3,ho3,hr3⟩ := RE.open_ hv3
  simp only [List.cons.injEq,and_true] at ev3
  obtain ⟨rfl,rfl,rfl,rfl,rfl,rfl⟩ := ev3
  obtain ⟨v4,hv4⟩ := o_E m _ _ (show DataW.trod enc Tryz.prog w 0 sp held m 36 [c10,c11,c12,c13,c14,c15] = some a4 from f4) (fun k hk => hs k (by simp [DataW.weights,Tryz.underlying38,DataW.weightsEach,hk]))
  obtain ⟨A4,d4,ev4,ho4,hr4⟩ := RE.open_ hv4
  simp only [List.cons.injEq,and_true] at ev4
  obtain ⟨rfl,rfl,rfl,rfl,rfl,rfl⟩ := ev4
  exact ⟨⟨k0,v1,k2,v3,v4⟩,A1,A3,A4,d1,d3,d4,rfl,⟨i8_wf w0,i8_wf w2,ho1,ho3,ho4⟩,hr1,hr3,hr4⟩
theorem o_G {n : Nat} {cs : List Value} {x : DataW H × List MemPlace} (h : DataW.trod enc Tryz.prog w 0 sp held n 129 cs = some x) (hs : ∀ k ∈ x.1.weights Tryz.prog 129,k ≤ reachBytes) : ∃ y,RG w y cs := by
  obtain ⟨xs,m,rfl,rfl,hl,hx,hf⟩ := DataW.trod_struct Tryz.underlying129 h
  obtain ⟨c0,c1,c2,c3,c4,rfl⟩ := len5 (hl.trans ce129)
  obtain ⟨a0,a1,rfl⟩ := xs2 hx
  have f0 : DataW.trod enc Tryz.prog w 0 sp held m 127 (([c0,c1,c2,c3,c4].drop 0).take (Tryz.prog.cellsOf 127)) = some a0 := hf 0 _ rfl
  rw [ce127] at f0
  have f1 : DataW.trod enc Tryz.prog w 0 sp held m 33 (([c0,c1,c2,c3,c4].drop 1).take (Tryz.prog.cellsOf 33)) = some a1 := hf 1 _ rfl
  rw [ce33] at f1
  obtain ⟨k0,e0,r0,w0⟩ := DataW.trod_int (k := .i8) Tryz.underlying127 (show DataW.trod enc Tryz.prog w 0 sp held m 127 [c0] = some a0 from f0)
  cases e0
  subst r0
  obtain ⟨v1,ev1,hw1⟩ := o_T (show DataW.trod enc Tryz.prog w 0 sp held m 33 [c1,c2,c3,c4] = some a1 from f1) (fun k hk => hs k (by simp [DataW.weights,Tryz.underlying129,DataW.weightsEach,hk]))
  simp only [List.cons.injEq,and_true] at ev1
  obtain ⟨rfl,rfl,rfl,rfl⟩ := ev1
  exact ⟨⟨k0,v1⟩,rfl,⟨i8_wf w0,hw1⟩⟩
theorem o_U {n : Nat} {cs : List Value} {x : DataW H × List MemPlace} (h : DataW.trod enc Tryz.prog w 0 sp held n 53 cs = some x) (hs : ∀ k ∈ x.1.weights Tryz.prog 53,k ≤ reachBytes) : ∃ y,RU w y cs := by
  obtain ⟨xs,m,rfl,rfl,hl,hx,hf⟩ := DataW.trod_struct Tryz.underlying53 h
  obtain ⟨c0,c1,c2,rfl⟩ := len3 (hl.trans ce53)
  obtain ⟨a0,a1,a2,rfl⟩ := xs3 hx
  have f0 : DataW.trod enc Tryz.prog w 0 sp held m 9 (([c0,c1,c2].drop 0).take (Tryz.prog.cellsOf 9)) = some a0 := hf 0 _ rfl
  rw [ce9] at f0
  have f1 : DataW.trod enc Tryz.prog w 0 sp held m 51 (([c0,c1,c2].drop 1).take (Tryz.prog.cellsOf 51)) = some a1 := hf 1 _ rfl
  rw [ce51] at f1
  have f2 : DataW.trod enc Tryz.prog w 0 sp held m 40 (([c0,c1,c2].drop 2).take (Tryz.prog.cellsOf 40)) = some a2 := hf 2 _ rfl
  rw [ce40] at f2
  obtain ⟨s0,e0,r0,w0⟩ := DataW.trod_string Tryz.underlying9 (show DataW.trod enc Tryz.prog w 0 sp held m 9 [c0] = some a0 from f0)
  cases e0
  subst r0
  have z0 : s0.size ≤ 140737488351232 := hs s0.data.toList.length (by simp [DataW.weights,Tryz.underlying53,DataW.weightsEach])
  obtain ⟨l1,A1,d1,el1,hl1,hc1,hr1⟩ := o_slice RG Ag.none Tryz.underlying51 ce129 (by decide) by129 (fun n' hn cs x h hs => o_G h hs) (show DataW.trod enc Tryz.prog w 0 sp held m 51 [c1] = some a1 from f1) (fun k hk => hs k (by simp [DataW.weights,Tryz.underlying53,DataW.weightsEach,hk]))
  cases el1
  obtain ⟨l2,A2,d2,el2,hl2,hc2,hr2⟩ := o_slice RL Lt.zero Tryz.underlying40 ce38 (by decide) by38 (fun n' hn cs x h hs => o_L h hs) (show DataW.trod enc Tryz.prog w 0 sp held m 40 [c2] = some a2 from f2) (fun k hk => hs k (by simp [DataW.weights,Tryz.underlying53,DataW.weightsEach,hk]))
  cases el2
  exact ⟨⟨s0,l1,l2⟩,A1,A2,d1,d2,rfl,⟨z0,hl1,hc1,hl2,hc2⟩,hr1,hr2⟩
end
end Go.Proofs.Zw

set_option linter.unusedVariables false
set_option maxRecDepth 100000
namespace Go.Proofs.YtjjkfbjidpolmaaGreatDoor
open Go Go.Proofs Go.ChangeShapes Go.WideShapes Go.RowKit Go.Wk Go.Deep
theorem own_ : ownKnob Tryz.prog.godebug = none := by kernel_rfl
theorem kids_ : Kids Tryz.prog (· < Tryz.prog.types.size) := kids_rows (by kernel_rfl) (by kernel_rfl)
theorem full_ : ∀ t e,t < Tryz.prog.types.size → Tryz.prog.underlying t = some (.slice e) → 0 < Tryz.prog.cellsOf e := slices_full_of Tryz.prog (by kernel_rfl)
def litV : DataW Unit → Option Value
  | .lit (.int k n) => some (.int k n)
  | .lit (.string l) => some (.string ⟨l.toArray⟩)
  | _ => none
theorem litV_of {P : Program} {W : World} {sp : Nat → Bool} {held : Bool} {enc : TypeId × Value → Unit} {m : Nat} {e : TypeId} {c : Value} {x : DataW Unit × List MemPlace} (he : (∃ k,P.underlying e = some (.int k)) ∨ P.underlying e = some .string) (h : DataW.trod enc P W 0 sp held m e [c] = some x) : litV x.1 = some c := by
  rcases he with ⟨k,he⟩ | he
  · obtain ⟨n,h1,h2,_⟩ := DataW.trod_int he h
    cases h1; subst h2; rfl
  obtain ⟨s,h1,h2,_⟩ := DataW.trod_string he h
  cases h1; subst h2
  simp [litV]
theorem var_of {P : Program} {W : World} {nm : String} {d : DataW Unit} {ds : List (DataW Unit)} {g t e n : Nat} {cs : List Value} {l : List (String × DataW Unit)} (h : laidMet P l W) (keep : String × DataW Unit → Bool) (hk : l.filter keep = [(nm,d)]) (hg : P.globalNamed nm = some g) (hty : (P.globals[g]?).map (·.type) = some t) (ht : P.underlying t = some (.array n e))
    (he : (∃ k,P.underlying e = some (.int k)) ∨ P.underlying e = some .string) (hce : P.cellsOf e = 1) (hct : P.cellsOf t = n) (hd : d = .agg ds) (hc : ds.map litV = cs.map some) : W.var? P nm = some cs.toArray := by
  have h1 := h.filter keep
  rw [hk] at h1
  obtain ⟨ps,⟨g',t',cs',fuel,p,q,hg',ht',hv,hd',_,_⟩,_⟩ := h1
  obtain rfl := Option.some.inj (hg.symm.trans hg')
  obtain rfl := Option.some.inj (hty.symm.trans ht')
  obtain ⟨xs,m,_,ex,hl0,hl,hel⟩ := DataW.trod_array ht hd'
  rw [hd] at ex
  have e3 : ds = xs.map (·.1) := DataW.agg.inj (Prod.mk.inj ex).1
  rw [hv]
  congr 1
  apply Array.ext'
  rw [List.toList_toArray]
  have hlen : cs'.toList.length = n := by rw [← hct]; exact hl0
  have key : cs'.toList.map some = cs.map some := by
    rw [← hc,e3,List.map_map]
    apply List.ext_getElem
    · simp [hlen,hl]
    intro i h2 h3
    have hi : i < n := by simpa [hlen] using h2
    have hE := hel i hi
    rw [hce,Nat.mul_one,List.getElem?_eq_getElem (by omega)] at hE
    have hx : (cs'.toList.drop i).take 1 = [cs'.toList[i]'(by omega)] := by
      rw [List.drop_eq_getElem_cons (by omega),List.take_succ_cons,List.take_zero]
    rw [hx] at hE
    have := litV_of he hE
    simp only [List.getElem_map,Function.comp]
    rw [this]
  have h7 := congrArg (List.filterMap id) key
  simpa [List.filterMap_map] using h7
theorem tabs_of {W : World} (h : laidMetH Tryz.prog Rows.printRulesRow.laid W) : Tabs Tryz.prog W := by
  rw [MakeChecks.laidMetH_plain _ _ _ (by kernel_rfl)] at h
  refine ⟨?_,?_,?_,?_⟩
  · exact var_of h (fun x => x.1 == "pedigree/print.hold") (d := Rows.laid_pedigree_print_hold) (by kernel_rfl) (g := 1) (t := 156) (by kernel_rfl) (by kernel_rfl) Tryz.underlying156 (.inl ⟨_, Tryz.underlying3⟩) (by kernel_rfl) (by kernel_rfl) rfl (cs := [.int .i64 4, .int .i64 3, .int .i64 1, .int .i64 1, .int .i64 2, .int .i64 2, .int .i64 2, .int .i64 1, .int .i64 4, .int .i64 4, .int .i64 4]) rfl
  · exact var_of h (fun x => x.1 == "pedigree/print.words") (d := Rows.laid_pedigree_print_words) (by kernel_rfl) (g := 2) (t := 157) (by kernel_rfl) (by kernel_rfl) Tryz.underlying157 (.inr Tryz.underlying9) (by kernel_rfl) (by kernel_rfl) rfl (cs := [.string ⟨#[]⟩, .string ⟨#[]⟩, .string ⟨#[]⟩, .string ⟨#[]⟩, .string ⟨#[]⟩, .string ⟨#[]⟩, .string ⟨#[]⟩, .string ⟨#[]⟩, .string ⟨#[108, 101, 110]⟩, .string ⟨#[99, 104, 97, 114, 115]⟩, .string ⟨#[98, 97, 99, 107]⟩]) rfl
  · exact var_of h (fun x => x.1 == "pedigree/print.signs") (d := Rows.laid_pedigree_print_signs) (by kernel_rfl) (g := 3) (t := 158) (by kernel_rfl) (by kernel_rfl) Tryz.underlying158 (.inr Tryz.underlying9) (by kernel_rfl) (by kernel_rfl) rfl (cs := [.string ⟨#[]⟩, .string ⟨#[]⟩, .string ⟨#[43]⟩, .string ⟨#[45]⟩, .string ⟨#[42]⟩, .string ⟨#[47]⟩, .string ⟨#[37]⟩, .string ⟨#[38]⟩]) rfl
  exact var_of h (fun x => x.1 == "internal/strconv.uint64pow10") (d := Rows.laid_internal_strconv_uint64pow10) (by kernel_rfl) (g := 5) (t := 194) (by kernel_rfl) (by kernel_rfl) Tryz.underlying194 (.inl ⟨_, Tryz.underlying177⟩) (by kernel_rfl) (by kernel_rfl) rfl (cs := Go.Lib.pow10Tab.map fun z => .int .u64 z) rfl
theorem rels_of {W : World} (h : laidMetH Tryz.prog Rows.printRulesRow.laid W) : RelT Tryz.prog W := by
  rw [MakeChecks.laidMetH_plain _ _ _ (by kernel_rfl)] at h
  exact var_of h (fun x => x.1 == "pedigree/print.rels") (d := Rows.laid_pedigree_print_rels) (by kernel_rfl) (g := 0) (t := 154) (by kernel_rfl) (by kernel_rfl) Tryz.underlying154 (.inr Tryz.underlying9) (by kernel_rfl) (by kernel_rfl) rfl (cs := [.string ⟨#[]⟩, .string ⟨#[61]⟩, .string ⟨#[33, 61]⟩, .string ⟨#[60]⟩, .string ⟨#[60, 61]⟩, .string ⟨#[62]⟩, .string ⟨#[62, 61]⟩]) rfl
theorem folds_of {W : World} (h : laidMetH Tryz.prog Rows.printRulesRow.laid W) : FoldT Tryz.prog W := by
  rw [MakeChecks.laidMetH_plain _ _ _ (by kernel_rfl)] at h
  exact var_of h (fun x => x.1 == "pedigree/print.folds") (d := Rows.laid_pedigree_print_folds) (by kernel_rfl) (g := 4) (t := 161) (by kernel_rfl) (by kernel_rfl) Tryz.underlying161 (.inr Tryz.underlying9) (by kernel_rfl) (by kernel_rfl) rfl (cs := [.string ⟨#[]⟩, .string ⟨#[]⟩, .string ⟨#[115, 117, 109]⟩, .string ⟨#[109, 105, 110]⟩, .string ⟨#[109, 97, 120]⟩]) rfl
theorem lifted (os : Os) (started : os.Started) (H : Type) (enc : TypeId × Value → H) :
    ReturnsInHanded {} Tryz.checked os 4 .any (fun w args => (Rows.printRulesSpec.pre enc Tryz.prog Tryz.f4 [] false w args ∧ laidMetH Tryz.prog Rows.printRulesRow.laid w) ∧ sizedMet enc Tryz.prog Tryz.f4 (OpenSpec.ofChange Rows.printRulesSpec) false w args)
      (Rows.printRulesSpec.post enc Tryz.prog Tryz.f4 false true false false) := by
  refine returnsInHanded_of_change_and (C := Tryz.checked) (X := fun w _ => laidMetH Tryz.prog Rows.printRulesRow.laid w) (fun _ _ _ hh h => h.of_heap hh) own_ started (by kernel_rfl) Tryz.func4
    (ChangeSpec.witness_shaped (enc := enc) (C := Tryz.checked) (os := os) (X := fun w _ => laidMetH Tryz.prog Rows.printRulesRow.laid w) false (World.laidAll Tryz.prog os Rows.printRulesRow.laid) #[.agg #[.string (⟨#[]⟩ : ByteArray),.slice none 0 0,.slice none 0 0]] 8 (World.laidAll_os _ _ _)
      (World.shaped_of_ZipB (by kernel_rfl) (by kernel_rfl)) (by kernel_rfl) (by kernel_rfl) (by kernel_rfl)
      (by rw [MakeChecks.laidMetH_plain _ _ _ (by kernel_rfl)]; exact laidMet_laidAll _ (by kernel_rfl) (by kernel_rfl))) ?_
  intro W base args ds gs before hval0 hW hc hS hL _
  have hval : ∀ (j : Nat) t v,Tryz.f4.params[j]? = some t → args[j]? = some v → Value.okWide Tryz.prog W .any base t v := hval0
  have hW' := hW
  have hlt := DataW.Whole.lt hW
  obtain ⟨p,q,hA0,hV,rfl,_,_⟩ := hW
  have hA : DataW.TrodAll enc Tryz.prog W 0 (fun _ => true) true Tryz.f4.params.toList args.toList ds p := hA0
  have hAk := hA
  rw [Tryz.params4] at hA hval
  obtain ⟨v0,d0,rfl,rfl,h0⟩ := trodAll_one hA
  obtain ⟨rfl,rfl⟩ := trodVars_none hV
  have hS' : ((DataW.weightsEach Tryz.prog (Tryz.f4.params.toList ++ DataSpec.varTypes Tryz.prog Rows.printRulesSpec.plain) ([d0] ++ [])).all fun x => decide (x ≤ reachBytes)) = true := hS
  rw [Tryz.params4] at hS'
  obtain ⟨cs0,rfl,hcs0⟩ := okWide_struct Tryz.underlying53 (hval 0 53 v0 rfl rfl)
  obtain ⟨fuel0,hf0⟩ := h0
  replace hf0 : DataW.trod enc Tryz.prog W 0 (fun _ => true) true fuel0 53 cs0.toList = some (d0,p) := hf0
  obtain ⟨e0,e0Ah,e0Ab,e0ch,e0cb,hc0,e0h,e0rh,e0rb⟩ := Go.Proofs.Zw.o_U hf0 (fun k hk => by
    have := List.all_eq_true.1 hS' k (DataW.weights_mem_each (j := 0) (t := 53) (d := d0) rfl rfl k hk)
    simpa using this)
  have hd0 : cs0 = (ruCs e0 e0Ah e0Ab e0ch e0cb).toArray := Array.ext' hc0
  have h2 := DataW.TrodAll.respare (spare' := fun b => decide (b < W.heap.size)) kids_ full_ (by rw [Tryz.params4]; decide) hAk (fun x hx => by simpa using hlt x (by simpa using hx))
  subst hd0
  refine Calls.mono (Go.Proofs.Zw.l_PrintRules e0 e0Ah e0Ab e0ch e0cb W e0h e0rh e0rb (tabs_of hL) (rels_of hL) (folds_of hL)) ?_
  rintro en W' ⟨v,rfl,rfl,x⟩
  have hbl := Ext.below x
  refine ⟨_,rfl,_,_,_,[],p,[],hW',?_,?_,rfl,hbl.frame _,fun h => by cases h⟩
  · exact trodAll_mk1 (shut_bool Tryz.underlying4 true)
  rw [Tryz.params4] at h2 ⊢
  obtain ⟨v1,d1,hv1,hd1,fuel2,hf2⟩ := trodAll_one h2
  simp only [List.cons.injEq,and_true] at hd1
  subst hd1
  refine trodAll_mk1 ⟨fuel2,?_⟩
  have hv2 : v1 = .agg (ruCs e0 e0Ah e0Ab e0ch e0cb).toArray := by simpa using hv1.symm
  subst hv2
  exact DataW.trod_carry fuel2 _ _ _ hf2 (fun q hq => hbl.same (hlt q (by simpa using hq)))
theorem f_holds : Rows.PrintRulesSaid :=
  OpenClaim.holds_of_wide 4 Tryz.f4 rfl rfl rfl rfl rfl rfl rfl ⟨rfl,rfl,rfl,rfl,rfl⟩ rfl rfl rfl rfl rfl (by kernel_rfl) Tryz.func4 (by kernel_rfl)
    (of_decide_eq_true (by kernel_rfl)) (by unfold Func.isWrapper; rw [if_neg (of_decide_eq_false (by kernel_rfl))]; exact ⟨rfl,rfl⟩)
    (fun os started H enc _ => lifted os started H enc)
end Go.Proofs.YtjjkfbjidpolmaaGreatDoor

set_option maxRecDepth 100000
namespace Go.Proofs.YtjjkfbjidpolmaaGreatDoor
open Go Go.Proofs
theorem printRules_card : Rows.PrintRulesCardSaid :=
  Claim7.holds_tied_plain_at .later [] [.data, .data, .data, .data, .data, .data, .data, .data] true (true, "8e5f5d00bd941419de4c50e2d145212bff63ccbd433706fb4c3c79556eb9ed38") true
    f_holds (fun _ h => by cases h) (by kernel_rfl) (fun _ h => by cases h) printRules_row_tie rfl ⟨rfl,rfl⟩ (by kernel_rfl) rfl
    (fun f fn hf hfn => by
      obtain rfl : f = 4 := Option.some.inj ((show Tryz.prog.funcNamed "pedigree/pedigreelaw06.PrintRules" = some 4 by kernel_rfl).symm.trans hf) |>.symm
      obtain rfl : fn = Tryz.f4 := (Option.some.inj (Tryz.func4.symm.trans hfn)).symm
      exact ⟨by kernel_rfl,fun j t ht => by
        rw [Tryz.params4] at ht
        have hm : t ∈ [53] := by simpa using Array.mem_of_getElem? ht
        have hall : ([53].all fun u => !Tryz.prog.wantsStandIn u) = true := by kernel_rfl
        exact (show Tryz.prog.wantsStandIn t = false by simpa using List.all_eq_true.1 hall t hm)⟩)
    (by kernel_rfl)
end Go.Proofs.YtjjkfbjidpolmaaGreatDoor
