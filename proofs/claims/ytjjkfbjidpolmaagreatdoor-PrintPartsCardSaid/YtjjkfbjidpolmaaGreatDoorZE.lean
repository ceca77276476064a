/- YtjjkfbjidpolmaaGreatDoorZE: part of the proof of this seat, by an AI agent: the arguments are opened; the row; the tied card: the law returns true for every input that the row lets in, its arguments read behind the call as before. No condition of its own but those that its theorems state. -/
import Derived.Test.YtjjkfbjidpolmaaGreatDoorZD
import Derived.Test.YtjjkfbjidpolmaaGreatDoorRows
import Derived.ChangeArms
import Derived.DataReads
import Derived.SizedLaws
import Derived.Deep.Slices
import Derived.ChangeSame
import Derived.ChangeVars
import Derived.JoinedOf
import Derived.RowKit
import Derived.RowKit2
import Derived.RowKitTokens
import Derived.LaidLaws
import Derived.LaidHandle
import Derived.Stop.Joined
import Derived.ReadAgain
import Derived.ChangeAlike
import Derived.JoinedAt
import Derived.ProofKit
import Derived.OpenShut
import Derived.LaidMore
import Derived.Lay
import Derived.LaidSub
import Derived.Test.YtjjkfbjidpolmaaGreatDoorCards
import Derived.Test.YtjjkfbjidpolmaaGreatDoorTie
import Derived.SevenTiedAt
set_option linter.unusedVariables false
set_option linter.unusedSimpArgs false
set_option maxRecDepth 10000
namespace Go.Proofs.Zw
open Go Go.Wk Go.Proofs Go.Lib
attribute [local irreducible] Go.wpList Go.wpStill Go.wpQuiet Go.Code.wp Go.Calls
theorem F_ar121 : arrayT Tryz.prog 121 4 1 = true := by kernel_rfl
theorem F_e77 : enterable Tryz.prog 77 = true := by kernel_rfl
theorem F_e78 : enterable Tryz.prog 78 = true := by kernel_rfl
theorem F_e79 : enterable Tryz.prog 79 = true := by kernel_rfl
theorem F_o77 : one Tryz.prog 77 = true := by kernel_rfl
theorem F_sz121 : (Tryz.prog.info? 121).map (·.size) = some 4 := by kernel_rfl
theorem F_z121 : (Tryz.prog.info? 121).bind (·.zero) = some (.agg #[.nilFunc, .nilFunc, .nilFunc, .nilFunc]) := by kernel_rfl
theorem bd121_1f77_2f78_3f79 : ∀ w : World, (Instr.build 121 [(1, .func (.func 77) #[] #[]), (2, .func (.func 78) #[] #[]), (3, .func (.func 79) #[] #[])].toArray).run Tryz.prog w = .ok (.agg #[.nilFunc, .func (.func 77) #[] #[], .func (.func 78) #[] #[], .func (.func 79) #[] #[]]) w := by
  intros
  kernel_rfl
set_option maxHeartbeats 4000000 in
theorem p_literal1 (x : Lt) (Aa A1 A2 : Option Addr) (ca c1 c2 : Nat) (g : Nat) (s0 : ByteArray) (wz : World) (w : World) (x0 : Ext wz w) (tb : Tabs Tryz.prog wz) (hb : BW 5 97 wz.heap.size w g s0) (ho : x.okc ca c1 c2) (hra : Row RT 4 wz Aa x.a.args) (hr1 : Row RE 6 wz A1 x.e1.kids) (hr2 : Row RE 6 wz A2 x.e2.kids) (hlt : ltB x = true) (tr : RelT Tryz.prog wz) (hs : s0.size + 1000000 ≤ 1000000000000) (hk : x.k = 1) :
    Rt Tryz.prog 40 #[.pointer (some ⟨g, 0, none⟩), .agg #[.int .i8 x.k, .string x.a.p, .slice Aa x.a.args.length ca, .int .i8 x.r, .int .i8 x.e1.op, .string x.e1.t.v, .int .i8 x.e1.t.l.k, .int .i64 x.e1.t.l.n, .string x.e1.t.l.s, .slice A1 x.e1.kids.length c1, .int .i8 x.e2.op, .string x.e2.t.v, .int .i8 x.e2.t.l.k, .int .i64 x.e2.t.l.n, .string x.e2.t.l.s, .slice A2 x.e2.kids.length c2]] w fun v w' => v = .tuple #[] ∧ Wr 5 97 wz.heap.size g (s0 ++ ltW x) w w' := by
  refine enter Tryz.func40 rfl (l := [.pointer (some ⟨g, 0, none⟩), .agg #[.int .i8 x.k, .string x.a.p, .slice Aa x.a.args.length ca, .int .i8 x.r, .int .i8 x.e1.op, .string x.e1.t.v, .int .i8 x.e1.t.l.k, .int .i64 x.e1.t.l.n, .string x.e1.t.l.s, .slice A1 x.e1.kids.length c1, .int .i8 x.e2.op, .string x.e2.t.v, .int .i8 x.e2.t.l.k, .int .i64 x.e2.t.l.n, .string x.e2.t.l.s, .slice A2 x.e2.kids.length c2]]) rfl Tryz.ntmps40 (Nat.le_of_ble_eq_true rfl) ?_
  have hB_ := Keep.size x0
  have hoa_ := Lt.okc.a ho
  have ho1_ := Lt.okc.e1 ho
  have ho2_ := Lt.okc.e2 ho
  have hl1_ := Ex.okc.l ho1_
  have hl2_ := Ex.okc.l ho2_
  have hc1_ := Ex.okc.c ho1_
  have hc2_ := Ex.okc.c ho2_
  have hla_ := At.okc.l hoa_
  have hca_ := At.okc.c hoa_
  have hpa_ := At.okc.p hoa_
  refine c_seq (c_reg ?_)
  refine s_box (v := .agg #[.int .i8 x.k, .string x.a.p, .slice Aa x.a.args.length ca, .int .i8 x.r, .int .i8 x.e1.op, .string x.e1.t.v, .int .i8 x.e1.t.l.k, .int .i64 x.e1.t.l.n, .string x.e1.t.l.s, .slice A1 x.e1.kids.length c1, .int .i8 x.e2.op, .string x.e2.t.v, .int .i8 x.e2.t.l.k, .int .i64 x.e2.t.l.n, .string x.e2.t.l.s, .slice A2 x.e2.kids.length c2]) (cs := #[.int .i8 x.k, .string x.a.p, .slice Aa x.a.args.length ca, .int .i8 x.r, .int .i8 x.e1.op, .string x.e1.t.v, .int .i8 x.e1.t.l.k, .int .i64 x.e1.t.l.n, .string x.e1.t.l.s, .slice A1 x.e1.kids.length c1, .int .i8 x.e2.op, .string x.e2.t.v, .int .i8 x.e2.t.l.k, .int .i64 x.e2.t.l.n, .string x.e2.t.l.s, .slice A2 x.e2.kids.length c2]) (w0 rfl) (ev_t rfl rfl) rfl ?_
  intro w2 g1 n3
  have ne_g1 : g1 ≠ g := by have a_ := NewB.eq n3; have b_ := BW.lt hb; omega
  refine c_done (n_then (c_seq (c_reg ?_)))
  refine s_build (v := .agg #[.nilFunc, .func (.func 77) #[] #[], .func (.func 78) #[] #[], .func (.func 79) #[] #[]]) (vs := [(1, .func (.func 77) #[] #[]), (2, .func (.func 78) #[] #[]), (3, .func (.func 79) #[] #[])]) (b3 ev_f ev_f ev_f) (bd121_1f77_2f78_3f79) (w0 rfl) ?_
  refine s_alloc (cs := #[.nilFunc, .nilFunc, .nilFunc, .nilFunc]) (w0 rfl) F_z121 rfl ?_
  intro w5 g4 n6
  have ne_g4 : g4 ≠ g := by have a_ := NewB.eq n6; have b_ := BW.lt (BW.ext hb (NewB.ext n3)); omega
  refine s_store (cs' := #[.nilFunc, .func (.func 77) #[] #[], .func (.func 78) #[] #[], .func (.func 79) #[] #[]]) F_sz121 (ev_t rfl rfl) (ev_t rfl rfl) (l := [.nilFunc, .func (.func 77) #[] #[], .func (.func 78) #[] #[], .func (.func 79) #[] #[]]) rfl rfl rfl (NewB.blk n6) (Nat.le_of_ble_eq_true rfl) rfl (w0 rfl) ?_
  intro w7 k8
  refine c_done (n_then ?_)
  refine c_tail 6 mixed (by kernel_rfl) rfl rfl ?_
  intro w9 x10
  refine t_val (v := .pointer (some ⟨g1, 0, none⟩)) (w0 rfl) (r_field (off := 0) (o' := 0) F_f38_0 (ev_t rfl rfl) rfl) ?_
  refine t_val (v := .int .i8 x.k) (w0 rfl) (r_load (v := .int .i8 x.k) F_o26 (ev_t rfl rfl) (cell_of_blk (i := 0) (Ext.blk (Ext.trans (Keep.then_ (NewB.ext n6) (Wrote.keep k8) (fun i_ hi_ h_ => by have a_ := NewB.eq n6; have b_ := Keep.size (Ext.refl w2); omega)) x10) (NewB.blk n3)) rfl)) ?_
  refine t_val (v := .pointer (some ⟨g4, 1, none⟩)) (w0 rfl) (r_indexA (j := 1) F_ar121 (ev_t rfl rfl) (ev_t rfl rfl) (by omega) (by decide)) ?_
  refine t_val (v := .func (.func 77) #[] #[]) (w0 rfl) (r_load (v := .func (.func 77) #[] #[]) F_o77 (ev_t rfl rfl) (cell_of_blk (i := 1) (Ext.blk x10 (Wrote.blk k8)) rfl)) ?_
  refine t_val (v := .pointer (some ⟨g, 0, none⟩)) (w0 rfl) (r_move (v := .pointer (some ⟨g, 0, none⟩)) (ev_t rfl rfl)) ?_
  refine t_val (v := .agg #[.int .i8 x.k, .string x.a.p, .slice Aa x.a.args.length ca, .int .i8 x.r, .int .i8 x.e1.op, .string x.e1.t.v, .int .i8 x.e1.t.l.k, .int .i64 x.e1.t.l.n, .string x.e1.t.l.s, .slice A1 x.e1.kids.length c1, .int .i8 x.e2.op, .string x.e2.t.v, .int .i8 x.e2.t.l.k, .int .i64 x.e2.t.l.n, .string x.e2.t.l.s, .slice A2 x.e2.kids.length c2]) (w0 rfl) (r_loadL (cs := [.int .i8 x.k, .string x.a.p, .slice Aa x.a.args.length ca, .int .i8 x.r, .int .i8 x.e1.op, .string x.e1.t.v, .int .i8 x.e1.t.l.k, .int .i64 x.e1.t.l.n, .string x.e1.t.l.s, .slice A1 x.e1.kids.length c1, .int .i8 x.e2.op, .string x.e2.t.v, .int .i8 x.e2.t.l.k, .int .i64 x.e2.t.l.n, .string x.e2.t.l.s, .slice A2 x.e2.kids.length c2]) (ca := #[.int .i8 x.k, .string x.a.p, .slice Aa x.a.args.length ca, .int .i8 x.r, .int .i8 x.e1.op, .string x.e1.t.v, .int .i8 x.e1.t.l.k, .int .i64 x.e1.t.l.n, .string x.e1.t.l.s, .slice A1 x.e1.kids.length c1, .int .i8 x.e2.op, .string x.e2.t.v, .int .i8 x.e2.t.l.k, .int .i64 x.e2.t.l.n, .string x.e2.t.l.s, .slice A2 x.e2.kids.length c2]) F_m38 (ev_t rfl rfl) rfl rfl (blk_cells (Ext.blk (Ext.trans (Keep.then_ (NewB.ext n6) (Wrote.keep k8) (fun i_ hi_ h_ => by have a_ := NewB.eq n6; have b_ := Keep.size (Ext.refl w2); omega)) x10) (NewB.blk n3)) 0 (cs := [.int .i8 x.k, .string x.a.p, .slice Aa x.a.args.length ca, .int .i8 x.r, .int .i8 x.e1.op, .string x.e1.t.v, .int .i8 x.e1.t.l.k, .int .i64 x.e1.t.l.n, .string x.e1.t.l.s, .slice A1 x.e1.kids.length c1, .int .i8 x.e2.op, .string x.e2.t.v, .int .i8 x.e2.t.l.k, .int .i64 x.e2.t.l.n, .string x.e2.t.l.s, .slice A2 x.e2.kids.length c2]) rfl)) ?_
  refine t_done ?_
  refine s_call F_e77 (w0 rfl) (ev_t rfl rfl) (m2 (ev_t rfl rfl) (ev_t rfl rfl)) (args := #[.pointer (some ⟨g, 0, none⟩), .agg #[.int .i8 x.k, .string x.a.p, .slice Aa x.a.args.length ca, .int .i8 x.r, .int .i8 x.e1.op, .string x.e1.t.v, .int .i8 x.e1.t.l.k, .int .i64 x.e1.t.l.n, .string x.e1.t.l.s, .slice A1 x.e1.kids.length c1, .int .i8 x.e2.op, .string x.e2.t.v, .int .i8 x.e2.t.l.k, .int .i64 x.e2.t.l.n, .string x.e2.t.l.s, .slice A2 x.e2.kids.length c2]]) rfl (p_pos x Aa A1 A2 ca c1 c2 g (s0) wz _ (Ext.trans (Keep.then_ (Ext.trans (Ext.trans x0 (NewB.ext n3)) (NewB.ext n6)) (Wrote.keep k8) (fun i_ hi_ h_ => by have a_ := NewB.eq n6; have b_ := Keep.size (Ext.trans x0 (NewB.ext n3)); omega)) x10) tb (BW.ext hb (Ext.trans (Keep.then_ (Ext.trans (NewB.ext n3) (NewB.ext n6)) (Wrote.keep k8) (fun i_ hi_ h_ => by have a_ := NewB.eq n6; have b_ := Keep.size (NewB.ext n3); omega)) x10)) ho hra hr1 hr2 (by assumption) tr (by (try simp only [ByteArray.size_append, z0]); omega) hk) ?_
  rintro _ w11 ⟨rfl, wr12⟩
  refine c_done ?_
  refine ret0 rfl ?_
  exact ⟨_, rfl, rfl, Wr.cast (Wr.then_ (Wr.of_ext hb (Ext.trans (Keep.then_ (Ext.trans (NewB.ext n3) (NewB.ext n6)) (Wrote.keep k8) (fun i_ hi_ h_ => by have a_ := NewB.eq n6; have b_ := Keep.size (NewB.ext n3); omega)) x10) hB_) wr12) (rfl)⟩
set_option maxHeartbeats 4000000 in
theorem p_literal2 (x : Lt) (Aa A1 A2 : Option Addr) (ca c1 c2 : Nat) (g : Nat) (s0 : ByteArray) (wz : World) (w : World) (x0 : Ext wz w) (tb : Tabs Tryz.prog wz) (hb : BW 5 97 wz.heap.size w g s0) (ho : x.okc ca c1 c2) (hra : Row RT 4 wz Aa x.a.args) (hr1 : Row RE 6 wz A1 x.e1.kids) (hr2 : Row RE 6 wz A2 x.e2.kids) (hlt : ltB x = true) (tr : RelT Tryz.prog wz) (hs : s0.size + 1000000 ≤ 1000000000000) (hk : x.k = 2) :
    Rt Tryz.prog 40 #[.pointer (some ⟨g, 0, none⟩), .agg #[.int .i8 x.k, .string x.a.p, .slice Aa x.a.args.length ca, .int .i8 x.r, .int .i8 x.e1.op, .string x.e1.t.v, .int .i8 x.e1.t.l.k, .int .i64 x.e1.t.l.n, .string x.e1.t.l.s, .slice A1 x.e1.kids.length c1, .int .i8 x.e2.op, .string x.e2.t.v, .int .i8 x.e2.t.l.k, .int .i64 x.e2.t.l.n, .string x.e2.t.l.s, .slice A2 x.e2.kids.length c2]] w fun v w' => v = .tuple #[] ∧ Wr 5 97 wz.heap.size g (s0 ++ ltW x) w w' := by
  refine enter Tryz.func40 rfl (l := [.pointer (some ⟨g, 0, none⟩), .agg #[.int .i8 x.k, .string x.a.p, .slice Aa x.a.args.length ca, .int .i8 x.r, .int .i8 x.e1.op, .string x.e1.t.v, .int .i8 x.e1.t.l.k, .int .i64 x.e1.t.l.n, .string x.e1.t.l.s, .slice A1 x.e1.kids.length c1, .int .i8 x.e2.op, .string x.e2.t.v, .int .i8 x.e2.t.l.k, .int .i64 x.e2.t.l.n, .string x.e2.t.l.s, .slice A2 x.e2.kids.length c2]]) rfl Tryz.ntmps40 (Nat.le_of_ble_eq_true rfl) ?_
  have hB_ := Keep.size x0
  have hoa_ := Lt.okc.a ho
  have ho1_ := Lt.okc.e1 ho
  have ho2_ := Lt.okc.e2 ho
  have hl1_ := Ex.okc.l ho1_
  have hl2_ := Ex.okc.l ho2_
  have hc1_ := Ex.okc.c ho1_
  have hc2_ := Ex.okc.c ho2_
  have hla_ := At.okc.l hoa_
  have hca_ := At.okc.c hoa_
  have hpa_ := At.okc.p hoa_
  refine c_seq (c_reg ?_)
  refine s_box (v := .agg #[.int .i8 x.k, .string x.a.p, .slice Aa x.a.args.length ca, .int .i8 x.r, .int .i8 x.e1.op, .string x.e1.t.v, .int .i8 x.e1.t.l.k, .int .i64 x.e1.t.l.n, .string x.e1.t.l.s, .slice A1 x.e1.kids.length c1, .int .i8 x.e2.op, .string x.e2.t.v, .int .i8 x.e2.t.l.k, .int .i64 x.e2.t.l.n, .string x.e2.t.l.s, .slice A2 x.e2.kids.length c2]) (cs := #[.int .i8 x.k, .string x.a.p, .slice Aa x.a.args.length ca, .int .i8 x.r, .int .i8 x.e1.op, .string x.e1.t.v, .int .i8 x.e1.t.l.k, .int .i64 x.e1.t.l.n, .string x.e1.t.l.s, .slice A1 x.e1.kids.length c1, .int .i8 x.e2.op, .string x.e2.t.v, .int .i8 x.e2.t.l.k, .int .i64 x.e2.t.l.n, .string x.e2.t.l.s, .slice A2 x.e2.kids.length c2]) (w0 rfl) (ev_t rfl rfl) rfl ?_
  intro w2 g1 n3
  have ne_g1 : g1 ≠ g := by have a_ := NewB.eq n3; have b_ := BW.lt hb; omega
  refine c_done (n_then (c_seq (c_reg ?_)))
  refine s_build (v := .agg #[.nilFunc, .func (.func 77) #[] #[], .func (.func 78) #[] #[], .func (.func 79) #[] #[]]) (vs := [(1, .func (.func 77) #[] #[]), (2, .func (.func 78) #[] #[]), (3, .func (.func 79) #[] #[])]) (b3 ev_f ev_f ev_f) (bd121_1f77_2f78_3f79) (w0 rfl) ?_
  refine s_alloc (cs := #[.nilFunc, .nilFunc, .nilFunc, .nilFunc]) (w0 rfl) F_z121 rfl ?_
  intro w5 g4 n6
  have ne_g4 : g4 ≠ g := by have a_ := NewB.eq n6; have b_ := BW.lt (BW.ext hb (NewB.ext n3)); omega
  refine s_store (cs' := #[.nilFunc, .func (.func 77) #[] #[], .func (.func 78) #[] #[], .func (.func 79) #[] #[]]) F_sz121 (ev_t rfl rfl) (ev_t rfl rfl) (l := [.nilFunc, .func (.func 77) #[] #[], .func (.func 78) #[] #[], .func (.func 79) #[] #[]]) rfl rfl rfl (NewB.blk n6) (Nat.le_of_ble_eq_true rfl) rfl (w0 rfl) ?_
  intro w7 k8
  refine c_done (n_then ?_)
  refine c_tail 6 mixed (by kernel_rfl) rfl rfl ?_
  intro w9 x10
  refine t_val (v := .pointer (some ⟨g1, 0, none⟩)) (w0 rfl) (r_field (off := 0) (o' := 0) F_f38_0 (ev_t rfl rfl) rfl) ?_
  refine t_val (v := .int .i8 x.k) (w0 rfl) (r_load (v := .int .i8 x.k) F_o26 (ev_t rfl rfl) (cell_of_blk (i := 0) (Ext.blk (Ext.trans (Keep.then_ (NewB.ext n6) (Wrote.keep k8) (fun i_ hi_ h_ => by have a_ := NewB.eq n6; have b_ := Keep.size (Ext.refl w2); omega)) x10) (NewB.blk n3)) rfl)) ?_
  refine t_val (v := .pointer (some ⟨g4, 2, none⟩)) (w0 rfl) (r_indexA (j := 2) F_ar121 (ev_t rfl rfl) (ev_t rfl rfl) (by omega) (by decide)) ?_
  refine t_val (v := .func (.func 78) #[] #[]) (w0 rfl) (r_load (v := .func (.func 78) #[] #[]) F_o77 (ev_t rfl rfl) (cell_of_blk (i := 2) (Ext.blk x10 (Wrote.blk k8)) rfl)) ?_
  refine t_val (v := .pointer (some ⟨g, 0, none⟩)) (w0 rfl) (r_move (v := .pointer (some ⟨g, 0, none⟩)) (ev_t rfl rfl)) ?_
  refine t_val (v := .agg #[.int .i8 x.k, .string x.a.p, .slice Aa x.a.args.length ca, .int .i8 x.r, .int .i8 x.e1.op, .string x.e1.t.v, .int .i8 x.e1.t.l.k, .int .i64 x.e1.t.l.n, .string x.e1.t.l.s, .slice A1 x.e1.kids.length c1, .int .i8 x.e2.op, .string x.e2.t.v, .int .i8 x.e2.t.l.k, .int .i64 x.e2.t.l.n, .string x.e2.t.l.s, .slice A2 x.e2.kids.length c2]) (w0 rfl) (r_loadL (cs := [.int .i8 x.k, .string x.a.p, .slice Aa x.a.args.length ca, .int .i8 x.r, .int .i8 x.e1.op, .string x.e1.t.v, .int .i8 x.e1.t.l.k, .int .i64 x.e1.t.l.n, .string x.e1.t.l.s, .slice A1 x.e1.kids.length c1, .int .i8 x.e2.op, .string x.e2.t.v, .int .i8 x.e2.t.l.k, .int .i64 x.e2.t.l.n, .string x.e2.t.l.s, .slice A2 x.e2.kids.length c2]) (ca := #[.int .i8 x.k, .string x.a.p, .slice Aa x.a.args.length ca, .int .i8 x.r, .int .i8 x.e1.op, .string x.e1.t.v, .int .i8 x.e1.t.l.k, .int .i64 x.e1.t.l.n, .string x.e1.t.l.s, .slice A1 x.e1.kids.length c1, .int .i8 x.e2.op, .string x.e2.t.v, .int .i8 x.e2.t.l.k, .int .i64 x.e2.t.l.n, .string x.e2.t.l.s, .slice A2 x.e2.kids.length c2]) F_m38 (ev_t rfl rfl) rfl rfl (blk_cells (Ext.blk (Ext.trans (Keep.then_ (NewB.ext n6) (Wrote.keep k8) (fun i_ hi_ h_ => by have a_ := NewB.eq n6; have b_ := Keep.size (Ext.refl w2); omega)) x10) (NewB.blk n3)) 0 (cs := [.int .i8 x.k, .string x.a.p, .slice Aa x.a.args.length ca, .int .i8 x.r, .int .i8 x.e1.op, .string x.e1.t.v, .int .i8 x.e1.t.l.k, .int .i64 x.e1.t.l.n, .string x.e1.t.l.s, .slice A1 x.e1.kids.length c1, .int .i8 x.e2.op, .string x.e2.t.v, .int .i8 x.e2.t.l.k, .int .i64 x.e2.t.l.n, .string x.e2.t.l.s, .slice A2 x.e2.kids.length c2]) rfl)) ?_
  refine t_done ?_
  refine s_call F_e78 (w0 rfl) (ev_t rfl rfl) (m2 (ev_t rfl rfl) (ev_t rfl rfl)) (args := #[.pointer (some ⟨g, 0, none⟩), .agg #[.int .i8 x.k, .string x.a.p, .slice Aa x.a.args.length ca, .int .i8 x.r, .int .i8 x.e1.op, .string x.e1.t.v, .int .i8 x.e1.t.l.k, .int .i64 x.e1.t.l.n, .string x.e1.t.l.s, .slice A1 x.e1.kids.length c1, .int .i8 x.e2.op, .string x.e2.t.v, .int .i8 x.e2.t.l.k, .int .i64 x.e2.t.l.n, .string x.e2.t.l.s, .slice A2 x.e2.kids.length c2]]) rfl (p_not x Aa A1 A2 ca c1 c2 g (s0) wz _ (Ext.trans (Keep.then_ (Ext.trans (Ext.trans x0 (NewB.ext n3)) (NewB.ext n6)) (Wrote.keep k8) (fun i_ hi_ h_ => by have a_ := NewB.eq n6; have b_ := Keep.size (Ext.trans x0 (NewB.ext n3)); omega)) x10) tb (BW.ext hb (Ext.trans (Keep.then_ (Ext.trans (NewB.ext n3) (NewB.ext n6)) (Wrote.keep k8) (fun i_ hi_ h_ => by have a_ := NewB.eq n6; have b_ := Keep.size (NewB.ext n3); omega)) x10)) ho hra hr1 hr2 (by assumption) tr (by (try simp only [ByteArray.size_append, z0]); omega) hk) ?_
  rintro _ w11 ⟨rfl, wr12⟩
  refine c_done ?_
  refine ret0 rfl ?_
  exact ⟨_, rfl, rfl, Wr.cast (Wr.then_ (Wr.of_ext hb (Ext.trans (Keep.then_ (Ext.trans (NewB.ext n3) (NewB.ext n6)) (Wrote.keep k8) (fun i_ hi_ h_ => by have a_ := NewB.eq n6; have b_ := Keep.size (NewB.ext n3); omega)) x10) hB_) wr12) (rfl)⟩
set_option maxHeartbeats 4000000 in
theorem p_literal3 (x : Lt) (Aa A1 A2 : Option Addr) (ca c1 c2 : Nat) (g : Nat) (s0 : ByteArray) (wz : World) (w : World) (x0 : Ext wz w) (tb : Tabs Tryz.prog wz) (hb : BW 5 97 wz.heap.size w g s0) (ho : x.okc ca c1 c2) (hra : Row RT 4 wz Aa x.a.args) (hr1 : Row RE 6 wz A1 x.e1.kids) (hr2 : Row RE 6 wz A2 x.e2.kids) (hlt : ltB x = true) (tr : RelT Tryz.prog wz) (hs : s0.size + 1000000 ≤ 1000000000000) (hk : x.k = 3) :
    Rt Tryz.prog 40 #[.pointer (some ⟨g, 0, none⟩), .agg #[.int .i8 x.k, .string x.a.p, .slice Aa x.a.args.length ca, .int .i8 x.r, .int .i8 x.e1.op, .string x.e1.t.v, .int .i8 x.e1.t.l.k, .int .i64 x.e1.t.l.n, .string x.e1.t.l.s, .slice A1 x.e1.kids.length c1, .int .i8 x.e2.op, .string x.e2.t.v, .int .i8 x.e2.t.l.k, .int .i64 x.e2.t.l.n, .string x.e2.t.l.s, .slice A2 x.e2.kids.length c2]] w fun v w' => v = .tuple #[] ∧ Wr 5 97 wz.heap.size g (s0 ++ ltW x) w w' := by
  refine enter Tryz.func40 rfl (l := [.pointer (some ⟨g, 0, none⟩), .agg #[.int .i8 x.k, .string x.a.p, .slice Aa x.a.args.length ca, .int .i8 x.r, .int .i8 x.e1.op, .string x.e1.t.v, .int .i8 x.e1.t.l.k, .int .i64 x.e1.t.l.n, .string x.e1.t.l.s, .slice A1 x.e1.kids.length c1, .int .i8 x.e2.op, .string x.e2.t.v, .int .i8 x.e2.t.l.k, .int .i64 x.e2.t.l.n, .string x.e2.t.l.s, .slice A2 x.e2.kids.length c2]]) rfl Tryz.ntmps40 (Nat.le_of_ble_eq_true rfl) ?_
  have hB_ := Keep.size x0
  have hoa_ := Lt.okc.a ho
  have ho1_ := Lt.okc.e1 ho
  have ho2_ := Lt.okc.e2 ho
  have hl1_ := Ex.okc.l ho1_
  have hl2_ := Ex.okc.l ho2_
  have hc1_ := Ex.okc.c ho1_
  have hc2_ := Ex.okc.c ho2_
  have hla_ := At.okc.l hoa_
  have hca_ := At.okc.c hoa_
  have hpa_ := At.okc.p hoa_
  refine c_seq (c_reg ?_)
  refine s_box (v := .agg #[.int .i8 x.k, .string x.a.p, .slice Aa x.a.args.length ca, .int .i8 x.r, .int .i8 x.e1.op, .string x.e1.t.v, .int .i8 x.e1.t.l.k, .int .i64 x.e1.t.l.n, .string x.e1.t.l.s, .slice A1 x.e1.kids.length c1, .int .i8 x.e2.op, .string x.e2.t.v, .int .i8 x.e2.t.l.k, .int .i64 x.e2.t.l.n, .string x.e2.t.l.s, .slice A2 x.e2.kids.length c2]) (cs := #[.int .i8 x.k, .string x.a.p, .slice Aa x.a.args.length ca, .int .i8 x.r, .int .i8 x.e1.op, .string x.e1.t.v, .int .i8 x.e1.t.l.k, .int .i64 x.e1.t.l.n, .string x.e1.t.l.s, .slice A1 x.e1.kids.length c1, .int .i8 x.e2.op, .string x.e2.t.v, .int .i8 x.e2.t.l.k, .int .i64 x.e2.t.l.n, .string x.e2.t.l.s, .slice A2 x.e2.kids.length c2]) (w0 rfl) (ev_t rfl rfl) rfl ?_
  intro w2 g1 n3
  have ne_g1 : g1 ≠ g := by have a_ := NewB.eq n3; have b_ := BW.lt hb; omega
  refine c_done (n_then (c_seq (c_reg ?_)))
  refine s_build (v := .agg #[.nilFunc, .func (.func 77) #[] #[], .func (.func 78) #[] #[], .func (.func 79) #[] #[]]) (vs := [(1, .func (.func 77) #[] #[]), (2, .func (.func 78) #[] #[]), (3, .func (.func 79) #[] #[])]) (b3 ev_f ev_f ev_f) (bd121_1f77_2f78_3f79) (w0 rfl) ?_
  refine s_alloc (cs := #[.nilFunc, .nilFunc, .nilFunc, .nilFunc]) (w0 rfl) F_z121 rfl ?_
  intro w5 g4 n6
  have ne_g4 : g4 ≠ g := by have a_ := NewB.eq n6; have b_ := BW.lt (BW.ext hb (NewB.ext n3)); omega
  refine s_store (cs' := #[.nilFunc, .func (.func 77) #[] #[], .func (.func 78) #[] #[], .func (.func 79) #[] #[]]) F_sz121 (ev_t rfl rfl) (ev_t rfl rfl) (l := [.nilFunc, .func (.func 77) #[] #[], .func (.func 78) #[] #[], .func (.func 79) #[] #[]]) rfl rfl rfl (NewB.blk n6) (Nat.le_of_ble_eq_true rfl) rfl (w0 rfl) ?_
  intro w7 k8
  refine c_done (n_then ?_)
  refine c_tail 6 mixed (by kernel_rfl) rfl rfl ?_
  intro w9 x10
  refine t_val (v := .pointer (some ⟨g1, 0, none⟩)) (w0 rfl) (r_field (off := 0) (o' := 0) F_f38_0 (ev_t rfl rfl) rfl) ?_
  refine t_val (v := .int .i8 x.k) (w0 rfl) (r_load (v := .int .i8 x.k) F_o26 (ev_t rfl rfl) (cell_of_blk (i := 0) (Ext.blk (Ext.trans (Keep.then_ (NewB.ext n6) (Wrote.keep k8) (fun i_ hi_ h_ => by have a_ := NewB.eq n6; have b_ := Keep.size (Ext.refl w2); omega)) x10) (NewB.blk n3)) rfl)) ?_
  refine t_val (v := .pointer (some ⟨g4, 3, none⟩)) (w0 rfl) (r_indexA (j := 3) F_ar121 (ev_t rfl rfl) (ev_t rfl rfl) (by omega) (by decide)) ?_
  refine t_val (v := .func (.func 79) #[] #[]) (w0 rfl) (r_load (v := .func (.func 79) #[] #[]) F_o77 (ev_t rfl rfl) (cell_of_blk (i := 3) (Ext.blk x10 (Wrote.blk k8)) rfl)) ?_
  refine t_val (v := .pointer (some ⟨g, 0, none⟩)) (w0 rfl) (r_move (v := .pointer (some ⟨g, 0, none⟩)) (ev_t rfl rfl)) ?_
  refine t_val (v := .agg #[.int .i8 x.k, .string x.a.p, .slice Aa x.a.args.length ca, .int .i8 x.r, .int .i8 x.e1.op, .string x.e1.t.v, .int .i8 x.e1.t.l.k, .int .i64 x.e1.t.l.n, .string x.e1.t.l.s, .slice A1 x.e1.kids.length c1, .int .i8 x.e2.op, .string x.e2.t.v, .int .i8 x.e2.t.l.k, .int .i64 x.e2.t.l.n, .string x.e2.t.l.s, .slice A2 x.e2.kids.length c2]) (w0 rfl) (r_loadL (cs := [.int .i8 x.k, .string x.a.p, .slice Aa x.a.args.length ca, .int .i8 x.r, .int .i8 x.e1.op, .string x.e1.t.v, .int .i8 x.e1.t.l.k, .int .i64 x.e1.t.l.n, .string x.e1.t.l.s, .slice A1 x.e1.kids.length c1, .int .i8 x.e2.op, .string x.e2.t.v, .int .i8 x.e2.t.l.k, .int .i64 x.e2.t.l.n, .string x.e2.t.l.s, .slice A2 x.e2.kids.length c2]) (ca := #[.int .i8 x.k, .string x.a.p, .slice Aa x.a.args.length ca, .int .i8 x.r, .int .i8 x.e1.op, .string x.e1.t.v, .int .i8 x.e1.t.l.k, .int .i64 x.e1.t.l.n, .string x.e1.t.l.s, .slice A1 x.e1.kids.length c1, .int .i8 x.e2.op, .string x.e2.t.v, .int .i8 x.e2.t.l.k, .int .i64 x.e2.t.l.n, .string x.e2.t.l.s, .slice A2 x.e2.kids.length c2]) F_m38 (ev_t rfl rfl) rfl rfl (blk_cells (Ext.blk (Ext.trans (Keep.then_ (NewB.ext n6) (Wrote.keep k8) (fun i_ hi_ h_ => by have a_ := NewB.eq n6; have b_ := Keep.size (Ext.refl w2); omega)) x10) (NewB.blk n3)) 0 (cs := [.int .i8 x.k, .string x.a.p, .slice Aa x.a.args.length ca, .int .i8 x.r, .int .i8 x.e1.op, .string x.e1.t.v, .int .i8 x.e1.t.l.k, .int .i64 x.e1.t.l.n, .string x.e1.t.l.s, .slice A1 x.e1.kids.length c1, .int .i8 x.e2.op, .string x.e2.t.v, .int .i8 x.e2.t.l.k, .int .i64 x.e2.t.l.n, .string x.e2.t.l.s, .slice A2 x.e2.kids.length c2]) rfl)) ?_
  refine t_done ?_
  refine s_call F_e79 (w0 rfl) (ev_t rfl rfl) (m2 (ev_t rfl rfl) (ev_t rfl rfl)) (args := #[.pointer (some ⟨g, 0, none⟩), .agg #[.int .i8 x.k, .string x.a.p, .slice Aa x.a.args.length ca, .int .i8 x.r, .int .i8 x.e1.op, .string x.e1.t.v, .int .i8 x.e1.t.l.k, .int .i64 x.e1.t.l.n, .string x.e1.t.l.s, .slice A1 x.e1.kids.length c1, .int .i8 x.e2.op, .string x.e2.t.v, .int .i8 x.e2.t.l.k, .int .i64 x.e2.t.l.n, .string x.e2.t.l.s, .slice A2 x.e2.kids.length c2]]) rfl (p_cmp x Aa A1 A2 ca c1 c2 g (s0) wz _ (Ext.trans (Keep.then_ (Ext.trans (Ext.trans x0 (NewB.ext n3)) (NewB.ext n6)) (Wrote.keep k8) (fun i_ hi_ h_ => by have a_ := NewB.eq n6; have b_ := Keep.size (Ext.trans x0 (NewB.ext n3)); omega)) x10) tb (BW.ext hb (Ext.trans (Keep.then_ (Ext.trans (NewB.ext n3) (NewB.ext n6)) (Wrote.keep k8) (fun i_ hi_ h_ => by have a_ := NewB.eq n6; have b_ := Keep.size (NewB.ext n3); omega)) x10)) ho hra hr1 hr2 (by assumption) tr (by (try simp only [ByteArray.size_append, z0]); omega) hk) ?_
  rintro _ w11 ⟨rfl, wr12⟩
  refine c_done ?_
  refine ret0 rfl ?_
  exact ⟨_, rfl, rfl, Wr.cast (Wr.then_ (Wr.of_ext hb (Ext.trans (Keep.then_ (Ext.trans (NewB.ext n3) (NewB.ext n6)) (Wrote.keep k8) (fun i_ hi_ h_ => by have a_ := NewB.eq n6; have b_ := Keep.size (NewB.ext n3); omega)) x10) hB_) wr12) (rfl)⟩
theorem p_literal (x : Lt) (Aa A1 A2 : Option Addr) (ca c1 c2 : Nat) (g : Nat) (s0 : ByteArray) (wz : World) (w : World) (x0 : Ext wz w) (tb : Tabs Tryz.prog wz) (hb : BW 5 97 wz.heap.size w g s0) (ho : x.okc ca c1 c2) (hra : Row RT 4 wz Aa x.a.args) (hr1 : Row RE 6 wz A1 x.e1.kids) (hr2 : Row RE 6 wz A2 x.e2.kids) (hlt : ltB x = true) (tr : RelT Tryz.prog wz) (hs : s0.size + 1000000 ≤ 1000000000000) : Rt Tryz.prog 40 #[.pointer (some ⟨g, 0, none⟩), .agg #[.int .i8 x.k, .string x.a.p, .slice Aa x.a.args.length ca, .int .i8 x.r, .int .i8 x.e1.op, .string x.e1.t.v, .int .i8 x.e1.t.l.k, .int .i64 x.e1.t.l.n, .string x.e1.t.l.s, .slice A1 x.e1.kids.length c1, .int .i8 x.e2.op, .string x.e2.t.v, .int .i8 x.e2.t.l.k, .int .i64 x.e2.t.l.n, .string x.e2.t.l.s, .slice A2 x.e2.kids.length c2]] w fun v w' => v = .tuple #[] ∧ Wr 5 97 wz.heap.size g (s0 ++ ltW x) w w' := by
  by_cases h1 : x.k = 1
  · exact p_literal1 x Aa A1 A2 ca c1 c2 g s0 wz w x0 tb hb ho hra hr1 hr2 hlt tr hs h1
  · by_cases h2 : x.k = 2
    · exact p_literal2 x Aa A1 A2 ca c1 c2 g s0 wz w x0 tb hb ho hra hr1 hr2 hlt tr hs h2
    · exact p_literal3 x Aa A1 A2 ca c1 c2 g s0 wz w x0 tb hb ho hra hr1 hr2 hlt tr hs (lt_cmp hlt h1 h2).1
end Go.Proofs.Zw

set_option linter.unusedVariables false
set_option linter.unusedSimpArgs false
set_option maxRecDepth 10000
namespace Go.Proofs.Zw
open Go Go.Wk Go.Proofs Go.Lib
attribute [local irreducible] Go.wpList Go.wpStill Go.wpQuiet Go.Code.wp Go.Calls
theorem F_e38 : enterable Tryz.prog 38 = true := by kernel_rfl
theorem F_e39 : enterable Tryz.prog 39 = true := by kernel_rfl
theorem F_e40 : enterable Tryz.prog 40 = true := by kernel_rfl
set_option maxHeartbeats 4000000 in
theorem p_toldL (x : Lt) (Aa A1 A2 : Option Addr) (ca c1 c2 : Nat) (w : World) (ho : x.okc ca c1 c2) (hra : Row RT 4 w Aa x.a.args) (hr1 : Row RE 6 w A1 x.e1.kids) (hr2 : Row RE 6 w A2 x.e2.kids) (tb : Tabs Tryz.prog w) (tr : RelT Tryz.prog w) :
    Rt Tryz.prog 38 #[.agg #[.int .i8 x.k, .string x.a.p, .slice Aa x.a.args.length ca, .int .i8 x.r, .int .i8 x.e1.op, .string x.e1.t.v, .int .i8 x.e1.t.l.k, .int .i64 x.e1.t.l.n, .string x.e1.t.l.s, .slice A1 x.e1.kids.length c1, .int .i8 x.e2.op, .string x.e2.t.v, .int .i8 x.e2.t.l.k, .int .i64 x.e2.t.l.n, .string x.e2.t.l.s, .slice A2 x.e2.kids.length c2], .func (.func 39) #[] #[], .func (.func 40) #[] #[]] w fun v w' => v = .tuple #[.string (if ltB x then ltW x else ⟨#[]⟩), .int .i64 (code (ltB x))] ∧ Ext w w' := by
  refine enter Tryz.func38 rfl (l := [.agg #[.int .i8 x.k, .string x.a.p, .slice Aa x.a.args.length ca, .int .i8 x.r, .int .i8 x.e1.op, .string x.e1.t.v, .int .i8 x.e1.t.l.k, .int .i64 x.e1.t.l.n, .string x.e1.t.l.s, .slice A1 x.e1.kids.length c1, .int .i8 x.e2.op, .string x.e2.t.v, .int .i8 x.e2.t.l.k, .int .i64 x.e2.t.l.n, .string x.e2.t.l.s, .slice A2 x.e2.kids.length c2], .func (.func 39) #[] #[], .func (.func 40) #[] #[]]) rfl Tryz.ntmps38 (Nat.le_of_ble_eq_true rfl) ?_
  have hoa_ := Lt.okc.a ho
  have ho1_ := Lt.okc.e1 ho
  have ho2_ := Lt.okc.e2 ho
  have hl1_ := Ex.okc.l ho1_
  have hl2_ := Ex.okc.l ho2_
  have hc1_ := Ex.okc.c ho1_
  have hc2_ := Ex.okc.c ho2_
  have hla_ := At.okc.l hoa_
  have hca_ := At.okc.c hoa_
  have hpa_ := At.okc.p hoa_
  refine c_seq (c_reg ?_)
  refine s_box (v := .agg #[.int .i8 x.k, .string x.a.p, .slice Aa x.a.args.length ca, .int .i8 x.r, .int .i8 x.e1.op, .string x.e1.t.v, .int .i8 x.e1.t.l.k, .int .i64 x.e1.t.l.n, .string x.e1.t.l.s, .slice A1 x.e1.kids.length c1, .int .i8 x.e2.op, .string x.e2.t.v, .int .i8 x.e2.t.l.k, .int .i64 x.e2.t.l.n, .string x.e2.t.l.s, .slice A2 x.e2.kids.length c2]) (cs := #[.int .i8 x.k, .string x.a.p, .slice Aa x.a.args.length ca, .int .i8 x.r, .int .i8 x.e1.op, .string x.e1.t.v, .int .i8 x.e1.t.l.k, .int .i64 x.e1.t.l.n, .string x.e1.t.l.s, .slice A1 x.e1.kids.length c1, .int .i8 x.e2.op, .string x.e2.t.v, .int .i8 x.e2.t.l.k, .int .i64 x.e2.t.l.n, .string x.e2.t.l.s, .slice A2 x.e2.kids.length c2]) (w0 rfl) (ev_t rfl rfl) rfl ?_
  intro w2 g1 n3
  refine s_assign (v := .string (⟨#[]⟩ : ByteArray)) ev_c (w0 rfl) ?_
  refine s_assign (v := .int .i64 0) ev_c (w0 rfl) ?_
  refine c_done (n_then (c_seq (c_seq (c_reg ?_))))
  refine s_move (v := .func (.func 39) #[] #[]) (ev_t rfl rfl) (w0 rfl) ?_
  refine s_loadL (cs := [.int .i8 x.k, .string x.a.p, .slice Aa x.a.args.length ca, .int .i8 x.r, .int .i8 x.e1.op, .string x.e1.t.v, .int .i8 x.e1.t.l.k, .int .i64 x.e1.t.l.n, .string x.e1.t.l.s, .slice A1 x.e1.kids.length c1, .int .i8 x.e2.op, .string x.e2.t.v, .int .i8 x.e2.t.l.k, .int .i64 x.e2.t.l.n, .string x.e2.t.l.s, .slice A2 x.e2.kids.length c2]) (ca := #[.int .i8 x.k, .string x.a.p, .slice Aa x.a.args.length ca, .int .i8 x.r, .int .i8 x.e1.op, .string x.e1.t.v, .int .i8 x.e1.t.l.k, .int .i64 x.e1.t.l.n, .string x.e1.t.l.s, .slice A1 x.e1.kids.length c1, .int .i8 x.e2.op, .string x.e2.t.v, .int .i8 x.e2.t.l.k, .int .i64 x.e2.t.l.n, .string x.e2.t.l.s, .slice A2 x.e2.kids.length c2]) F_m38 (ev_t rfl rfl) rfl rfl (blk_cells (NewB.blk n3) 0 (cs := [.int .i8 x.k, .string x.a.p, .slice Aa x.a.args.length ca, .int .i8 x.r, .int .i8 x.e1.op, .string x.e1.t.v, .int .i8 x.e1.t.l.k, .int .i64 x.e1.t.l.n, .string x.e1.t.l.s, .slice A1 x.e1.kids.length c1, .int .i8 x.e2.op, .string x.e2.t.v, .int .i8 x.e2.t.l.k, .int .i64 x.e2.t.l.n, .string x.e2.t.l.s, .slice A2 x.e2.kids.length c2]) rfl) (w0 rfl) ?_
  refine s_call F_e39 (w0 rfl) (ev_t rfl rfl) (m1 (ev_t rfl rfl)) (args := #[.agg #[.int .i8 x.k, .string x.a.p, .slice Aa x.a.args.length ca, .int .i8 x.r, .int .i8 x.e1.op, .string x.e1.t.v, .int .i8 x.e1.t.l.k, .int .i64 x.e1.t.l.n, .string x.e1.t.l.s, .slice A1 x.e1.kids.length c1, .int .i8 x.e2.op, .string x.e2.t.v, .int .i8 x.e2.t.l.k, .int .i64 x.e2.t.l.n, .string x.e2.t.l.s, .slice A2 x.e2.kids.length c2]]) rfl (t_CheckLiteral x Aa A1 A2 ca c1 c2 _ ho (Row.extT hra (NewB.ext n3)) (Row.extE hr1 (NewB.ext n3)) (Row.extE hr2 (NewB.ext n3))) ?_
  rintro _ w5 ⟨rfl, x4⟩
  refine s_cmp (r := !(ltB x)) (ev_t rfl rfl) ev_c (ci_tn (b := (ltB x)) (by decide)) (w0 rfl) ?_
  refine c_done (n_then ?_)
  rcases Bool.eq_false_or_eq_true (ltB x) with h6 | h6
  · refine c_cond0 (vb (ev_t rfl rfl) (nbt h6)) ?_
    refine c_skip (n_then (c_seq (c_reg ?_)))
    refine s_alloc (cs := #[.pointer none, .slice none 0 0]) (w0 rfl) F_z97 rfl ?_
    intro w8 g7 n9
    have bw_ : BW 5 97 w.heap.size w8 g7 ⟨#[]⟩ := BW.new n9 rfl (by decide) (Keep.size (Ext.trans (NewB.ext n3) x4))
    have hB_ := Keep.size (Ext.trans (Ext.trans (NewB.ext n3) x4) (NewB.ext n9))
    refine c_done (n_then (c_seq (c_reg ?_)))
    refine s_move (v := .func (.func 40) #[] #[]) (ev_t rfl rfl) (w0 rfl) ?_
    refine s_loadL (cs := [.int .i8 x.k, .string x.a.p, .slice Aa x.a.args.length ca, .int .i8 x.r, .int .i8 x.e1.op, .string x.e1.t.v, .int .i8 x.e1.t.l.k, .int .i64 x.e1.t.l.n, .string x.e1.t.l.s, .slice A1 x.e1.kids.length c1, .int .i8 x.e2.op, .string x.e2.t.v, .int .i8 x.e2.t.l.k, .int .i64 x.e2.t.l.n, .string x.e2.t.l.s, .slice A2 x.e2.kids.length c2]) (ca := #[.int .i8 x.k, .string x.a.p, .slice Aa x.a.args.length ca, .int .i8 x.r, .int .i8 x.e1.op, .string x.e1.t.v, .int .i8 x.e1.t.l.k, .int .i64 x.e1.t.l.n, .string x.e1.t.l.s, .slice A1 x.e1.kids.length c1, .int .i8 x.e2.op, .string x.e2.t.v, .int .i8 x.e2.t.l.k, .int .i64 x.e2.t.l.n, .string x.e2.t.l.s, .slice A2 x.e2.kids.length c2]) F_m38 (ev_t rfl rfl) rfl rfl (blk_cells (Ext.blk (NewB.ext n9) (Ext.blk x4 (NewB.blk n3))) 0 (cs := [.int .i8 x.k, .string x.a.p, .slice Aa x.a.args.length ca, .int .i8 x.r, .int .i8 x.e1.op, .string x.e1.t.v, .int .i8 x.e1.t.l.k, .int .i64 x.e1.t.l.n, .string x.e1.t.l.s, .slice A1 x.e1.kids.length c1, .int .i8 x.e2.op, .string x.e2.t.v, .int .i8 x.e2.t.l.k, .int .i64 x.e2.t.l.n, .string x.e2.t.l.s, .slice A2 x.e2.kids.length c2]) rfl) (w0 rfl) ?_
    refine s_call F_e40 (w0 rfl) (ev_t rfl rfl) (m2 (ev_t rfl rfl) (ev_t rfl rfl)) (args := #[.pointer (some ⟨g7, 0, none⟩), .agg #[.int .i8 x.k, .string x.a.p, .slice Aa x.a.args.length ca, .int .i8 x.r, .int .i8 x.e1.op, .string x.e1.t.v, .int .i8 x.e1.t.l.k, .int .i64 x.e1.t.l.n, .string x.e1.t.l.s, .slice A1 x.e1.kids.length c1, .int .i8 x.e2.op, .string x.e2.t.v, .int .i8 x.e2.t.l.k, .int .i64 x.e2.t.l.n, .string x.e2.t.l.s, .slice A2 x.e2.kids.length c2]]) rfl (p_literal x Aa A1 A2 ca c1 c2 g7 ((⟨#[]⟩ : ByteArray)) w _ (Ext.trans (Ext.trans (NewB.ext n3) x4) (NewB.ext n9)) tb bw_ ho hra hr1 hr2 (by assumption) tr (by (try simp only [ByteArray.size_append, z0]); omega)) ?_
    rintro _ w10 ⟨rfl, wr11⟩
    refine c_done (n_then (c_seq (c_reg ?_)))
    refine s_field (off := 0) (o' := 0) F_f97_0 (ev_t rfl rfl) rfl (w0 rfl) ?_
    refine s_call F_e55 (w0 rfl) ev_f (m1 (ev_t rfl rfl)) (args := #[.pointer (some ⟨g7, 0, none⟩)]) rfl (b_String 97 _ g7 ((⟨#[]⟩ : ByteArray) ++ (ltW x)) _ (Wr.bw wr11) (Nat.le_trans hB_ (Wr.size wr11)) (by rw [nil_app]; exact ltW_ne (by assumption))) ?_
    rintro _ w12 ⟨rfl, bl13⟩
    refine s_assign (v := .string ((⟨#[]⟩ : ByteArray) ++ (ltW x))) (ev_t rfl rfl) (w0 rfl) ?_
    refine s_assign (v := .int .i64 0) ev_c (w0 rfl) ?_
    refine c_done (n_then (c_ret ?_))
    refine ret2 (v := .string ((⟨#[]⟩ : ByteArray) ++ (ltW x))) (v2 := .int .i64 0) rfl rfl rfl rfl rfl ?_
    refine ⟨_, rfl, ?_, (ext_bel (Wr.after wr11 (Ext.trans (Ext.trans (NewB.ext n3) x4) (NewB.ext n9)) rfl) bl13)⟩
    (simp [code, nil_app, *])
  · refine c_cond1 (vb (ev_t rfl rfl) (nbf h6)) ?_
    refine c_seq (c_reg ?_)
    refine s_assign (v := .string (⟨#[]⟩ : ByteArray)) ev_c (w0 rfl) ?_
    refine s_assign (v := .int .i64 40) ev_c (w0 rfl) ?_
    refine c_done (n_then (c_ret (r_then ?_)))
    refine ret2 (v := .string (⟨#[]⟩ : ByteArray)) (v2 := .int .i64 40) rfl rfl rfl rfl rfl ?_
    refine ⟨_, rfl, ?_, (Ext.trans (NewB.ext n3) x4)⟩
    (simp [code, nil_app, *])
set_option maxHeartbeats 4000000 in
theorem p_Literal (x : Lt) (Aa A1 A2 : Option Addr) (ca c1 c2 : Nat) (w : World) (ho : x.okc ca c1 c2) (hra : Row RT 4 w Aa x.a.args) (hr1 : Row RE 6 w A1 x.e1.kids) (hr2 : Row RE 6 w A2 x.e2.kids) (tb : Tabs Tryz.prog w) (tr : RelT Tryz.prog w) :
    Rt Tryz.prog 14 #[.agg #[.int .i8 x.k, .string x.a.p, .slice Aa x.a.args.length ca, .int .i8 x.r, .int .i8 x.e1.op, .string x.e1.t.v, .int .i8 x.e1.t.l.k, .int .i64 x.e1.t.l.n, .string x.e1.t.l.s, .slice A1 x.e1.kids.length c1, .int .i8 x.e2.op, .string x.e2.t.v, .int .i8 x.e2.t.l.k, .int .i64 x.e2.t.l.n, .string x.e2.t.l.s, .slice A2 x.e2.kids.length c2]] w fun v w' => v = .tuple #[.string (if ltB x then ltW x else ⟨#[]⟩), .int .i64 (code (ltB x))] ∧ Ext w w' := by
  refine enter Tryz.func14 rfl (l := [.agg #[.int .i8 x.k, .string x.a.p, .slice Aa x.a.args.length ca, .int .i8 x.r, .int .i8 x.e1.op, .string x.e1.t.v, .int .i8 x.e1.t.l.k, .int .i64 x.e1.t.l.n, .string x.e1.t.l.s, .slice A1 x.e1.kids.length c1, .int .i8 x.e2.op, .string x.e2.t.v, .int .i8 x.e2.t.l.k, .int .i64 x.e2.t.l.n, .string x.e2.t.l.s, .slice A2 x.e2.kids.length c2]]) rfl Tryz.ntmps14 (Nat.le_of_ble_eq_true rfl) ?_
  have hoa_ := Lt.okc.a ho
  have ho1_ := Lt.okc.e1 ho
  have ho2_ := Lt.okc.e2 ho
  have hl1_ := Ex.okc.l ho1_
  have hl2_ := Ex.okc.l ho2_
  have hc1_ := Ex.okc.c ho1_
  have hc2_ := Ex.okc.c ho2_
  have hla_ := At.okc.l hoa_
  have hca_ := At.okc.c hoa_
  have hpa_ := At.okc.p hoa_
  refine c_seq (c_reg ?_)
  refine s_box (v := .agg #[.int .i8 x.k, .string x.a.p, .slice Aa x.a.args.length ca, .int .i8 x.r, .int .i8 x.e1.op, .string x.e1.t.v, .int .i8 x.e1.t.l.k, .int .i64 x.e1.t.l.n, .string x.e1.t.l.s, .slice A1 x.e1.kids.length c1, .int .i8 x.e2.op, .string x.e2.t.v, .int .i8 x.e2.t.l.k, .int .i64 x.e2.t.l.n, .string x.e2.t.l.s, .slice A2 x.e2.kids.length c2]) (cs := #[.int .i8 x.k, .string x.a.p, .slice Aa x.a.args.length ca, .int .i8 x.r, .int .i8 x.e1.op, .string x.e1.t.v, .int .i8 x.e1.t.l.k, .int .i64 x.e1.t.l.n, .string x.e1.t.l.s, .slice A1 x.e1.kids.length c1, .int .i8 x.e2.op, .string x.e2.t.v, .int .i8 x.e2.t.l.k, .int .i64 x.e2.t.l.n, .string x.e2.t.l.s, .slice A2 x.e2.kids.length c2]) (w0 rfl) (ev_t rfl rfl) rfl ?_
  intro w2 g1 n3
  refine s_assign (v := .string (⟨#[]⟩ : ByteArray)) ev_c (w0 rfl) ?_
  refine s_assign (v := .int .i64 0) ev_c (w0 rfl) ?_
  refine c_done (n_then (c_seq (c_reg ?_)))
  refine s_loadL (cs := [.int .i8 x.k, .string x.a.p, .slice Aa x.a.args.length ca, .int .i8 x.r, .int .i8 x.e1.op, .string x.e1.t.v, .int .i8 x.e1.t.l.k, .int .i64 x.e1.t.l.n, .string x.e1.t.l.s, .slice A1 x.e1.kids.length c1, .int .i8 x.e2.op, .string x.e2.t.v, .int .i8 x.e2.t.l.k, .int .i64 x.e2.t.l.n, .string x.e2.t.l.s, .slice A2 x.e2.kids.length c2]) (ca := #[.int .i8 x.k, .string x.a.p, .slice Aa x.a.args.length ca, .int .i8 x.r, .int .i8 x.e1.op, .string x.e1.t.v, .int .i8 x.e1.t.l.k, .int .i64 x.e1.t.l.n, .string x.e1.t.l.s, .slice A1 x.e1.kids.length c1, .int .i8 x.e2.op, .string x.e2.t.v, .int .i8 x.e2.t.l.k, .int .i64 x.e2.t.l.n, .string x.e2.t.l.s, .slice A2 x.e2.kids.length c2]) F_m38 (ev_t rfl rfl) rfl rfl (blk_cells (NewB.blk n3) 0 (cs := [.int .i8 x.k, .string x.a.p, .slice Aa x.a.args.length ca, .int .i8 x.r, .int .i8 x.e1.op, .string x.e1.t.v, .int .i8 x.e1.t.l.k, .int .i64 x.e1.t.l.n, .string x.e1.t.l.s, .slice A1 x.e1.kids.length c1, .int .i8 x.e2.op, .string x.e2.t.v, .int .i8 x.e2.t.l.k, .int .i64 x.e2.t.l.n, .string x.e2.t.l.s, .slice A2 x.e2.kids.length c2]) rfl) (w0 rfl) ?_
  refine s_call F_e38 (w0 rfl) ev_f (m3 (ev_t rfl rfl) ev_f ev_f) (args := #[.agg #[.int .i8 x.k, .string x.a.p, .slice Aa x.a.args.length ca, .int .i8 x.r, .int .i8 x.e1.op, .string x.e1.t.v, .int .i8 x.e1.t.l.k, .int .i64 x.e1.t.l.n, .string x.e1.t.l.s, .slice A1 x.e1.kids.length c1, .int .i8 x.e2.op, .string x.e2.t.v, .int .i8 x.e2.t.l.k, .int .i64 x.e2.t.l.n, .string x.e2.t.l.s, .slice A2 x.e2.kids.length c2], .func (.func 39) #[] #[], .func (.func 40) #[] #[]]) rfl (p_toldL x Aa A1 A2 ca c1 c2 _ ho (Row.extT hra (NewB.ext n3)) (Row.extE hr1 (NewB.ext n3)) (Row.extE hr2 (NewB.ext n3)) (Tabs.ext tb (NewB.ext n3)) (RelT.ext tr (NewB.ext n3))) ?_
  rintro _ w5 ⟨rfl, x4⟩
  refine s_extract (v := .string (if ltB x then ltW x else ⟨#[]⟩)) (ev_t rfl rfl) rfl (w0 rfl) ?_
  refine s_extract (v := .int .i64 (code (ltB x))) (ev_t rfl rfl) rfl (w0 rfl) ?_
  refine s_assign (v := .string (if ltB x then ltW x else ⟨#[]⟩)) (ev_t rfl rfl) (w0 rfl) ?_
  refine s_assign (v := .int .i64 (code (ltB x))) (ev_t rfl rfl) (w0 rfl) ?_
  refine c_done (n_then (c_ret ?_))
  refine ret2 (v := .string (if ltB x then ltW x else ⟨#[]⟩)) (v2 := .int .i64 (code (ltB x))) rfl rfl rfl rfl rfl ?_
  refine ⟨_, rfl, ?_, (Ext.trans (NewB.ext n3) x4)⟩
  rfl
end Go.Proofs.Zw

set_option linter.unusedVariables false
set_option linter.unusedSimpArgs false
set_option maxRecDepth 10000
namespace Go.Proofs.Zw
open Go Go.Wk Go.Proofs Go.Lib
attribute [local irreducible] Go.wpList Go.wpStill Go.wpQuiet Go.Code.wp Go.Calls
theorem F_e98 : enterable Tryz.prog 98 = true := by kernel_rfl
set_option maxHeartbeats 4000000 in
theorem l_literalParts (x : Lt) (Aa A1 A2 : Option Addr) (ca c1 c2 : Nat) (L : Nat) (w : World) (ho : x.okc ca c1 c2) (hra : Row RT 4 w Aa x.a.args) (hr1 : Row RE 6 w A1 x.e1.kids) (hr2 : Row RE 6 w A2 x.e2.kids) (hL : L ≤ 1048576) :
    Rt Tryz.prog 57 #[.agg #[.int .i8 x.k, .string x.a.p, .slice Aa x.a.args.length ca, .int .i8 x.r, .int .i8 x.e1.op, .string x.e1.t.v, .int .i8 x.e1.t.l.k, .int .i64 x.e1.t.l.n, .string x.e1.t.l.s, .slice A1 x.e1.kids.length c1, .int .i8 x.e2.op, .string x.e2.t.v, .int .i8 x.e2.t.l.k, .int .i64 x.e2.t.l.n, .string x.e2.t.l.s, .slice A2 x.e2.kids.length c2], .int .i64 ((L : Nat) : Int)] w fun v w' => (∃ z : Nat, z ≤ L + 1 ∧ v = .int .i64 ((z : Nat) : Int)) ∧ Ext w w' := by
  refine enter Tryz.func57 rfl (l := [.agg #[.int .i8 x.k, .string x.a.p, .slice Aa x.a.args.length ca, .int .i8 x.r, .int .i8 x.e1.op, .string x.e1.t.v, .int .i8 x.e1.t.l.k, .int .i64 x.e1.t.l.n, .string x.e1.t.l.s, .slice A1 x.e1.kids.length c1, .int .i8 x.e2.op, .string x.e2.t.v, .int .i8 x.e2.t.l.k, .int .i64 x.e2.t.l.n, .string x.e2.t.l.s, .slice A2 x.e2.kids.length c2], .int .i64 ((L : Nat) : Int)]) rfl Tryz.ntmps57 (Nat.le_of_ble_eq_true rfl) ?_
  have hoa_ := Lt.okc.a ho
  have ho1_ := Lt.okc.e1 ho
  have ho2_ := Lt.okc.e2 ho
  have hl1_ := Ex.okc.l ho1_
  have hl2_ := Ex.okc.l ho2_
  have hc1_ := Ex.okc.c ho1_
  have hc2_ := Ex.okc.c ho2_
  have hla_ := At.okc.l hoa_
  have hca_ := At.okc.c hoa_
  have hpa_ := At.okc.p hoa_
  refine c_seq (c_reg ?_)
  refine s_box (v := .agg #[.int .i8 x.k, .string x.a.p, .slice Aa x.a.args.length ca, .int .i8 x.r, .int .i8 x.e1.op, .string x.e1.t.v, .int .i8 x.e1.t.l.k, .int .i64 x.e1.t.l.n, .string x.e1.t.l.s, .slice A1 x.e1.kids.length c1, .int .i8 x.e2.op, .string x.e2.t.v, .int .i8 x.e2.t.l.k, .int .i64 x.e2.t.l.n, .string x.e2.t.l.s, .slice A2 x.e2.kids.length c2]) (cs := #[.int .i8 x.k, .string x.a.p, .slice Aa x.a.args.length ca, .int .i8 x.r, .int .i8 x.e1.op, .string x.e1.t.v, .int .i8 x.e1.t.l.k, .int .i64 x.e1.t.l.n, .string x.e1.t.l.s, .slice A1 x.e1.kids.length c1, .int .i8 x.e2.op, .string x.e2.t.v, .int .i8 x.e2.t.l.k, .int .i64 x.e2.t.l.n, .string x.e2.t.l.s, .slice A2 x.e2.kids.length c2]) (w0 rfl) (ev_t rfl rfl) rfl ?_
  intro w2 g1 n3
  refine s_assign (v := .int .i64 0) ev_c (w0 rfl) ?_
  refine c_done (n_then (c_seq ?_))
  refine c_head (fun w_ => Ext w2 w_) 8 mixed (by kernel_rfl) (fun _ x_ => x_) ?_
  intro w4 x5
  refine h_val (v := .pointer (some ⟨g1, 1, none⟩)) (w0 rfl) (fun w_ c_ => r_field (off := 1) (o' := 1) F_f38_1 (ev_t rfl rfl) rfl) ?_
  refine h_val (v := .pointer (some ⟨g1, 2, none⟩)) (w0 rfl) (fun w_ c_ => r_field (off := 1) (o' := 2) F_f24_1 (ev_t rfl rfl) rfl) ?_
  refine h_val (v := .slice Aa x.a.args.length ca) (w0 rfl) (fun w_ c_ => r_load (v := .slice Aa x.a.args.length ca) F_o22 (ev_t rfl rfl) (cell_of_blk (i := 2) (Ext.blk c_ (NewB.blk n3)) rfl)) ?_
  refine h_val (v := .int .i64 (x.a.args.length : Int)) (w0 rfl) (fun w_ c_ => r_lenL F_l22 (ev_t rfl rfl)) ?_
  refine h_val (v := .int .i64 ((1 + x.a.args.length : Nat) : Int)) (w0 rfl) (fun w_ c_ => r_add (r := ((1 + x.a.args.length : Nat) : Int)) ev_c (ev_t rfl rfl) (by omega) (by omega)) ?_
  refine h_val (v := .pointer (some ⟨g1, 4, none⟩)) (w0 rfl) (fun w_ c_ => r_field (off := 4) (o' := 4) F_f38_3 (ev_t rfl rfl) rfl) ?_
  refine h_val (v := .agg #[.int .i8 x.e1.op, .string x.e1.t.v, .int .i8 x.e1.t.l.k, .int .i64 x.e1.t.l.n, .string x.e1.t.l.s, .slice A1 x.e1.kids.length c1]) (w0 rfl) (fun w_ c_ => r_loadL (cs := [.int .i8 x.e1.op, .string x.e1.t.v, .int .i8 x.e1.t.l.k, .int .i64 x.e1.t.l.n, .string x.e1.t.l.s, .slice A1 x.e1.kids.length c1]) (ca := #[.int .i8 x.e1.op, .string x.e1.t.v, .int .i8 x.e1.t.l.k, .int .i64 x.e1.t.l.n, .string x.e1.t.l.s, .slice A1 x.e1.kids.length c1]) F_m36 (ev_t rfl rfl) rfl rfl (blk_cells (Ext.blk c_ (NewB.blk n3)) 4 (cs := [.int .i8 x.e1.op, .string x.e1.t.v, .int .i8 x.e1.t.l.k, .int .i64 x.e1.t.l.n, .string x.e1.t.l.s, .slice A1 x.e1.kids.length c1]) rfl)) ?_
  refine h_val (v := .int .i64 ((L : Nat) : Int)) (w0 rfl) (fun w_ c_ => r_move (v := .int .i64 ((L : Nat) : Int)) (ev_t rfl rfl)) ?_
  refine h_done ?_
  refine tl_cons ?_
  refine s_call F_e98 (w0 rfl) ev_f (m2 (ev_t rfl rfl) (ev_t rfl rfl)) (args := #[.agg #[.int .i8 x.e1.op, .string x.e1.t.v, .int .i8 x.e1.t.l.k, .int .i64 x.e1.t.l.n, .string x.e1.t.l.s, .slice A1 x.e1.kids.length c1], .int .i64 ((L : Nat) : Int)]) rfl (l_ExprParts x.e1 A1 c1 L _ ho1_ (Row.extE (Row.extE hr1 (NewB.ext n3)) x5) (by omega)) ?_
  rintro _ w7 ⟨⟨z6, hz9, rfl⟩, x8⟩
  refine tl_done ⟨(Ext.trans x5 x8), ?_⟩
  refine tl_cons ?_
  refine s_add (r := ((1 + x.a.args.length + z6 : Nat) : Int)) (ev_t rfl rfl) (ev_t rfl rfl) (by omega) (by omega) (w0 rfl) ?_
  refine tl_done ⟨(Ext.trans x5 x8), ?_⟩
  refine tl_cons ?_
  refine s_assign (v := .int .i64 ((1 + x.a.args.length + z6 : Nat) : Int)) (ev_t rfl rfl) (w0 rfl) ?_
  refine tl_done ⟨(Ext.trans x5 x8), ?_⟩
  refine tl_nil ?_
  refine n_then (c_seq (c_seq (c_reg ?_)))
  refine s_move (v := .int .i64 ((1 + x.a.args.length + z6 : Nat) : Int)) (ev_t rfl rfl) (w0 rfl) ?_
  refine s_move (v := .int .i64 ((L : Nat) : Int)) (ev_t rfl rfl) (w0 rfl) ?_
  refine s_cmp (r := decide (((L : Nat) : Int) < ((1 + x.a.args.length + z6 : Nat) : Int))) (ev_t rfl rfl) (ev_t rfl rfl) rfl (w0 rfl) ?_
  refine c_done (n_then ?_)
  by_cases h10 : ((L : Nat) : Int) < ((1 + x.a.args.length + z6 : Nat) : Int)
  · refine c_cond1 (vb (ev_t rfl rfl) (decide_eq_true h10)) ?_
    refine c_seq (c_reg ?_)
    refine s_move (v := .int .i64 ((L : Nat) : Int)) (ev_t rfl rfl) (w0 rfl) ?_
    refine s_add (r := ((L + 1 : Nat) : Int)) (ev_t rfl rfl) ev_c (by omega) (by omega) (w0 rfl) ?_
    refine s_assign (v := .int .i64 ((L + 1 : Nat) : Int)) (ev_t rfl rfl) (w0 rfl) ?_
    refine c_done (n_then (c_ret (r_then ?_)))
    refine ret1 (v := .int .i64 ((L + 1 : Nat) : Int)) rfl rfl rfl ?_
    exact ⟨_, rfl, ⟨L + 1, by omega, rfl⟩, (Ext.trans (Ext.trans (NewB.ext n3) x5) x8)⟩
  · refine c_cond0 (vb (ev_t rfl rfl) (decide_eq_false h10)) ?_
    refine c_skip (n_then (c_seq (c_reg ?_)))
    refine s_move (v := .int .i64 ((1 + x.a.args.length + z6 : Nat) : Int)) (ev_t rfl rfl) (w0 rfl) ?_
    refine s_field (off := 10) (o' := 10) F_f38_4 (ev_t rfl rfl) rfl (w0 rfl) ?_
    refine s_loadL (cs := [.int .i8 x.e2.op, .string x.e2.t.v, .int .i8 x.e2.t.l.k, .int .i64 x.e2.t.l.n, .string x.e2.t.l.s, .slice A2 x.e2.kids.length c2]) (ca := #[.int .i8 x.e2.op, .string x.e2.t.v, .int .i8 x.e2.t.l.k, .int .i64 x.e2.t.l.n, .string x.e2.t.l.s, .slice A2 x.e2.kids.length c2]) F_m36 (ev_t rfl rfl) rfl rfl (blk_cells (Ext.blk x8 (Ext.blk x5 (NewB.blk n3))) 10 (cs := [.int .i8 x.e2.op, .string x.e2.t.v, .int .i8 x.e2.t.l.k, .int .i64 x.e2.t.l.n, .string x.e2.t.l.s, .slice A2 x.e2.kids.length c2]) rfl) (w0 rfl) ?_
    refine s_move (v := .int .i64 ((L : Nat) : Int)) (ev_t rfl rfl) (w0 rfl) ?_
    refine s_move (v := .int .i64 ((1 + x.a.args.length + z6 : Nat) : Int)) (ev_t rfl rfl) (w0 rfl) ?_
    refine s_sub (r := ((L - (1 + x.a.args.length + z6) : Nat) : Int)) (ev_t rfl rfl) (ev_t rfl rfl) (by omega) (by omega) (w0 rfl) ?_
    refine s_call F_e98 (w0 rfl) ev_f (m2 (ev_t rfl rfl) (ev_t rfl rfl)) (args := #[.agg #[.int .i8 x.e2.op, .string x.e2.t.v, .int .i8 x.e2.t.l.k, .int .i64 x.e2.t.l.n, .string x.e2.t.l.s, .slice A2 x.e2.kids.length c2], .int .i64 ((L - (1 + x.a.args.length + z6) : Nat) : Int)]) rfl (l_ExprParts x.e2 A2 c2 (L - (1 + x.a.args.length + z6)) _ ho2_ (Row.extE (Row.extE (Row.extE hr2 (NewB.ext n3)) x5) x8) (by omega)) ?_
    rintro _ w12 ⟨⟨z11, hz14, rfl⟩, x13⟩
    refine s_add (r := ((1 + x.a.args.length + z6 + z11 : Nat) : Int)) (ev_t rfl rfl) (ev_t rfl rfl) (by omega) (by omega) (w0 rfl) ?_
    refine s_assign (v := .int .i64 ((1 + x.a.args.length + z6 + z11 : Nat) : Int)) (ev_t rfl rfl) (w0 rfl) ?_
    refine c_done (n_then (c_ret ?_))
    refine ret1 (v := .int .i64 ((1 + x.a.args.length + z6 + z11 : Nat) : Int)) rfl rfl rfl ?_
    exact ⟨_, rfl, ⟨1 + x.a.args.length + z6 + z11, by omega, rfl⟩, (Ext.trans (Ext.trans (Ext.trans (NewB.ext n3) x5) x8) x13)⟩
end Go.Proofs.Zw

set_option linter.unusedVariables false
set_option linter.unusedSimpArgs false
namespace Go.Wk
open Go Go.RowKit Go.Lib
/-! ### copies with a mark behind each list, of any kind -/
structure TwOk {α : Type} (R : Nat → World → α → List Value → Prop) : Prop where
  mono : ∀ {lo lo' : Nat} {w : World} {x : α} {cs : List Value}, R lo w x cs → lo' ≤ lo → R lo' w x cs
  keep : ∀ {lo : Nat} {w w' : World} {x : α} {cs : List Value} {S : Nat → Prop}, R lo w x cs → Keep S w w' → (∀ i, S i → i < lo) → R lo w' x cs
structure TwG {α : Type} (R : Nat → World → α → List Value → Prop) (mk : List Value) (m lo : Nat) (w : World) (b : Nat) (l : List α) : Prop where
  above : lo ≤ b
  row : ∀ (j : Nat) (x : α), l[j]? = some x → ∃ cs, R lo w x cs ∧ ∀ (i : Nat) (u : Value), cs[i]? = some u → w.cell? ⟨b, 0 + j * m + i, none⟩ = some u
  mark : ∀ (i : Nat) (u : Value), mk[i]? = some u → w.cell? ⟨b, 0 + l.length * m + i, none⟩ = some u
section
variable {α : Type} {R : Nat → World → α → List Value → Prop} {mk : List Value} {m lo lo' b : Nat} {w w' : World} {l : List α}
theorem TwG.mono (ok : TwOk R) (h : TwG R mk m lo w b l) (hl : lo' ≤ lo) : TwG R mk m lo' w b l :=
  ⟨Nat.le_trans hl h.above, fun j x hx => by obtain ⟨c, h1, h2⟩ := h.row j x hx; exact ⟨c, ok.mono h1 hl, h2⟩, h.mark⟩
theorem TwG.keep (ok : TwOk R) {S : Nat → Prop} (h : TwG R mk m lo w b l) (k : Keep S w w') (hS : ∀ i, S i → i < lo) : TwG R mk m lo w' b l := by
  have hn : ¬ S b := fun hb => by have := hS b hb; have := h.above; omega
  exact ⟨h.above, fun j x hx => by obtain ⟨c, h1, h2⟩ := h.row j x hx; exact ⟨c, ok.keep h1 k hS, fun i u hu => k.cell (h2 i u hu) hn⟩, fun i u hu => k.cell (h.mark i u hu) hn⟩
theorem TwG.ext (ok : TwOk R) (h : TwG R mk m lo w b l) (k : Ext w w') : TwG R mk m lo w' b l := h.keep ok k (fun _ h => h.elim)
theorem TwG.rows {R0 : World → α → List Value → Prop} (h : TwG R mk m lo w b l) (hR : ∀ x cs, R lo w x cs → R0 w x cs) : Row R0 m w (some ⟨b, 0, none⟩) l :=
  .inr ⟨b, 0, rfl, fun j y hy => by obtain ⟨c, h1, h2⟩ := h.row j y hy; exact ⟨c, hR _ _ h1, h2⟩⟩
/-- What a block to be filled holds at a place. -/
def EG (R : Nat → World → α → List Value → Prop) (mk : List Value) (lo : Nat) (l : List α) (w : World) (j : Nat) (cs : List Value) : Prop := if j < l.length then ∀ x, l[j]? = some x → R lo w x cs else cs = mk
theorem EG.keep (ok : TwOk R) {j : Nat} {cs : List Value} {S : Nat → Prop} (h : EG R mk lo l w j cs) (k : Keep S w w') (hS : ∀ i, S i → i < lo) : EG R mk lo l w' j cs := by
  unfold EG at *
  split
  · rename_i hj; rw [if_pos hj] at h; exact fun x hx => ok.keep (h x hx) k hS
  · rename_i hj; rw [if_neg hj] at h; exact h
theorem EG.of {j : Nat} {x : α} {cs : List Value} (hx : l[j]? = some x) (h : R lo w x cs) : EG R mk lo l w j cs := by
  unfold EG
  rw [if_pos (List.getElem?_eq_some_iff.1 hx).1]
  intro y hy; rw [hx] at hy; cases hy; exact h
theorem EG.mark : EG R mk lo l w l.length mk := by unfold EG; rw [if_neg (Nat.lt_irrefl _)]
theorem TwG.of_fill (ok : TwOk R) {e N : Nat} (h : Fill (EG R mk lo l) m e w b N (l.length + 1)) (hl : lo' ≤ lo) (hb : lo' ≤ b) : TwG R mk m lo' w b l := by
  refine ⟨hb, fun j x hx => ?_, ?_⟩
  · have hj : j < l.length := (List.getElem?_eq_some_iff.1 hx).1
    obtain ⟨c, a1, _, a3⟩ := h.cells j (by omega)
    unfold EG at a1
    rw [if_pos hj] at a1
    exact ⟨c, ok.mono (a1 x hx) hl, a3⟩
  · obtain ⟨c, a1, _, a3⟩ := h.cells l.length (by omega)
    unfold EG at a1
    rw [if_neg (Nat.lt_irrefl _)] at a1
    subst a1
    exact a3
end
/-! ### the kinds -/
structure Ag where
  k : Int
  t : Tm
structure Ag.wf (x : Ag) : Prop where
  k : -128 ≤ x.k ∧ x.k ≤ 127
  t : x.t.wf
structure Ru where
  p : ByteArray
  head : List Ag
  body : List Lt
structure Ru.okc (x : Ru) (ch cb : Nat) : Prop where
  p : x.p.size ≤ 140737488351232
  hl : x.head.length ≤ ch
  hc : x.head.length * 56 ≤ 140737488351232
  bl : x.body.length ≤ cb
  bc : x.body.length * 216 ≤ 140737488351232
def Ag.none : Ag := ⟨0, Tm.none⟩
def agAt (l : List Ag) (j : Nat) : Ag := l.getD j Ag.none
theorem agAt_of {l : List Ag} {y : Ag} {j : Nat} (h : l[j]? = some y) : agAt l j = y := by simp [agAt, List.getD_eq_getElem?_getD, h]
theorem agAt_there {l : List Ag} {j : Nat} (h : j < l.length) : l[j]? = some (agAt l j) := by simp [agAt, List.getD_eq_getElem?_getD, h]
def Ex.zero : Ex := .mk 0 Tm.none []
def Lt.zero : Lt := ⟨0, ⟨⟨#[]⟩, []⟩, 0, Ex.zero, Ex.zero⟩
def ltAt (l : List Lt) (j : Nat) : Lt := l.getD j Lt.zero
theorem ltAt_of {l : List Lt} {y : Lt} {j : Nat} (h : l[j]? = some y) : ltAt l j = y := by simp [ltAt, List.getD_eq_getElem?_getD, h]
theorem ltAt_there {l : List Lt} {j : Nat} (h : j < l.length) : l[j]? = some (ltAt l j) := by simp [ltAt, List.getD_eq_getElem?_getD, h]
def ruAt (l : List Ru) (j : Nat) : Ru := l.getD j ⟨⟨#[]⟩, [], []⟩
theorem ruAt_of {l : List Ru} {y : Ru} {j : Nat} (h : l[j]? = some y) : ruAt l j = y := by simp [ruAt, List.getD_eq_getElem?_getD, h]
theorem ruAt_there {l : List Ru} {j : Nat} (h : j < l.length) : l[j]? = some (ruAt l j) := by simp [ruAt, List.getD_eq_getElem?_getD, h]
def tmCs (x : Tm) : List Value := [.string x.v, .int .i8 x.l.k, .int .i64 x.l.n, .string x.l.s]
def ltCs (x : Lt) (Aa A1 A2 : Option Addr) (ca c1 c2 : Nat) : List Value := [.int .i8 x.k, .string x.a.p, .slice Aa x.a.args.length ca, .int .i8 x.r, .int .i8 x.e1.op, .string x.e1.t.v, .int .i8 x.e1.t.l.k, .int .i64 x.e1.t.l.n, .string x.e1.t.l.s, .slice A1 x.e1.kids.length c1, .int .i8 x.e2.op, .string x.e2.t.v, .int .i8 x.e2.t.l.k, .int .i64 x.e2.t.l.n, .string x.e2.t.l.s, .slice A2 x.e2.kids.length c2]
def ruCs (x : Ru) (Ah Ab : Option Addr) (ch cb : Nat) : List Value := [.string x.p, .slice Ah x.head.length ch, .slice Ab x.body.length cb]
def RG (w : World) (x : Ag) (cs : List Value) : Prop := cs = [.int .i8 x.k, .string x.t.v, .int .i8 x.t.l.k, .int .i64 x.t.l.n, .string x.t.l.s] ∧ x.wf
def RL (w : World) (x : Lt) (cs : List Value) : Prop := ∃ Aa A1 A2 ca c1 c2, cs = ltCs x Aa A1 A2 ca c1 c2 ∧ x.okc ca c1 c2 ∧ Row RT 4 w Aa x.a.args ∧ Row RE 6 w A1 x.e1.kids ∧ Row RE 6 w A2 x.e2.kids
def RU (w : World) (x : Ru) (cs : List Value) : Prop := ∃ Ah Ab ch cb, cs = ruCs x Ah Ab ch cb ∧ x.okc ch cb ∧ Row RG 5 w Ah x.head ∧ Row RL 16 w Ab x.body
theorem Row.extG {w w' : World} {A : Option Addr} {xs : List Ag} (h : Row RG 5 w A xs) (k : Ext w w') : Row RG 5 w' A xs := h.ext k (fun _ _ k h => h)
theorem RL.ext {w w' : World} (k : Ext w w') {x : Lt} {cs : List Value} (h : RL w x cs) : RL w' x cs := by
  obtain ⟨Aa, A1, A2, ca, c1, c2, h1, h2, h3, h4, h5⟩ := h; exact ⟨Aa, A1, A2, ca, c1, c2, h1, h2, h3.extT k, h4.extE k, h5.extE k⟩
theorem Row.extL {w w' : World} {A : Option Addr} {xs : List Lt} (h : Row RL 16 w A xs) (k : Ext w w') : Row RL 16 w' A xs := h.ext k (fun _ _ k h => RL.ext k h)
theorem RU.ext {w w' : World} (k : Ext w w') {x : Ru} {cs : List Value} (h : RU w x cs) : RU w' x cs := by
  obtain ⟨Ah, Ab, ch, cb, h1, h2, h3, h4⟩ := h; exact ⟨Ah, Ab, ch, cb, h1, h2, h3.extG k, h4.extL k⟩
theorem Row.extU {w w' : World} {A : Option Addr} {xs : List Ru} (h : Row RU 3 w A xs) (k : Ext w w') : Row RU 3 w' A xs := h.ext k (fun _ _ k h => RU.ext k h)
/-! ### their copies -/
def markT : List Value := [.string spareW, .int .i8 0, .int .i64 0, .string ⟨#[]⟩]
def markG : List Value := [.int .i8 0, .string spareW, .int .i8 0, .int .i64 0, .string ⟨#[]⟩]
def markL : List Value := [.int .i8 99, .string spareW, .slice none 0 0, .int .i8 0, .int .i8 0, .string ⟨#[]⟩, .int .i8 0, .int .i64 0, .string ⟨#[]⟩, .slice none 0 0, .int .i8 0, .string ⟨#[]⟩, .int .i8 0, .int .i64 0, .string ⟨#[]⟩, .slice none 0 0]
def markU : List Value := [.string spareW, .slice none 0 0, .slice none 0 0]
def QT (lo : Nat) (w : World) (x : Tm) (cs : List Value) : Prop := RT w x cs
def QG (lo : Nat) (w : World) (x : Ag) (cs : List Value) : Prop := RG w x cs
theorem okT : TwOk QT := ⟨fun h _ => h, fun h _ _ => h⟩
theorem okG : TwOk QG := ⟨fun h _ => h, fun h _ _ => h⟩
theorem TwE.keep_ {lo : Nat} {w w' : World} {b : Nat} {kids : List Ex} {S : Nat → Prop} (h : TwE lo w b kids) (k : Keep S w w') (hS : ∀ i, S i → i < lo) : TwE lo w' b kids := h.keep k hS
def QL (lo : Nat) (w : World) (x : Lt) (cs : List Value) : Prop := ∃ ba b1 b2, cs = ltCs x (some ⟨ba, 0, none⟩) (some ⟨b1, 0, none⟩) (some ⟨b2, 0, none⟩) (x.a.args.length + 1) (x.e1.kids.length + 1) (x.e2.kids.length + 1) ∧ x.okc (x.a.args.length + 1) (x.e1.kids.length + 1) (x.e2.kids.length + 1) ∧ TwG QT markT 4 lo w ba x.a.args ∧ TwE lo w b1 x.e1.kids ∧ TwE lo w b2 x.e2.kids
theorem okL : TwOk QL := ⟨fun h hl => by
  obtain ⟨ba, b1, b2, h1, h2, h3, h4, h5⟩ := h; exact ⟨ba, b1, b2, h1, h2, h3.mono okT hl, h4.mono hl, h5.mono hl⟩, fun h k hS => by
  obtain ⟨ba, b1, b2, h1, h2, h3, h4, h5⟩ := h; exact ⟨ba, b1, b2, h1, h2, h3.keep okT k hS, h4.keep k hS, h5.keep k hS⟩⟩
def QU (lo : Nat) (w : World) (x : Ru) (cs : List Value) : Prop := ∃ bh bb, cs = ruCs x (some ⟨bh, 0, none⟩) (some ⟨bb, 0, none⟩) (x.head.length + 1) (x.body.length + 1) ∧ x.okc (x.head.length + 1) (x.body.length + 1) ∧ TwG QG markG 5 lo w bh x.head ∧ TwG QL markL 16 lo w bb x.body
theorem okU : TwOk QU := ⟨fun h hl => by
  obtain ⟨bh, bb, h1, h2, h3, h4⟩ := h; exact ⟨bh, bb, h1, h2, h3.mono okG hl, h4.mono okL hl⟩, fun h k hS => by
  obtain ⟨bh, bb, h1, h2, h3, h4⟩ := h; exact ⟨bh, bb, h1, h2, h3.keep okG k hS, h4.keep okL k hS⟩⟩
theorem TwG.rowsT {lo : Nat} {w : World} {b : Nat} {l : List Tm} (h : TwG QT markT 4 lo w b l) : Row RT 4 w (some ⟨b, 0, none⟩) l := h.rows (fun _ _ h => h)
theorem TwG.rowsG {lo : Nat} {w : World} {b : Nat} {l : List Ag} (h : TwG QG markG 5 lo w b l) : Row RG 5 w (some ⟨b, 0, none⟩) l := h.rows (fun _ _ h => h)
theorem QL.rl {lo : Nat} {w : World} {x : Lt} {cs : List Value} (h : QL lo w x cs) : RL w x cs := by
  obtain ⟨ba, b1, b2, h1, h2, h3, h4, h5⟩ := h; exact ⟨_, _, _, _, _, _, h1, h2, h3.rowsT, h4.rows, h5.rows⟩
theorem TwG.rowsL {lo : Nat} {w : World} {b : Nat} {l : List Lt} (h : TwG QL markL 16 lo w b l) : Row RL 16 w (some ⟨b, 0, none⟩) l := h.rows (fun _ _ h => h.rl)
theorem QU.ru {lo : Nat} {w : World} {x : Ru} {cs : List Value} (h : QU lo w x cs) : RU w x cs := by
  obtain ⟨bh, bb, h1, h2, h3, h4⟩ := h; exact ⟨_, _, _, _, h1, h2, h3.rowsG, h4.rowsL⟩
theorem TwG.rowsU {lo : Nat} {w : World} {b : Nat} {l : List Ru} (h : TwG QU markU 3 lo w b l) : Row RU 3 w (some ⟨b, 0, none⟩) l := h.rows (fun _ _ h => h.ru)
/-! ### a row of literals that a call builds -/
theorem Row.two {w : World} {g t : Nat} {fz : Nat × Nat} {x y : Lt} {Aa A1 A2 Ba B1 B2 : Option Addr} {ca c1 c2 da d1 d2 : Nat} (h : w.heap[g]? = some (.cells (ltCs x Aa A1 A2 ca c1 c2 ++ ltCs y Ba B1 B2 da d1 d2).toArray t fz))
    (hx : x.okc ca c1 c2) (xa : Row RT 4 w Aa x.a.args) (x1 : Row RE 6 w A1 x.e1.kids) (x2 : Row RE 6 w A2 x.e2.kids) (hy : y.okc da d1 d2) (ya : Row RT 4 w Ba y.a.args) (y1 : Row RE 6 w B1 y.e1.kids) (y2 : Row RE 6 w B2 y.e2.kids) : Row RL 16 w (some ⟨g, 0, none⟩) [x, y] := by
  refine .inr ⟨g, 0, rfl, fun j z hz => ?_⟩
  have hj : j < 2 := by have := (List.getElem?_eq_some_iff.1 hz).1; exact this
  have hj2 : j = 0 ∨ j = 1 := by omega
  rcases hj2 with rfl | rfl
  · have : z = x := by simpa using hz.symm
    subst this
    exact ⟨_, ⟨Aa, A1, A2, ca, c1, c2, rfl, hx, xa, x1, x2⟩, blk_cells h 0 (cs := ltCs z Aa A1 A2 ca c1 c2) rfl⟩
  · have : z = y := by simpa using hz.symm
    subst this
    exact ⟨_, ⟨Ba, B1, B2, da, d1, d2, rfl, hy, ya, y1, y2⟩, blk_cells h 16 (cs := ltCs z Ba B1 B2 da d1 d2) rfl⟩
end Go.Wk

set_option linter.unusedVariables false
set_option linter.unusedSimpArgs false
namespace Go.Wk
open Go
/-! ### a drawn region whose first operations come in any order, each with its own trace -/
/-- What is known of the operations that are done (L): what each gave, between which worlds. -/
structure Tr (G : Nat → Value → World → World → Prop) (dst : Nat → Nat) (m : Nat) (w0 : World) (env0 env : Nat → Value) (L : Nat → Prop) (B A : Nat → World) (w : World) : Prop where
  ext : Ext w0 w
  g : ∀ k, L k → G k (env (dst k)) (B k) (A k)
  x0 : ∀ k, L k → Ext w0 (B k)
  x1 : ∀ k, L k → Ext (B k) (A k)
  x2 : ∀ k, L k → Ext (A k) w
  ap : ∀ j k, L j → L k → j ≠ k → Ext (A j) (B k) ∨ Ext (A k) (B j)
  env : ∀ s, (∀ k, k < m → dst k ≠ s) → env s = env0 s
section
variable {P : Program} {ops : Array Oper} {Q : Exit → Act → World → Prop} {n : Nat} {ds : List Deferred} {w w0 : World} {G : Nat → Value → World → World → Prop} {dst : Nat → Nat} {m : Nat} {env0 env : Nat → Value} {B A : Nat → World}
theorem Tr.sub {L L' : Nat → Prop} (h : Tr G dst m w0 env0 env L B A w) (hs : ∀ k, L' k → L k) : Tr G dst m w0 env0 env L' B A w :=
  ⟨h.ext, fun k hk => h.g k (hs k hk), fun k hk => h.x0 k (hs k hk), fun k hk => h.x1 k (hs k hk), fun k hk => h.x2 k (hs k hk), fun j k hj hk => h.ap j k (hs j hj) (hs k hk), h.env⟩
def freeB (md : Region.Mode) (ops : Array Oper) (pre : Nat → List Nat) (m : Nat) : Nat → Array Bool → Bool
  | 0, listed => (List.range m).all (fun k => listed.getD k false) && Region.seqB md ops (ops.size - m) m listed
  | f + 1, listed => !(Region.ready md ops listed).isEmpty && (Region.ready md ops listed).all fun i => decide (i < m) && (pre i).all (fun j => listed.getD j false && decide (j < m)) && !listed.getD i true && freeB md ops pre m f (listed.setIfInBounds i true)
theorem getD_set {l : Array Bool} {i k : Nat} (hi : l.getD i true = false) : (l.setIfInBounds i true).getD k false = true ↔ k = i ∨ l.getD k false = true := by
  have hlt : i < l.size := by
    by_cases h : i < l.size
    · exact h
    · simp [Array.getD, h] at hi
  rw [Array.getD_eq_getD_getElem?, Array.getD_eq_getD_getElem?, Array.getElem?_setIfInBounds]
  by_cases h : i = k
  · subst h; simp [hlt]
  · simp [h, Ne.symm h]
theorem upd_eq {f : Nat → Value} {k : Nat} {v : Value} : upd f k v k = v := by simp [upd]
theorem upd_ne {f : Nat → Value} {k s : Nat} {v : Value} (h : s ≠ k) : upd f k v s = f s := by
  have hb : Nat.beq s k = false := by
    cases hb : Nat.beq s k with
    | false => rfl
    | true => exact absurd (Nat.eq_of_beq_eq_true hb) h
  show (bif Nat.beq s k then v else f s) = f s
  rw [hb]; rfl
theorem trace_go {wd : World} {pre : Nat → List Nat} (l : List Oper) (hl : l.toArray = ops) (hd : ∀ j, j < m → ∀ k, k < m → dst j = dst k → j = k)
    (step : ∀ k, k < m → ∀ (env : Nat → Value) (B A : Nat → World) (w1 : World), Tr G dst m wd env0 env (fun j => j ∈ pre k) B A w1 → ∃ o, ops[k]? = some o ∧ wpList P ops (onlyN fun a' w' => ∃ v, a' = mkA n (upd env (dst k) v) ds ∧ G k v w1 w' ∧ Ext w1 w') [o] (mkA n env ds) w1)
    (fin : ∀ (env : Nat → Value) (B A : Nat → World) (w1 : World), Tr G dst m wd env0 env (fun j => j < m) B A w1 → wpTailS P ops (fun _ => True) (Q .normal) (l.drop m) (mkA n env ds) w1) :
    ∀ (f : Nat) (listed : Array Bool) (env : Nat → Value) (B A : Nat → World) (w1 : World), freeB .any ops pre m f listed = true → Tr G dst m wd env0 env (fun j => listed.getD j false = true ∧ j < m) B A w1 → wpAnyH P .any ops (onlyN (Q .normal)) (fun _ => True) (f + (ops.size - m)) listed (mkA n env ds) w1
  | 0, listed, env, B, A, w1, hB, h => by
    simp only [freeB, Bool.and_eq_true, List.all_eq_true, List.mem_range] at hB
    have hdl : (l.drop m).length = ops.size - m := by rw [← hl]; simp
    rw [Nat.zero_add, ← hdl]
    refine wpAnyH_seq (l.drop m) m listed _ _ (fun j => by rw [← hl]; simp [List.getElem?_drop]) (by rw [hdl]; exact hB.2) (fin env B A w1 (h.sub fun k hk => ⟨hB.1 k hk, hk⟩))
  | f + 1, listed, env, B, A, w1, hB, h => by
    simp only [freeB, Bool.and_eq_true, List.all_eq_true, Bool.not_eq_true', decide_eq_true_eq] at hB
    rw [show f + 1 + (ops.size - m) = (f + (ops.size - m)) + 1 by omega]
    refine wpAnyH_all (rs := Region.ready .any ops listed) rfl (by intro h0; rw [h0] at hB; simp at hB) fun i hi => ?_
    obtain ⟨⟨⟨him, hpre⟩, hnl⟩, hB'⟩ := hB.2 i hi
    obtain ⟨o, ho, hs⟩ := step i him env B A w1 (h.sub fun k hk => hpre k hk)
    have hni : ¬ (listed.getD i false = true) := by
      have hlt : i < listed.size := by
        by_cases h : i < listed.size
        · exact h
        · simp [Array.getD, h] at hnl
      simp only [Array.getD, hlt, dif_pos] at hnl ⊢
      rw [hnl]; simp
    refine wpOp_mono (fun a2 w2 h2 => ⟨trivial, ?_⟩) (wpOp_tail (md := .any) ho hs)
    obtain ⟨v, rfl, hg, hx⟩ := h2
    refine trace_go l hl hd step fin f _ (upd env (dst i) v) (fun k => if k = i then w1 else B k) (fun k => if k = i then w2 else A k) w2 hB' ?_
    have old : ∀ k, ((listed.setIfInBounds i true).getD k false = true ∧ k < m) → k ≠ i → listed.getD k false = true ∧ k < m := fun k hk hn => ⟨((getD_set hnl).1 hk.1).resolve_left hn, hk.2⟩
    refine ⟨Ext.trans h.ext hx, fun k hk => ?_, fun k hk => ?_, fun k hk => ?_, fun k hk => ?_, fun j k hj hk hjk => ?_, fun s hs => ?_⟩
    · by_cases e : k = i
      · subst e; simp only [if_true]; rw [upd_eq]; exact hg
      · have hne : dst k ≠ dst i := fun he => e (hd k hk.2 i him he)
        simp only [if_neg e]; rw [upd_ne hne]; exact h.g k (old k hk e)
    · by_cases e : k = i
      · simp only [if_pos e]; exact h.ext
      · simp only [if_neg e]; exact h.x0 k (old k hk e)
    · by_cases e : k = i
      · simp only [if_pos e]; exact hx
      · simp only [if_neg e]; exact h.x1 k (old k hk e)
    · by_cases e : k = i
      · simp only [if_pos e]; exact Ext.refl _
      · simp only [if_neg e]; exact Ext.trans (h.x2 k (old k hk e)) hx
    · by_cases e : k = i
      · by_cases e2 : j = i
        · exact absurd (e2.trans e.symm) hjk
        · simp only [if_pos e, if_neg e2]; exact .inl (h.x2 j (old j hj e2))
      · by_cases e2 : j = i
        · simp only [if_neg e, if_pos e2]; exact .inr (h.x2 k (old k hk e))
        · simp only [if_neg e, if_neg e2]; exact h.ap j k (old j hj e2) (old k hk e) hjk
    · have hne : s ≠ dst i := fun he => hs i him he.symm
      rw [upd_ne hne]; exact h.env s hs
def traceB (ops : Array Oper) (pre : Nat → List Nat) (m : Nat) : Bool := decide (m ≤ ops.size) && freeB .any ops pre m m (Array.replicate ops.size false)
theorem c_trace {id : Nat} {l : List Oper} (G : Nat → Value → World → World → Prop) (dst : Nat → Nat) (pre : Nat → List Nat) (m : Nat) (hm : P.follows .mixedOrders = true) (hB : traceB l.toArray pre m = true) (hd : ∀ j, j < m → ∀ k, k < m → dst j = dst k → j = k)
    (step : ∀ wd, Ext w wd → ∀ k, k < m → ∀ (env : Nat → Value) (B A : Nat → World) (w1 : World), Tr G dst m wd env0 env (fun j => j ∈ pre k) B A w1 → ∃ o, l.toArray[k]? = some o ∧ wpList P l.toArray (onlyN fun a' w' => ∃ v, a' = mkA n (upd env (dst k) v) ds ∧ G k v w1 w' ∧ Ext w1 w') [o] (mkA n env ds) w1)
    (fin : ∀ wd, Ext w wd → ∀ (env : Nat → Value) (B A : Nat → World) (w1 : World), Tr G dst m wd env0 env (fun j => j < m) B A w1 → wpTailS P l.toArray (fun _ => True) (Q .normal) (l.drop m) (mkA n env ds) w1) : (Code.region id l.toArray true).wp P Q (mkA n env0 ds) w := by
  simp only [traceB, Bool.and_eq_true, decide_eq_true_eq] at hB
  have hd0 : Ext w { w with drawn := w.drawn + 1 } := ⟨rfl, rfl, rfl, Nat.le_refl _, fun _ _ _ => rfl⟩
  refine wp_region_any hm (wpAny_onlyN _ _ _ _ (wpAny_of_held (S := fun _ => True) _ _ _ _ ?_))
  have e : l.toArray.size = m + (l.toArray.size - m) := by omega
  rw [e]
  refine trace_go l rfl hd (step _ hd0) (fin _ hd0) m _ env0 (fun _ => w) (fun _ => w) _ (by rw [← e]; exact hB.2) ?_
  have no : ∀ k, ¬ ((Array.replicate (m + (l.toArray.size - m)) false).getD k false = true ∧ k < m) := fun k h => by
    have := h.1
    simp only [Array.getD, Array.getInternal, Array.getElem_replicate] at this
    split at this <;> simp at this
  exact ⟨Ext.refl _, fun k h => absurd h (no k), fun k h => absurd h (no k), fun k h => absurd h (no k), fun k h => absurd h (no k), fun j k _ h => absurd h (no k), fun s _ => rfl⟩
end
/-! ### copies over stores into younger blocks -/
theorem Lt.okc.twin {x : Lt} {ca c1 c2 : Nat} (h : x.okc ca c1 c2) : x.okc (x.a.args.length + 1) (x.e1.kids.length + 1) (x.e2.kids.length + 1) :=
  ⟨h.k, h.r, ⟨h.a.p, Nat.le_succ _, h.a.c⟩, ⟨h.e1.op, h.e1.t, Nat.le_succ _, h.e1.c⟩, ⟨h.e2.op, h.e2.t, Nat.le_succ _, h.e2.c⟩⟩
theorem LE.keep2 {lo : Nat} {w w' : World} {x : Ex} {cs : List Value} {S : Nat → Prop} (h : LE lo w x cs) (k : Keep S w w') (hS : ∀ i, S i → i < lo ∨ w.heap.size ≤ i) : LE lo w' x cs := by
  induction h with
  | mk op t kids b f hlo hop ht hc hr hcell hm ih =>
    have hb := World.block_lt_of_cell? w _ (hm 0 _ rfl)
    have hn : ¬ S b := fun h => by have := hS b h; simp only at hb; omega
    exact .mk op t kids b f hlo hop ht hc ih (fun j x hx i u hu => k.cell (hcell j x hx i u hu) hn) (fun i u hu => k.cell (hm i u hu) hn)
theorem TwE.keep2 {lo : Nat} {w w' : World} {b : Nat} {kids : List Ex} {S : Nat → Prop} (h : TwE lo w b kids) (k : Keep S w w') (hS : ∀ i, S i → i < lo ∨ w.heap.size ≤ i) : TwE lo w' b kids := by
  have hb := World.block_lt_of_cell? w _ (h.mark 0 _ rfl)
  have hn : ¬ S b := fun hb2 => by have := hS b hb2; have := h.above; simp only at hb; omega
  exact ⟨h.above, fun j x hx => by obtain ⟨l, h1, h2⟩ := h.row j x hx; exact ⟨l, h1.keep2 k hS, fun i u hu => k.cell (h2 i u hu) hn⟩, fun i u hu => k.cell (h.mark i u hu) hn⟩
theorem TwG.keepT2 {lo : Nat} {w w' : World} {b : Nat} {l : List Tm} {S : Nat → Prop} (h : TwG QT markT 4 lo w b l) (k : Keep S w w') (hS : ∀ i, S i → i < lo ∨ w.heap.size ≤ i) : TwG QT markT 4 lo w' b l := by
  have hb := World.block_lt_of_cell? w _ (h.mark 0 _ rfl)
  have hn : ¬ S b := fun hb2 => by have := hS b hb2; have := h.above; simp only at hb; omega
  exact ⟨h.above, fun j x hx => by obtain ⟨c, h1, h2⟩ := h.row j x hx; exact ⟨c, h1, fun i u hu => k.cell (h2 i u hu) hn⟩, fun i u hu => k.cell (h.mark i u hu) hn⟩
theorem Ex.zero_okc : Ex.zero.okc 0 := ⟨by decide, nil_wf, by decide, by decide⟩
theorem Lt.okc.ofAtom {a : At} {c : Nat} (h : a.okc c) : (⟨0, a, 0, Ex.zero, Ex.zero⟩ : Lt).okc c 0 0 :=
  have h0 : (-128 : Int) ≤ 0 ∧ (0 : Int) ≤ 127 := by decide
  ⟨h0, h0, h, Ex.zero_okc, Ex.zero_okc⟩
theorem cmpS_selfn (a : ByteArray) : cmpS .neq a a = some false := by simp [cmpS]
/-- From a world on, over two stores. -/
theorem two_stores {a b c d : World} {g h : Nat} (x : Ext a b) (k1 : Keep (fun i => i = g) b c) (k2 : Keep (fun i => i = h) c d) : Keep (fun i => i = g ∨ i = h) a d :=
  ((Keep.mono x (fun _ _ h => h.elim)).then_ k1 (fun i _ h => .inl h)).then_ k2 (fun i _ h => .inr h)
end Go.Wk

set_option linter.unusedVariables false
set_option linter.unusedSimpArgs false
set_option maxRecDepth 10000
namespace Go.Proofs.Zw
open Go Go.Wk Go.Proofs Go.Lib
attribute [local irreducible] Go.wpList Go.wpStill Go.wpQuiet Go.Code.wp Go.Calls
theorem F_e15 : enterable Tryz.prog 15 = true := by kernel_rfl
theorem F_e29 : enterable Tryz.prog 29 = true := by kernel_rfl
theorem F_e41 : enterable Tryz.prog 41 = true := by kernel_rfl
theorem F_e58 : enterable Tryz.prog 58 = true := by kernel_rfl
theorem F_e7 : enterable Tryz.prog 7 = true := by kernel_rfl
theorem F_e80 : enterable Tryz.prog 80 = true := by kernel_rfl
theorem F_e81 : enterable Tryz.prog 81 = true := by kernel_rfl
theorem F_iE22 : (Tryz.prog.info? (Tryz.prog.elem 22)).isSome = true := by kernel_rfl
theorem F_if33 : (Tryz.prog.info? 33).map (fun i => (i.zero, i.size, i.bytes)) = some (some (.agg #[.string (⟨#[]⟩ : ByteArray), .int .i8 0, .int .i64 0, .string (⟨#[]⟩ : ByteArray)]), 4, 48) := by kernel_rfl
theorem F_sz22 : (Tryz.prog.info? 22).map (·.size) = some 1 := by kernel_rfl
theorem F_sz24 : (Tryz.prog.info? 24).map (·.size) = some 2 := by kernel_rfl
theorem F_sz38 : (Tryz.prog.info? 38).map (·.size) = some 16 := by kernel_rfl
theorem F_uE22 : Tryz.prog.underlying 22 = some (.slice (Tryz.prog.elem 22)) := by kernel_rfl
theorem F_ul22 : Tryz.prog.underlying 22 = some (.slice 33) := by kernel_rfl
theorem F_z24 : (Tryz.prog.info? 24).bind (·.zero) = some (.agg #[.string (⟨#[]⟩ : ByteArray), .slice none 0 0]) := by kernel_rfl
theorem F_z38 : (Tryz.prog.info? 38).bind (·.zero) = some (.agg #[.int .i8 0, .string (⟨#[]⟩ : ByteArray), .slice none 0 0, .int .i8 0, .int .i8 0, .string (⟨#[]⟩ : ByteArray), .int .i8 0, .int .i64 0, .string (⟨#[]⟩ : ByteArray), .slice none 0 0, .int .i8 0, .string (⟨#[]⟩ : ByteArray), .int .i8 0, .int .i64 0, .string (⟨#[]⟩ : ByteArray), .slice none 0 0]) := by kernel_rfl
theorem eqn33 (a0 : ByteArray) (a1 : Int) (a2 : Int) (a3 : ByteArray) (a b : Operand) (w : World) : (do eqGuard .neq 33 a b (.agg #[.string a0, .int .i8 a1, .int .i64 a2, .string a3]) (.agg #[.string a0, .int .i8 a1, .int .i64 a2, .string a3]); binOp .neq 33 (.agg #[.string a0, .int .i8 a1, .int .i64 a2, .string a3]) (.agg #[.string a0, .int .i8 a1, .int .i64 a2, .string a3]) : Sem Value).run Tryz.prog w = .ok (.bool false) w := by
  have hu := Tryz.underlying33
  go_simp
set_option maxHeartbeats 4000000 in
theorem l_markTerm (n : Int) (w : World) (tb : Tabs Tryz.prog w) (hn : 0 ≤ n ∧ n ≤ 1000000) :
    Rt Tryz.prog 58 #[.int .i64 n] w fun v w' => v = .agg #[.string ((⟨#[35]⟩ : ByteArray) ++ itoaB n), .int .i8 0, .int .i64 0, .string (⟨#[]⟩ : ByteArray)] ∧ Ext w w' := by
  refine enter Tryz.func58 rfl (l := [.int .i64 n]) rfl Tryz.ntmps58 (Nat.le_of_ble_eq_true rfl) ?_
  refine c_seq (c_reg ?_)
  refine s_alloc (cs := #[.string (⟨#[]⟩ : ByteArray), .int .i8 0, .int .i64 0, .string (⟨#[]⟩ : ByteArray)]) (w0 rfl) F_z33 rfl ?_
  intro w2 g1 n3
  refine c_done (n_then (c_seq (c_reg ?_)))
  refine s_move (v := .int .i64 n) (ev_t rfl rfl) (w0 rfl) ?_
  refine s_call F_e96 (w0 rfl) ev_f (m1 (ev_t rfl rfl)) (args := #[.int .i64 n]) rfl (l_word n _ (Tabs.ext tb (NewB.ext n3)) (by omega)) ?_
  rintro _ w5 ⟨rfl, x4⟩
  refine s_build (v := .agg #[.string ((⟨#[35]⟩ : ByteArray) ++ itoaB n), .int .i8 0, .int .i64 0, .string (⟨#[]⟩ : ByteArray)]) (vs := [(0, .string ((⟨#[35]⟩ : ByteArray) ++ itoaB n))]) (b1 (ev_t rfl rfl)) (bd33_0s ((⟨#[35]⟩ : ByteArray) ++ itoaB n)) (w0 rfl) ?_
  refine s_store (cs' := #[.string ((⟨#[35]⟩ : ByteArray) ++ itoaB n), .int .i8 0, .int .i64 0, .string (⟨#[]⟩ : ByteArray)]) F_sz33 (ev_t rfl rfl) (ev_t rfl rfl) (l := [.string ((⟨#[35]⟩ : ByteArray) ++ itoaB n), .int .i8 0, .int .i64 0, .string (⟨#[]⟩ : ByteArray)]) rfl rfl rfl (Ext.blk x4 (NewB.blk n3)) (Nat.le_of_ble_eq_true rfl) rfl (w0 rfl) ?_
  intro w6 k7
  refine c_done (n_then (c_ret ?_))
  refine retC (cs := [.string ((⟨#[35]⟩ : ByteArray) ++ itoaB n), .int .i8 0, .int .i64 0, .string (⟨#[]⟩ : ByteArray)]) (ca := #[.string ((⟨#[35]⟩ : ByteArray) ++ itoaB n), .int .i8 0, .int .i64 0, .string (⟨#[]⟩ : ByteArray)]) rfl rfl rfl F_m33 rfl rfl (blk_cells (Wrote.blk k7) 0 (cs := [.string ((⟨#[35]⟩ : ByteArray) ++ itoaB n), .int .i8 0, .int .i64 0, .string (⟨#[]⟩ : ByteArray)]) rfl) ?_
  refine ⟨_, rfl, ?_, (Keep.then_ (Ext.trans (NewB.ext n3) x4) (Wrote.keep k7) (fun i_ hi_ h_ => by have a_ := NewB.eq n3; have b_ := Keep.size (Ext.refl w); omega))⟩
  rfl
set_option maxHeartbeats 4000000 in
theorem l_isTerm (n : Int) (w : World) (tb : Tabs Tryz.prog w) (hn : 0 ≤ n ∧ n ≤ 1000000) :
    Rt Tryz.prog 81 #[.agg #[.string ((⟨#[35]⟩ : ByteArray) ++ itoaB n), .int .i8 0, .int .i64 0, .string (⟨#[]⟩ : ByteArray)], .int .i64 n] w fun v w' => v = .bool true ∧ Ext w w' := by
  refine enter Tryz.func81 rfl (l := [.agg #[.string ((⟨#[35]⟩ : ByteArray) ++ itoaB n), .int .i8 0, .int .i64 0, .string (⟨#[]⟩ : ByteArray)], .int .i64 n]) rfl Tryz.ntmps81 (Nat.le_of_ble_eq_true rfl) ?_
  refine c_seq (c_reg ?_)
  refine s_box (v := .agg #[.string ((⟨#[35]⟩ : ByteArray) ++ itoaB n), .int .i8 0, .int .i64 0, .string (⟨#[]⟩ : ByteArray)]) (cs := #[.string ((⟨#[35]⟩ : ByteArray) ++ itoaB n), .int .i8 0, .int .i64 0, .string (⟨#[]⟩ : ByteArray)]) (w0 rfl) (ev_t rfl rfl) rfl ?_
  intro w2 g1 n3
  refine s_assign (v := .bool false) ev_c (w0 rfl) ?_
  refine c_done (n_then (c_seq ?_))
  refine c_quiet mixed (by kernel_rfl) ?_
  refine q_val (v := .agg #[.string ((⟨#[35]⟩ : ByteArray) ++ itoaB n), .int .i8 0, .int .i64 0, .string (⟨#[]⟩ : ByteArray)]) (w0 rfl) (fun w_ c_ => r_loadL (cs := [.string ((⟨#[35]⟩ : ByteArray) ++ itoaB n), .int .i8 0, .int .i64 0, .string (⟨#[]⟩ : ByteArray)]) (ca := #[.string ((⟨#[35]⟩ : ByteArray) ++ itoaB n), .int .i8 0, .int .i64 0, .string (⟨#[]⟩ : ByteArray)]) F_m33 (ev_t rfl rfl) rfl rfl (blk_cells (Ext.blk c_ (NewB.blk n3)) 0 (cs := [.string ((⟨#[35]⟩ : ByteArray) ++ itoaB n), .int .i8 0, .int .i64 0, .string (⟨#[]⟩ : ByteArray)]) rfl)) ?_
  refine q_val (v := .int .i64 n) (w0 rfl) (fun w_ c_ => r_move (v := .int .i64 n) (ev_t rfl rfl)) ?_
  refine q_call (v := .string ((⟨#[35]⟩ : ByteArray) ++ itoaB n)) F_e96 (w0 rfl) ev_f (m1 (ev_t rfl rfl)) (args := #[.int .i64 n]) rfl (fun w_ c_ => Rt.mono (l_word n _ (Tabs.ext tb (Ext.trans (NewB.ext n3) c_)) (by omega)) (fun v_ w2_ h_ => ⟨h_.1, Ext.trans c_ h_.2⟩)) ?_
  refine q_val (v := .agg #[.string ((⟨#[35]⟩ : ByteArray) ++ itoaB n), .int .i8 0, .int .i64 0, .string (⟨#[]⟩ : ByteArray)]) (w0 rfl) (fun w_ c_ => r_build (v := .agg #[.string ((⟨#[35]⟩ : ByteArray) ++ itoaB n), .int .i8 0, .int .i64 0, .string (⟨#[]⟩ : ByteArray)]) (vs := [(0, .string ((⟨#[35]⟩ : ByteArray) ++ itoaB n))]) (b1 (ev_t rfl rfl)) (bd33_0s ((⟨#[35]⟩ : ByteArray) ++ itoaB n))) ?_
  refine q_val (v := .bool true) (w0 rfl) (fun w_ c_ => r_cmpG (r := true) (ev_t rfl rfl) (ev_t rfl rfl) ((fun w_ => eqs33 ((⟨#[35]⟩ : ByteArray) ++ itoaB n) 0 0 (⟨#[]⟩ : ByteArray) _ _ w_))) ?_
  refine q_val (v := .bool true) (w0 rfl) (fun w_ c_ => r_assign (v := .bool true) (ev_t rfl rfl)) ?_
  refine q_done ?_
  intro w4 x5
  refine n_then (c_ret ?_)
  refine ret1 (v := .bool true) rfl rfl rfl ?_
  refine ⟨_, rfl, ?_, (Ext.trans (NewB.ext n3) x5)⟩
  rfl
set_option maxHeartbeats 4000000 in
theorem l_SameTerms (l : List Tm) (A A2 : Option Addr) (c c2 : Nat) (w : World) (hl : l.length * 8 ≤ 140737488351232) (hr : Row RT 4 w A l) (hr2 : Row RT 4 w A2 l) :
    Rt Tryz.prog 80 #[.slice A l.length c, .slice A2 l.length c2] w fun v w' => v = .bool true ∧ Ext w w' := by
  refine enter Tryz.func80 rfl (l := [.slice A l.length c, .slice A2 l.length c2]) rfl Tryz.ntmps80 (Nat.le_of_ble_eq_true rfl) ?_
  refine c_seq (c_reg ?_)
  refine s_assign (v := .bool false) ev_c (w0 rfl) ?_
  refine c_done (n_then (c_seq (c_seq (c_reg ?_))))
  refine s_move (v := .slice A l.length c) (ev_t rfl rfl) (w0 rfl) ?_
  refine s_lenL F_l22 (ev_t rfl rfl) (w0 rfl) ?_
  refine s_move (v := .slice A2 l.length c2) (ev_t rfl rfl) (w0 rfl) ?_
  refine s_lenL F_l22 (ev_t rfl rfl) (w0 rfl) ?_
  refine s_cmp (r := false) (ev_t rfl rfl) (ev_t rfl rfl) (cmpI_selfn _) (w0 rfl) ?_
  refine c_done (n_then ?_)
  refine c_cond0 (ev_t rfl rfl) ?_
  refine c_skip (n_then (c_seq (c_seq (c_reg ?_))))
  refine s_assign (v := .int .i64 0) ev_c (w0 rfl) ?_
  refine c_done (n_then (c_block ?_))
  refine c_loop (α := Nat) (fun (i : Nat) env_ w_ => Ext w w_ ∧ i ≤ l.length ∧ env_ 0 = .slice A l.length c ∧ env_ 1 = .slice A2 l.length c2 ∧ env_ 5 = .int .i64 ((i : Nat) : Int)) (fun i => l.length - i) (0) ⟨Ext.refl _, Nat.zero_le _, rfl, rfl, rfl⟩ ?_
  rintro i env3 w1 ⟨x2, i4, e5, e6, e7⟩
  refine c_seq (c_seq (c_reg ?_))
  refine s_move (v := .int .i64 ((i : Nat) : Int)) (ev_t rfl e7) (w0 rfl) ?_
  refine s_move (v := .slice A l.length c) (ev_t rfl e5) (w0 rfl) ?_
  refine s_lenL F_l22 (ev_t rfl rfl) (w0 rfl) ?_
  refine s_cmp (r := decide (((i : Nat) : Int) < (l.length : Int))) (ev_t rfl rfl) (ev_t rfl rfl) rfl (w0 rfl) ?_
  refine c_done (n_then ?_)
  by_cases h8 : ((i : Nat) : Int) < (l.length : Int)
  · refine c_cond1 (vb (ev_t rfl rfl) (decide_eq_true h8)) ?_
    refine c_skip (n_then (c_seq (c_block (c_seq ?_))))
    refine c_quiet mixed (by kernel_rfl) ?_
    refine q_val (v := .slice A l.length c) (w0 rfl) (fun w_ c_ => r_move (v := .slice A l.length c) (ev_t rfl e5)) ?_
    refine q_val (v := .int .i64 ((i : Nat) : Int)) (w0 rfl) (fun w_ c_ => r_move (v := .int .i64 ((i : Nat) : Int)) (ev_t rfl e7)) ?_
    obtain ⟨b9, o10, x11, csx11, hA12, hx13, hR14, hc15⟩ := Row.at_ hr i (by omega)
    obtain rfl := tmAt_of hx13
    obtain ⟨rfl, wf16⟩ := hR14
    refine q_val (v := .pointer (some ⟨b9, o10 + i * 4, none⟩)) (w0 rfl) (fun w_ c_ => r_indexR (j := i) F_l22 (ev_t rfl rfl) hA12 (ev_t rfl rfl) rfl (by omega)) ?_
    refine q_val (v := .agg #[.string ((tmAt l i).v), .int .i8 ((tmAt l i).l.k), .int .i64 ((tmAt l i).l.n), .string ((tmAt l i).l.s)]) (w0 rfl) (fun w_ c_ => r_loadL (cs := [.string ((tmAt l i).v), .int .i8 ((tmAt l i).l.k), .int .i64 ((tmAt l i).l.n), .string ((tmAt l i).l.s)]) (ca := #[.string ((tmAt l i).v), .int .i8 ((tmAt l i).l.k), .int .i64 ((tmAt l i).l.n), .string ((tmAt l i).l.s)]) F_m33 (ev_t rfl rfl) rfl rfl (sub_cells (cells_ext c_ (cells_ext x2 hc15)) 0 (cs2 := [.string ((tmAt l i).v), .int .i8 ((tmAt l i).l.k), .int .i64 ((tmAt l i).l.n), .string ((tmAt l i).l.s)]) rfl)) ?_
    refine q_val (v := .slice A2 l.length c2) (w0 rfl) (fun w_ c_ => r_move (v := .slice A2 l.length c2) (ev_t rfl e6)) ?_
    refine q_val (v := .int .i64 ((i : Nat) : Int)) (w0 rfl) (fun w_ c_ => r_move (v := .int .i64 ((i : Nat) : Int)) (ev_t rfl e7)) ?_
    obtain ⟨b17, o18, x19, csx19, hA20, hx21, hR22, hc23⟩ := Row.at_ hr2 i (by omega)
    obtain rfl := tmAt_of hx21
    obtain ⟨rfl, wf24⟩ := hR22
    refine q_val (v := .pointer (some ⟨b17, o18 + i * 4, none⟩)) (w0 rfl) (fun w_ c_ => r_indexR (j := i) F_l22 (ev_t rfl rfl) hA20 (ev_t rfl rfl) rfl (by omega)) ?_
    refine q_val (v := .agg #[.string ((tmAt l i).v), .int .i8 ((tmAt l i).l.k), .int .i64 ((tmAt l i).l.n), .string ((tmAt l i).l.s)]) (w0 rfl) (fun w_ c_ => r_loadL (cs := [.string ((tmAt l i).v), .int .i8 ((tmAt l i).l.k), .int .i64 ((tmAt l i).l.n), .string ((tmAt l i).l.s)]) (ca := #[.string ((tmAt l i).v), .int .i8 ((tmAt l i).l.k), .int .i64 ((tmAt l i).l.n), .string ((tmAt l i).l.s)]) F_m33 (ev_t rfl rfl) rfl rfl (sub_cells (cells_ext c_ (cells_ext x2 hc23)) 0 (cs2 := [.string ((tmAt l i).v), .int .i8 ((tmAt l i).l.k), .int .i64 ((tmAt l i).l.n), .string ((tmAt l i).l.s)]) rfl)) ?_
    refine q_val (v := .bool false) (w0 rfl) (fun w_ c_ => r_cmpG (r := false) (ev_t rfl rfl) (ev_t rfl rfl) ((fun w_ => eqn33 ((tmAt l i).v) ((tmAt l i).l.k) ((tmAt l i).l.n) ((tmAt l i).l.s) _ _ w_))) ?_
    refine q_done ?_
    intro w25 x26
    refine n_then ?_
    refine c_cond0 (ev_t rfl rfl) ?_
    refine c_skip (n_block (n_then (c_reg ?_)))
    refine s_move (v := .int .i64 ((i : Nat) : Int)) (ev_t rfl e7) (w0 rfl) ?_
    refine s_add (r := ((i + 1 : Nat) : Int)) (ev_t rfl rfl) ev_c (by omega) (by omega) (w0 rfl) ?_
    refine s_assign (v := .int .i64 ((i + 1 : Nat) : Int)) (ev_t rfl rfl) (w0 rfl) ?_
    refine c_done ?_
    exact ⟨(i + 1), _, rfl, ⟨(Ext.trans x2 x26), by omega, e5, e6, rfl⟩, (show l.length - (i + 1) < l.length - i by omega)⟩
  · refine c_cond0 (vb (ev_t rfl rfl) (decide_eq_false h8)) ?_
    refine c_exit (e_then (e_then (e_hit (n_then (c_seq (c_reg ?_))))))
    refine s_assign (v := .bool true) ev_c (w0 rfl) ?_
    refine c_done (n_then (c_ret ?_))
    refine ret1 (v := .bool true) rfl rfl rfl ?_
    refine ⟨_, rfl, ?_, x2⟩
    rfl
set_option maxHeartbeats 4000000 in
theorem l_TwinTerms (l : List Tm) (A : Option Addr) (c : Nat) (w : World) (hl : l.length * 48 ≤ 140737488351232) (hr : Row RT 4 w A l) (tb : Tabs Tryz.prog w) :
    Rt Tryz.prog 29 #[.slice A l.length c] w fun v w' => ∃ b, v = .slice (some ⟨b, 0, none⟩) l.length (l.length + 1) ∧ TwG QT markT 4 w.heap.size w' b l ∧ Ext w w' := by
  refine enter Tryz.func29 rfl (l := [.slice A l.length c]) rfl Tryz.ntmps29 (Nat.le_of_ble_eq_true rfl) ?_
  refine c_seq (c_reg ?_)
  refine s_assign (v := .slice none 0 0) ev_c (w0 rfl) ?_
  refine c_done (n_then (c_seq (c_reg ?_)))
  refine s_move (v := .slice A l.length c) (ev_t rfl rfl) (w0 rfl) ?_
  refine s_lenL F_l22 (ev_t rfl rfl) (w0 rfl) ?_
  refine s_add (r := ((l.length + 1 : Nat) : Int)) (ev_t rfl rfl) ev_c (by omega) (by omega) (w0 rfl) ?_
  refine s_make (k := l.length + 1) F_ul22 F_if33 (ev_t rfl rfl) (ev_t rfl rfl) (by omega) (by omega) (w0 rfl) ?_
  intro w1 g2 cs3 hs4 n5
  have ge_g2 : w.heap.size ≤ g2 := by have a_ := NewB.eq n5; have b_ := Keep.size (Ext.refl w); omega
  have fl_g2 : Fill (EG QT markT (g2 + 1) l) 4 33 w1 g2 (l.length + 1) 0 := Fill.start n5 hs4
  refine s_assign (v := .slice (some ⟨g2, 0, none⟩) (l.length + 1) (l.length + 1)) (ev_t rfl rfl) (w0 rfl) ?_
  refine c_done (n_then (c_seq (c_seq (c_reg ?_))))
  refine s_assign (v := .int .i64 0) ev_c (w0 rfl) ?_
  refine c_done (n_then (c_block ?_))
  refine c_loop (α := Nat) (fun (i : Nat) env_ w_ => Ext w w_ ∧ i ≤ l.length ∧ Fill (EG QT markT (g2 + 1) l) 4 33 w_ g2 (l.length + 1) i ∧ env_ 0 = .slice A l.length c ∧ env_ 2 = .slice none 0 0 ∧ env_ 3 = .slice (some ⟨g2, 0, none⟩) (l.length + 1) (l.length + 1) ∧ env_ 4 = .int .i64 ((i : Nat) : Int)) (fun i => l.length - i) (0) ⟨(NewB.ext n5), Nat.zero_le _, fl_g2, rfl, rfl, rfl, rfl⟩ ?_
  rintro i env8 w6 ⟨x7, i9, i10, e11, e12, e13, e14⟩
  refine c_seq (c_seq (c_reg ?_))
  refine s_move (v := .int .i64 ((i : Nat) : Int)) (ev_t rfl e14) (w0 rfl) ?_
  refine s_move (v := .slice A l.length c) (ev_t rfl e11) (w0 rfl) ?_
  refine s_lenL F_l22 (ev_t rfl rfl) (w0 rfl) ?_
  refine s_cmp (r := decide (((i : Nat) : Int) < (l.length : Int))) (ev_t rfl rfl) (ev_t rfl rfl) rfl (w0 rfl) ?_
  refine c_done (n_then ?_)
  by_cases h15 : ((i : Nat) : Int) < (l.length : Int)
  · refine c_cond1 (vb (ev_t rfl rfl) (decide_eq_true h15)) ?_
    refine c_skip (n_then (c_seq (c_block (c_reg ?_))))
    refine s_move (v := .slice (some ⟨g2, 0, none⟩) (l.length + 1) (l.length + 1)) (ev_t rfl e13) (w0 rfl) ?_
    refine s_move (v := .int .i64 ((i : Nat) : Int)) (ev_t rfl e14) (w0 rfl) ?_
    refine s_move (v := .slice A l.length c) (ev_t rfl e11) (w0 rfl) ?_
    refine s_move (v := .int .i64 ((i : Nat) : Int)) (ev_t rfl e14) (w0 rfl) ?_
    obtain ⟨b16, o17, x18, csx18, hA19, hx20, hR21, hc22⟩ := Row.at_ hr i (by omega)
    obtain rfl := tmAt_of hx20
    obtain ⟨rfl, wf23⟩ := hR21
    refine s_indexR (j := i) F_l22 (ev_t rfl rfl) hA19 (ev_t rfl rfl) rfl (by omega) (w0 rfl) ?_
    refine s_loadL (cs := [.string ((tmAt l i).v), .int .i8 ((tmAt l i).l.k), .int .i64 ((tmAt l i).l.n), .string ((tmAt l i).l.s)]) (ca := #[.string ((tmAt l i).v), .int .i8 ((tmAt l i).l.k), .int .i64 ((tmAt l i).l.n), .string ((tmAt l i).l.s)]) F_m33 (ev_t rfl rfl) rfl rfl (sub_cells (cells_ext x7 hc22) 0 (cs2 := [.string ((tmAt l i).v), .int .i8 ((tmAt l i).l.k), .int .i64 ((tmAt l i).l.n), .string ((tmAt l i).l.s)]) rfl) (w0 rfl) ?_
    refine s_indexR (j := i) F_l22 (ev_t rfl rfl) rfl (ev_t rfl rfl) rfl (by omega) (w0 rfl) ?_
    have ee27 : EG QT markT (g2 + 1) l w6 i [.string ((tmAt l i).v), .int .i8 ((tmAt l i).l.k), .int .i64 ((tmAt l i).l.n), .string ((tmAt l i).l.s)] := EG.of (tmAt_there (by omega)) ⟨rfl, wf23⟩
    refine s_storeF (i := i) (l := [.string ((tmAt l i).v), .int .i8 ((tmAt l i).l.k), .int .i64 ((tmAt l i).l.n), .string ((tmAt l i).l.s)]) (Fill.cast i10 (by omega)) (by omega) F_sz33 (ev_t rfl rfl) (ev_t rfl rfl) rfl rfl rfl (fun w_ k_ => ⟨fun j_ l_ _ h_ => EG.keep okT h_ k_ (fun i_ q_ => by omega), EG.keep okT ee27 k_ (fun i_ q_ => by omega)⟩) (w0 rfl) ?_
    intro w24 fl25 k26
    refine c_done (n_block (n_then (c_reg ?_)))
    refine s_move (v := .int .i64 ((i : Nat) : Int)) (ev_t rfl e14) (w0 rfl) ?_
    refine s_add (r := ((i + 1 : Nat) : Int)) (ev_t rfl rfl) ev_c (by omega) (by omega) (w0 rfl) ?_
    refine s_assign (v := .int .i64 ((i + 1 : Nat) : Int)) (ev_t rfl rfl) (w0 rfl) ?_
    refine c_done ?_
    exact ⟨(i + 1), _, rfl, ⟨(Keep.then_ x7 k26 (fun i_ hi_ h_ => by have a_ := ge_g2; omega)), by omega, fl25, e11, e12, e13, rfl⟩, (show l.length - (i + 1) < l.length - i by omega)⟩
  · refine c_cond0 (vb (ev_t rfl rfl) (decide_eq_false h15)) ?_
    refine c_exit (e_then (e_then (e_hit (n_then (c_seq (c_reg ?_))))))
    refine s_move (v := .slice (some ⟨g2, 0, none⟩) (l.length + 1) (l.length + 1)) (ev_t rfl e13) (w0 rfl) ?_
    refine s_move (v := .slice A l.length c) (ev_t rfl e11) (w0 rfl) ?_
    refine s_lenL F_l22 (ev_t rfl rfl) (w0 rfl) ?_
    refine s_call F_e58 (w0 rfl) ev_f (m1 ev_c) (args := #[.int .i64 777777]) rfl (l_markTerm 777777 _ (Tabs.ext tb x7) (by omega)) ?_
    rintro _ w29 ⟨rfl, x28⟩
    refine s_indexR (j := l.length) F_l22 (ev_t rfl rfl) rfl (ev_t rfl rfl) rfl (by omega) (w0 rfl) ?_
    have ee33 : EG QT markT (g2 + 1) l w29 l.length [.string ((⟨#[35]⟩ : ByteArray) ++ itoaB 777777), .int .i8 0, .int .i64 0, .string (⟨#[]⟩ : ByteArray)] := EG.mark
    refine s_storeF (i := l.length) (l := [.string ((⟨#[35]⟩ : ByteArray) ++ itoaB 777777), .int .i8 0, .int .i64 0, .string (⟨#[]⟩ : ByteArray)]) (Fill.cast (Fill.ext i10 x28 (fun j_ l_ h_ => EG.keep okT h_ x28 (fun _ h_ => h_.elim))) (by omega)) (by omega) F_sz33 (ev_t rfl rfl) (ev_t rfl rfl) rfl rfl rfl (fun w_ k_ => ⟨fun j_ l_ _ h_ => EG.keep okT h_ k_ (fun i_ q_ => by omega), EG.keep okT ee33 k_ (fun i_ q_ => by omega)⟩) (w0 rfl) ?_
    intro w30 fl31 k32
    refine c_done (n_then (c_seq (c_reg ?_)))
    refine s_move (v := .slice (some ⟨g2, 0, none⟩) (l.length + 1) (l.length + 1)) (ev_t rfl e13) (w0 rfl) ?_
    refine s_move (v := .slice A l.length c) (ev_t rfl e11) (w0 rfl) ?_
    refine s_lenL F_l22 (ev_t rfl rfl) (w0 rfl) ?_
    refine s_sliceH (h := l.length) F_uE22 F_iE22 (ev_t rfl rfl) (ev_t rfl rfl) (by omega) (w0 rfl) ?_
    refine s_assign (v := .slice (some ⟨g2, 0, none⟩) l.length (l.length + 1)) (ev_t rfl rfl) (w0 rfl) ?_
    refine c_done (n_then (c_ret ?_))
    refine ret1 (v := .slice (some ⟨g2, 0, none⟩) l.length (l.length + 1)) rfl rfl rfl ?_
    exact ⟨_, rfl, g2, rfl, TwG.of_fill okT (Fill.cast fl31 (by omega)) (by omega) (by omega), (Keep.then_ (Ext.trans x7 x28) k32 (fun i_ hi_ h_ => by have a_ := ge_g2; omega))⟩
set_option maxHeartbeats 4000000 in
theorem l_LeftTerms (l : List Tm) (A : Option Addr) (c b lo : Nat) (w : World) (hl : l.length * 48 ≤ 140737488351232) (tw : TwG QT markT 4 lo w b l) (hr : Row RT 4 w A l) (tb : Tabs Tryz.prog w) :
    Rt Tryz.prog 41 #[.slice (some ⟨b, 0, none⟩) l.length (l.length + 1), .slice A l.length c] w fun v w' => v = .bool true ∧ Ext w w' := by
  refine enter Tryz.func41 rfl (l := [.slice (some ⟨b, 0, none⟩) l.length (l.length + 1), .slice A l.length c]) rfl Tryz.ntmps41 (Nat.le_of_ble_eq_true rfl) ?_
  refine c_seq (c_reg ?_)
  refine s_assign (v := .bool false) ev_c (w0 rfl) ?_
  refine c_done (n_then (c_seq (c_reg ?_)))
  refine s_move (v := .slice (some ⟨b, 0, none⟩) l.length (l.length + 1)) (ev_t rfl rfl) (w0 rfl) ?_
  refine s_move (v := .slice A l.length c) (ev_t rfl rfl) (w0 rfl) ?_
  refine s_call F_e80 (w0 rfl) ev_f (m2 (ev_t rfl rfl) (ev_t rfl rfl)) (args := #[.slice (some ⟨b, 0, none⟩) l.length (l.length + 1), .slice A l.length c]) rfl (l_SameTerms l (some ⟨b, 0, none⟩) A (l.length + 1) c _ (by omega) (TwG.rowsT tw) hr) ?_
  rintro _ w2 ⟨rfl, x1⟩
  refine s_move (v := .bool true) (ev_t rfl rfl) (w0 rfl) ?_
  refine s_move (v := .slice (some ⟨b, 0, none⟩) l.length (l.length + 1)) (ev_t rfl rfl) (wy rfl rfl rfl rfl) ?_
  refine s_move (v := .slice A l.length c) (ev_t rfl rfl) (wy rfl rfl rfl rfl) ?_
  refine s_lenL F_l22 (ev_t rfl rfl) (wy rfl rfl rfl rfl) ?_
  refine s_add (r := ((l.length + 1 : Nat) : Int)) (ev_t rfl rfl) ev_c (by omega) (by omega) (wy rfl rfl rfl rfl) ?_
  refine s_sliceH (h := l.length + 1) F_uE22 F_iE22 (ev_t rfl rfl) (ev_t rfl rfl) (by omega) (wy rfl rfl rfl rfl) ?_
  refine s_move (v := .slice A l.length c) (ev_t rfl rfl) (wy rfl rfl rfl rfl) ?_
  refine s_lenL F_l22 (ev_t rfl rfl) (wy rfl rfl rfl rfl) ?_
  refine s_indexR (j := l.length) F_l22 (ev_t rfl rfl) rfl (ev_t rfl rfl) rfl (by omega) (wy rfl rfl rfl rfl) ?_
  refine s_loadL (cs := [.string ((⟨#[35]⟩ : ByteArray) ++ itoaB 777777), .int .i8 0, .int .i64 0, .string (⟨#[]⟩ : ByteArray)]) (ca := #[.string ((⟨#[35]⟩ : ByteArray) ++ itoaB 777777), .int .i8 0, .int .i64 0, .string (⟨#[]⟩ : ByteArray)]) F_m33 (ev_t rfl rfl) rfl rfl (sub_cells (cells_ext x1 (TwG.mark tw)) 0 (cs2 := [.string ((⟨#[35]⟩ : ByteArray) ++ itoaB 777777), .int .i8 0, .int .i64 0, .string (⟨#[]⟩ : ByteArray)]) rfl) (wy rfl rfl rfl rfl) ?_
  refine s_call F_e81 (wy rfl rfl rfl rfl) ev_f (m2 (ev_t rfl rfl) ev_c) (args := #[.agg #[.string ((⟨#[35]⟩ : ByteArray) ++ itoaB 777777), .int .i8 0, .int .i64 0, .string (⟨#[]⟩ : ByteArray)], .int .i64 777777]) rfl (l_isTerm 777777 _ (Tabs.ext tb x1) (by omega)) ?_
  rintro _ w4 ⟨rfl, x3⟩
  refine s_pick1 (v := .bool true) (ev_t rfl rfl) (ev_t rfl rfl) (w0 rfl) ?_
  refine s_assign (v := .bool true) (ev_t rfl rfl) (w0 rfl) ?_
  refine c_done (n_then (c_ret ?_))
  refine ret1 (v := .bool true) rfl rfl rfl ?_
  refine ⟨_, rfl, ?_, (Ext.trans x1 x3)⟩
  rfl
set_option maxHeartbeats 4000000 in
theorem l_TwinAtom (x : At) (A : Option Addr) (c : Nat) (w : World) (ho : x.okc c) (hr : Row RT 4 w A x.args) (tb : Tabs Tryz.prog w) :
    Rt Tryz.prog 7 #[.agg #[.string x.p, .slice A x.args.length c]] w fun v w' => ∃ b, v = .agg #[.string x.p, .slice (some ⟨b, 0, none⟩) x.args.length (x.args.length + 1)] ∧ TwG QT markT 4 w.heap.size w' b x.args ∧ Ext w w' := by
  refine enter Tryz.func7 rfl (l := [.agg #[.string x.p, .slice A x.args.length c]]) rfl Tryz.ntmps7 (Nat.le_of_ble_eq_true rfl) ?_
  have hl_ := At.okc.l ho
  have hc_ := At.okc.c ho
  have hp_ := At.okc.p ho
  refine c_seq (c_reg ?_)
  refine s_box (v := .agg #[.string x.p, .slice A x.args.length c]) (cs := #[.string x.p, .slice A x.args.length c]) (w0 rfl) (ev_t rfl rfl) rfl ?_
  intro w2 g1 n3
  refine s_alloc (cs := #[.string (⟨#[]⟩ : ByteArray), .slice none 0 0]) (w0 rfl) F_z24 rfl ?_
  intro w5 g4 n6
  refine c_done (n_then (c_seq (c_reg ?_)))
  refine s_field (off := 1) (o' := 1) F_f24_1 (ev_t rfl rfl) rfl (w0 rfl) ?_
  refine s_load (v := .slice A x.args.length c) F_o22 (ev_t rfl rfl) (cell_of_blk (i := 1) (Ext.blk (NewB.ext n6) (NewB.blk n3)) rfl) (w0 rfl) ?_
  refine s_call F_e29 (w0 rfl) ev_f (m1 (ev_t rfl rfl)) (args := #[.slice A x.args.length c]) rfl (l_TwinTerms x.args A c _ (by omega) (Row.extT (Row.extT hr (NewB.ext n3)) (NewB.ext n6)) (Tabs.ext tb (Ext.trans (NewB.ext n3) (NewB.ext n6)))) ?_
  rintro _ w8 ⟨b7, rfl, tw9, x10⟩
  refine s_field (off := 1) (o' := 1) F_f24_1 (ev_t rfl rfl) rfl (w0 rfl) ?_
  refine s_store (cs' := #[.string x.p, .slice (some ⟨b7, 0, none⟩) x.args.length (x.args.length + 1)]) F_sz22 (ev_t rfl rfl) (ev_t rfl rfl) (l := [.slice (some ⟨b7, 0, none⟩) x.args.length (x.args.length + 1)]) rfl rfl rfl (Ext.blk x10 (Ext.blk (NewB.ext n6) (NewB.blk n3))) (Nat.le_of_ble_eq_true rfl) rfl (w0 rfl) ?_
  intro w11 k12
  refine c_done (n_then (c_seq (c_reg ?_)))
  refine s_loadL (cs := [.string x.p, .slice (some ⟨b7, 0, none⟩) x.args.length (x.args.length + 1)]) (ca := #[.string x.p, .slice (some ⟨b7, 0, none⟩) x.args.length (x.args.length + 1)]) F_m24 (ev_t rfl rfl) rfl rfl (blk_cells (Wrote.blk k12) 0 (cs := [.string x.p, .slice (some ⟨b7, 0, none⟩) x.args.length (x.args.length + 1)]) rfl) (w0 rfl) ?_
  refine s_store (cs' := #[.string x.p, .slice (some ⟨b7, 0, none⟩) x.args.length (x.args.length + 1)]) F_sz24 (ev_t rfl rfl) (ev_t rfl rfl) (l := [.string x.p, .slice (some ⟨b7, 0, none⟩) x.args.length (x.args.length + 1)]) rfl rfl rfl (Keep.blk (Wrote.keep k12) (Ext.blk x10 (NewB.blk n6)) (by have a_ := NewB.eq n6; have b_ := lt_of_blk (NewB.blk n3); omega)) (Nat.le_of_ble_eq_true rfl) rfl (w0 rfl) ?_
  intro w13 k14
  refine c_done (n_then (c_ret ?_))
  refine retC (cs := [.string x.p, .slice (some ⟨b7, 0, none⟩) x.args.length (x.args.length + 1)]) (ca := #[.string x.p, .slice (some ⟨b7, 0, none⟩) x.args.length (x.args.length + 1)]) rfl rfl rfl F_m24 rfl rfl (blk_cells (Wrote.blk k14) 0 (cs := [.string x.p, .slice (some ⟨b7, 0, none⟩) x.args.length (x.args.length + 1)]) rfl) ?_
  exact ⟨_, rfl, b7, rfl, TwG.mono okT (TwG.keep okT (TwG.keep okT tw9 (Wrote.keep k12) (fun i_ h_ => by have a_ := NewB.eq n3; have b_ := NewB.size n3; have c_ := (Keep.size (NewB.ext n6)); omega)) (Wrote.keep k14) (fun i_ h_ => by have a_ := NewB.eq n6; have b_ := NewB.size n6; have c_ := (Nat.le_refl 0); omega)) (Keep.size (Ext.trans (NewB.ext n3) (NewB.ext n6))), (Keep.then_ (Keep.then_ (Ext.trans (Ext.trans (NewB.ext n3) (NewB.ext n6)) x10) (Wrote.keep k12) (fun i_ hi_ h_ => by have a_ := NewB.eq n3; have b_ := Keep.size (Ext.refl w); omega)) (Wrote.keep k14) (fun i_ hi_ h_ => by have a_ := NewB.eq n6; have b_ := Keep.size (NewB.ext n3); omega))⟩
set_option maxHeartbeats 4000000 in
theorem l_LeftAtom (x : At) (A : Option Addr) (c : Nat) (b lo : Nat) (w : World) (ho : x.okc c) (hr : Row RT 4 w A x.args) (tw : TwG QT markT 4 lo w b x.args) (tb : Tabs Tryz.prog w) :
    Rt Tryz.prog 15 #[.agg #[.string x.p, .slice (some ⟨b, 0, none⟩) x.args.length (x.args.length + 1)], .agg #[.string x.p, .slice A x.args.length c]] w fun v w' => v = .bool true ∧ Ext w w' := by
  refine enter Tryz.func15 rfl (l := [.agg #[.string x.p, .slice (some ⟨b, 0, none⟩) x.args.length (x.args.length + 1)], .agg #[.string x.p, .slice A x.args.length c]]) rfl Tryz.ntmps15 (Nat.le_of_ble_eq_true rfl) ?_
  have hl_ := At.okc.l ho
  have hc_ := At.okc.c ho
  have hp_ := At.okc.p ho
  refine c_seq (c_reg ?_)
  refine s_box (v := .agg #[.string x.p, .slice (some ⟨b, 0, none⟩) x.args.length (x.args.length + 1)]) (cs := #[.string x.p, .slice (some ⟨b, 0, none⟩) x.args.length (x.args.length + 1)]) (w0 rfl) (ev_t rfl rfl) rfl ?_
  intro w2 g1 n3
  refine s_box (v := .agg #[.string x.p, .slice A x.args.length c]) (cs := #[.string x.p, .slice A x.args.length c]) (w0 rfl) (ev_t rfl rfl) rfl ?_
  intro w5 g4 n6
  refine s_assign (v := .bool false) ev_c (w0 rfl) ?_
  refine c_done (n_then (c_seq (c_reg ?_)))
  refine s_field (off := 0) (o' := 0) F_f24_0 (ev_t rfl rfl) rfl (w0 rfl) ?_
  refine s_load (v := .string x.p) F_o9 (ev_t rfl rfl) (cell_of_blk (i := 0) (Ext.blk (NewB.ext n6) (NewB.blk n3)) rfl) (w0 rfl) ?_
  refine s_field (off := 0) (o' := 0) F_f24_0 (ev_t rfl rfl) rfl (w0 rfl) ?_
  refine s_load (v := .string x.p) F_o9 (ev_t rfl rfl) (cell_of_blk (i := 0) (NewB.blk n6) rfl) (w0 rfl) ?_
  refine s_cmpS (r := true) (ev_t rfl rfl) (ev_t rfl rfl) (cmpS_self _) (w0 rfl) ?_
  refine s_move (v := .bool true) (ev_t rfl rfl) (w0 rfl) ?_
  refine s_field (off := 1) (o' := 1) F_f24_1 (ev_t rfl rfl) rfl (wy rfl rfl rfl rfl) ?_
  refine s_load (v := .slice (some ⟨b, 0, none⟩) x.args.length (x.args.length + 1)) F_o22 (ev_t rfl rfl) (cell_of_blk (i := 1) (Ext.blk (NewB.ext n6) (NewB.blk n3)) rfl) (wy rfl rfl rfl rfl) ?_
  refine s_field (off := 1) (o' := 1) F_f24_1 (ev_t rfl rfl) rfl (wy rfl rfl rfl rfl) ?_
  refine s_load (v := .slice A x.args.length c) F_o22 (ev_t rfl rfl) (cell_of_blk (i := 1) (NewB.blk n6) rfl) (wy rfl rfl rfl rfl) ?_
  refine s_call F_e41 (wy rfl rfl rfl rfl) ev_f (m2 (ev_t rfl rfl) (ev_t rfl rfl)) (args := #[.slice (some ⟨b, 0, none⟩) x.args.length (x.args.length + 1), .slice A x.args.length c]) rfl (l_LeftTerms x.args A c b _ _ (by omega) (TwG.ext okT (TwG.ext okT tw (NewB.ext n3)) (NewB.ext n6)) (Row.extT (Row.extT hr (NewB.ext n3)) (NewB.ext n6)) (Tabs.ext tb (Ext.trans (NewB.ext n3) (NewB.ext n6)))) ?_
  rintro _ w8 ⟨rfl, x7⟩
  refine s_pick1 (v := .bool true) (ev_t rfl rfl) (ev_t rfl rfl) (w0 rfl) ?_
  refine s_assign (v := .bool true) (ev_t rfl rfl) (w0 rfl) ?_
  refine c_done (n_then (c_ret ?_))
  refine ret1 (v := .bool true) rfl rfl rfl ?_
  refine ⟨_, rfl, ?_, (Ext.trans (Ext.trans (NewB.ext n3) (NewB.ext n6)) x7)⟩
  rfl
set_option maxHeartbeats 4000000 in
theorem l_TwinLiteral (x : Lt) (Aa A1 A2 : Option Addr) (ca c1 c2 : Nat) (w : World) (ho : x.okc ca c1 c2) (hra : Row RT 4 w Aa x.a.args) (hr1 : Row RE 6 w A1 x.e1.kids) (hr2 : Row RE 6 w A2 x.e2.kids) (tb : Tabs Tryz.prog w) :
    Rt Tryz.prog 8 #[.agg #[.int .i8 x.k, .string x.a.p, .slice Aa x.a.args.length ca, .int .i8 x.r, .int .i8 x.e1.op, .string x.e1.t.v, .int .i8 x.e1.t.l.k, .int .i64 x.e1.t.l.n, .string x.e1.t.l.s, .slice A1 x.e1.kids.length c1, .int .i8 x.e2.op, .string x.e2.t.v, .int .i8 x.e2.t.l.k, .int .i64 x.e2.t.l.n, .string x.e2.t.l.s, .slice A2 x.e2.kids.length c2]] w fun v w' => ∃ ba b1 b2, v = .agg #[.int .i8 x.k, .string x.a.p, .slice (some ⟨ba, 0, none⟩) x.a.args.length (x.a.args.length + 1), .int .i8 x.r, .int .i8 x.e1.op, .string x.e1.t.v, .int .i8 x.e1.t.l.k, .int .i64 x.e1.t.l.n, .string x.e1.t.l.s, .slice (some ⟨b1, 0, none⟩) x.e1.kids.length (x.e1.kids.length + 1), .int .i8 x.e2.op, .string x.e2.t.v, .int .i8 x.e2.t.l.k, .int .i64 x.e2.t.l.n, .string x.e2.t.l.s, .slice (some ⟨b2, 0, none⟩) x.e2.kids.length (x.e2.kids.length + 1)] ∧ TwG QT markT 4 w.heap.size w' ba x.a.args ∧ TwE w.heap.size w' b1 x.e1.kids ∧ TwE w.heap.size w' b2 x.e2.kids ∧ Ext w w' := by
  refine enter Tryz.func8 rfl (l := [.agg #[.int .i8 x.k, .string x.a.p, .slice Aa x.a.args.length ca, .int .i8 x.r, .int .i8 x.e1.op, .string x.e1.t.v, .int .i8 x.e1.t.l.k, .int .i64 x.e1.t.l.n, .string x.e1.t.l.s, .slice A1 x.e1.kids.length c1, .int .i8 x.e2.op, .string x.e2.t.v, .int .i8 x.e2.t.l.k, .int .i64 x.e2.t.l.n, .string x.e2.t.l.s, .slice A2 x.e2.kids.length c2]]) rfl Tryz.ntmps8 (Nat.le_of_ble_eq_true rfl) ?_
  have hoa_ := Lt.okc.a ho
  have ho1_ := Lt.okc.e1 ho
  have ho2_ := Lt.okc.e2 ho
  have hl1_ := Ex.okc.l ho1_
  have hl2_ := Ex.okc.l ho2_
  have hc1_ := Ex.okc.c ho1_
  have hc2_ := Ex.okc.c ho2_
  have hla_ := At.okc.l hoa_
  have hca_ := At.okc.c hoa_
  have hpa_ := At.okc.p hoa_
  refine c_seq (c_reg ?_)
  refine s_box (v := .agg #[.int .i8 x.k, .string x.a.p, .slice Aa x.a.args.length ca, .int .i8 x.r, .int .i8 x.e1.op, .string x.e1.t.v, .int .i8 x.e1.t.l.k, .int .i64 x.e1.t.l.n, .string x.e1.t.l.s, .slice A1 x.e1.kids.length c1, .int .i8 x.e2.op, .string x.e2.t.v, .int .i8 x.e2.t.l.k, .int .i64 x.e2.t.l.n, .string x.e2.t.l.s, .slice A2 x.e2.kids.length c2]) (cs := #[.int .i8 x.k, .string x.a.p, .slice Aa x.a.args.length ca, .int .i8 x.r, .int .i8 x.e1.op, .string x.e1.t.v, .int .i8 x.e1.t.l.k, .int .i64 x.e1.t.l.n, .string x.e1.t.l.s, .slice A1 x.e1.kids.length c1, .int .i8 x.e2.op, .string x.e2.t.v, .int .i8 x.e2.t.l.k, .int .i64 x.e2.t.l.n, .string x.e2.t.l.s, .slice A2 x.e2.kids.length c2]) (w0 rfl) (ev_t rfl rfl) rfl ?_
  intro w2 g1 n3
  refine s_alloc (cs := #[.int .i8 0, .string (⟨#[]⟩ : ByteArray), .slice none 0 0, .int .i8 0, .int .i8 0, .string (⟨#[]⟩ : ByteArray), .int .i8 0, .int .i64 0, .string (⟨#[]⟩ : ByteArray), .slice none 0 0, .int .i8 0, .string (⟨#[]⟩ : ByteArray), .int .i8 0, .int .i64 0, .string (⟨#[]⟩ : ByteArray), .slice none 0 0]) (w0 rfl) F_z38 rfl ?_
  intro w5 g4 n6
  refine c_done (n_then (c_seq (c_reg ?_)))
  refine s_field (off := 1) (o' := 1) F_f38_1 (ev_t rfl rfl) rfl (w0 rfl) ?_
  refine s_loadL (cs := [.string x.a.p, .slice Aa x.a.args.length ca]) (ca := #[.string x.a.p, .slice Aa x.a.args.length ca]) F_m24 (ev_t rfl rfl) rfl rfl (blk_cells (Ext.blk (NewB.ext n6) (NewB.blk n3)) 1 (cs := [.string x.a.p, .slice Aa x.a.args.length ca]) rfl) (w0 rfl) ?_
  refine s_call F_e7 (w0 rfl) ev_f (m1 (ev_t rfl rfl)) (args := #[.agg #[.string x.a.p, .slice Aa x.a.args.length ca]]) rfl (l_TwinAtom x.a Aa ca _ hoa_ (Row.extT (Row.extT hra (NewB.ext n3)) (NewB.ext n6)) (Tabs.ext tb (Ext.trans (NewB.ext n3) (NewB.ext n6)))) ?_
  rintro _ w8 ⟨b7, rfl, tw9, x10⟩
  have okt11 : (x.a).okc (x.a.args.length + 1) := ⟨At.okc.p hoa_, Nat.le_succ _, At.okc.c hoa_⟩
  refine s_field (off := 1) (o' := 1) F_f38_1 (ev_t rfl rfl) rfl (w0 rfl) ?_
  refine s_store (cs' := #[.int .i8 x.k, .string x.a.p, .slice (some ⟨b7, 0, none⟩) x.a.args.length (x.a.args.length + 1), .int .i8 x.r, .int .i8 x.e1.op, .string x.e1.t.v, .int .i8 x.e1.t.l.k, .int .i64 x.e1.t.l.n, .string x.e1.t.l.s, .slice A1 x.e1.kids.length c1, .int .i8 x.e2.op, .string x.e2.t.v, .int .i8 x.e2.t.l.k, .int .i64 x.e2.t.l.n, .string x.e2.t.l.s, .slice A2 x.e2.kids.length c2]) F_sz24 (ev_t rfl rfl) (ev_t rfl rfl) (l := [.string x.a.p, .slice (some ⟨b7, 0, none⟩) x.a.args.length (x.a.args.length + 1)]) rfl rfl rfl (Ext.blk x10 (Ext.blk (NewB.ext n6) (NewB.blk n3))) (Nat.le_of_ble_eq_true rfl) rfl (w0 rfl) ?_
  intro w12 k13
  refine c_done (n_then (c_seq (c_reg ?_)))
  refine s_field (off := 4) (o' := 4) F_f38_3 (ev_t rfl rfl) rfl (w0 rfl) ?_
  refine s_loadL (cs := [.int .i8 x.e1.op, .string x.e1.t.v, .int .i8 x.e1.t.l.k, .int .i64 x.e1.t.l.n, .string x.e1.t.l.s, .slice A1 x.e1.kids.length c1]) (ca := #[.int .i8 x.e1.op, .string x.e1.t.v, .int .i8 x.e1.t.l.k, .int .i64 x.e1.t.l.n, .string x.e1.t.l.s, .slice A1 x.e1.kids.length c1]) F_m36 (ev_t rfl rfl) rfl rfl (blk_cells (Wrote.blk k13) 4 (cs := [.int .i8 x.e1.op, .string x.e1.t.v, .int .i8 x.e1.t.l.k, .int .i64 x.e1.t.l.n, .string x.e1.t.l.s, .slice A1 x.e1.kids.length c1]) rfl) (w0 rfl) ?_
  refine s_call F_e30 (w0 rfl) ev_f (m1 (ev_t rfl rfl)) (args := #[.agg #[.int .i8 x.e1.op, .string x.e1.t.v, .int .i8 x.e1.t.l.k, .int .i64 x.e1.t.l.n, .string x.e1.t.l.s, .slice A1 x.e1.kids.length c1]]) rfl (l_TwinExpr (SizeOf.sizeOf x.e1 + 1) x.e1 (Nat.lt_succ_self _) A1 c1 _ ho1_ (Row.extE hr1 (Keep.then_ (Ext.trans (Ext.trans (NewB.ext n3) (NewB.ext n6)) x10) (Wrote.keep k13) (fun i_ hi_ h_ => by have a_ := NewB.eq n3; have b_ := Keep.size (Ext.refl w); omega))) (Tabs.ext tb (Keep.then_ (Ext.trans (Ext.trans (NewB.ext n3) (NewB.ext n6)) x10) (Wrote.keep k13) (fun i_ hi_ h_ => by have a_ := NewB.eq n3; have b_ := Keep.size (Ext.refl w); omega)))) ?_
  rintro _ w15 ⟨b14, rfl, tw16, x17⟩
  refine s_field (off := 4) (o' := 4) F_f38_3 (ev_t rfl rfl) rfl (w0 rfl) ?_
  refine s_store (cs' := #[.int .i8 x.k, .string x.a.p, .slice (some ⟨b7, 0, none⟩) x.a.args.length (x.a.args.length + 1), .int .i8 x.r, .int .i8 x.e1.op, .string x.e1.t.v, .int .i8 x.e1.t.l.k, .int .i64 x.e1.t.l.n, .string x.e1.t.l.s, .slice (some ⟨b14, 0, none⟩) x.e1.kids.length (x.e1.kids.length + 1), .int .i8 x.e2.op, .string x.e2.t.v, .int .i8 x.e2.t.l.k, .int .i64 x.e2.t.l.n, .string x.e2.t.l.s, .slice A2 x.e2.kids.length c2]) F_sz36 (ev_t rfl rfl) (ev_t rfl rfl) (l := [.int .i8 x.e1.op, .string x.e1.t.v, .int .i8 x.e1.t.l.k, .int .i64 x.e1.t.l.n, .string x.e1.t.l.s, .slice (some ⟨b14, 0, none⟩) x.e1.kids.length (x.e1.kids.length + 1)]) rfl rfl rfl (Ext.blk x17 (Wrote.blk k13)) (Nat.le_of_ble_eq_true rfl) rfl (w0 rfl) ?_
  intro w18 k19
  refine c_done (n_then (c_seq (c_reg ?_)))
  refine s_field (off := 10) (o' := 10) F_f38_4 (ev_t rfl rfl) rfl (w0 rfl) ?_
  refine s_loadL (cs := [.int .i8 x.e2.op, .string x.e2.t.v, .int .i8 x.e2.t.l.k, .int .i64 x.e2.t.l.n, .string x.e2.t.l.s, .slice A2 x.e2.kids.length c2]) (ca := #[.int .i8 x.e2.op, .string x.e2.t.v, .int .i8 x.e2.t.l.k, .int .i64 x.e2.t.l.n, .string x.e2.t.l.s, .slice A2 x.e2.kids.length c2]) F_m36 (ev_t rfl rfl) rfl rfl (blk_cells (Wrote.blk k19) 10 (cs := [.int .i8 x.e2.op, .string x.e2.t.v, .int .i8 x.e2.t.l.k, .int .i64 x.e2.t.l.n, .string x.e2.t.l.s, .slice A2 x.e2.kids.length c2]) rfl) (w0 rfl) ?_
  refine s_call F_e30 (w0 rfl) ev_f (m1 (ev_t rfl rfl)) (args := #[.agg #[.int .i8 x.e2.op, .string x.e2.t.v, .int .i8 x.e2.t.l.k, .int .i64 x.e2.t.l.n, .string x.e2.t.l.s, .slice A2 x.e2.kids.length c2]]) rfl (l_TwinExpr (SizeOf.sizeOf x.e2 + 1) x.e2 (Nat.lt_succ_self _) A2 c2 _ ho2_ (Row.extE hr2 (Keep.then_ (Ext.trans (Keep.then_ (Ext.trans (Ext.trans (NewB.ext n3) (NewB.ext n6)) x10) (Wrote.keep k13) (fun i_ hi_ h_ => by have a_ := NewB.eq n3; have b_ := Keep.size (Ext.refl w); omega)) x17) (Wrote.keep k19) (fun i_ hi_ h_ => by have a_ := NewB.eq n3; have b_ := Keep.size (Ext.refl w); omega))) (Tabs.ext tb (Keep.then_ (Ext.trans (Keep.then_ (Ext.trans (Ext.trans (NewB.ext n3) (NewB.ext n6)) x10) (Wrote.keep k13) (fun i_ hi_ h_ => by have a_ := NewB.eq n3; have b_ := Keep.size (Ext.refl w); omega)) x17) (Wrote.keep k19) (fun i_ hi_ h_ => by have a_ := NewB.eq n3; have b_ := Keep.size (Ext.refl w); omega)))) ?_
  rintro _ w21 ⟨b20, rfl, tw22, x23⟩
  refine s_field (off := 10) (o' := 10) F_f38_4 (ev_t rfl rfl) rfl (w0 rfl) ?_
  refine s_store (cs' := #[.int .i8 x.k, .string x.a.p, .slice (some ⟨b7, 0, none⟩) x.a.args.length (x.a.args.length + 1), .int .i8 x.r, .int .i8 x.e1.op, .string x.e1.t.v, .int .i8 x.e1.t.l.k, .int .i64 x.e1.t.l.n, .string x.e1.t.l.s, .slice (some ⟨b14, 0, none⟩) x.e1.kids.length (x.e1.kids.length + 1), .int .i8 x.e2.op, .string x.e2.t.v, .int .i8 x.e2.t.l.k, .int .i64 x.e2.t.l.n, .string x.e2.t.l.s, .slice (some ⟨b20, 0, none⟩) x.e2.kids.length (x.e2.kids.length + 1)]) F_sz36 (ev_t rfl rfl) (ev_t rfl rfl) (l := [.int .i8 x.e2.op, .string x.e2.t.v, .int .i8 x.e2.t.l.k, .int .i64 x.e2.t.l.n, .string x.e2.t.l.s, .slice (some ⟨b20, 0, none⟩) x.e2.kids.length (x.e2.kids.length + 1)]) rfl rfl rfl (Ext.blk x23 (Wrote.blk k19)) (Nat.le_of_ble_eq_true rfl) rfl (w0 rfl) ?_
  intro w24 k25
  refine c_done (n_then (c_seq (c_reg ?_)))
  refine s_loadL (cs := [.int .i8 x.k, .string x.a.p, .slice (some ⟨b7, 0, none⟩) x.a.args.length (x.a.args.length + 1), .int .i8 x.r, .int .i8 x.e1.op, .string x.e1.t.v, .int .i8 x.e1.t.l.k, .int .i64 x.e1.t.l.n, .string x.e1.t.l.s, .slice (some ⟨b14, 0, none⟩) x.e1.kids.length (x.e1.kids.length + 1), .int .i8 x.e2.op, .string x.e2.t.v, .int .i8 x.e2.t.l.k, .int .i64 x.e2.t.l.n, .string x.e2.t.l.s, .slice (some ⟨b20, 0, none⟩) x.e2.kids.length (x.e2.kids.length + 1)]) (ca := #[.int .i8 x.k, .string x.a.p, .slice (some ⟨b7, 0, none⟩) x.a.args.length (x.a.args.length + 1), .int .i8 x.r, .int .i8 x.e1.op, .string x.e1.t.v, .int .i8 x.e1.t.l.k, .int .i64 x.e1.t.l.n, .string x.e1.t.l.s, .slice (some ⟨b14, 0, none⟩) x.e1.kids.length (x.e1.kids.length + 1), .int .i8 x.e2.op, .string x.e2.t.v, .int .i8 x.e2.t.l.k, .int .i64 x.e2.t.l.n, .string x.e2.t.l.s, .slice (some ⟨b20, 0, none⟩) x.e2.kids.length (x.e2.kids.length + 1)]) F_m38 (ev_t rfl rfl) rfl rfl (blk_cells (Wrote.blk k25) 0 (cs := [.int .i8 x.k, .string x.a.p, .slice (some ⟨b7, 0, none⟩) x.a.args.length (x.a.args.length + 1), .int .i8 x.r, .int .i8 x.e1.op, .string x.e1.t.v, .int .i8 x.e1.t.l.k, .int .i64 x.e1.t.l.n, .string x.e1.t.l.s, .slice (some ⟨b14, 0, none⟩) x.e1.kids.length (x.e1.kids.length + 1), .int .i8 x.e2.op, .string x.e2.t.v, .int .i8 x.e2.t.l.k, .int .i64 x.e2.t.l.n, .string x.e2.t.l.s, .slice (some ⟨b20, 0, none⟩) x.e2.kids.length (x.e2.kids.length + 1)]) rfl) (w0 rfl) ?_
  refine s_store (cs' := #[.int .i8 x.k, .string x.a.p, .slice (some ⟨b7, 0, none⟩) x.a.args.length (x.a.args.length + 1), .int .i8 x.r, .int .i8 x.e1.op, .string x.e1.t.v, .int .i8 x.e1.t.l.k, .int .i64 x.e1.t.l.n, .string x.e1.t.l.s, .slice (some ⟨b14, 0, none⟩) x.e1.kids.length (x.e1.kids.length + 1), .int .i8 x.e2.op, .string x.e2.t.v, .int .i8 x.e2.t.l.k, .int .i64 x.e2.t.l.n, .string x.e2.t.l.s, .slice (some ⟨b20, 0, none⟩) x.e2.kids.length (x.e2.kids.length + 1)]) F_sz38 (ev_t rfl rfl) (ev_t rfl rfl) (l := [.int .i8 x.k, .string x.a.p, .slice (some ⟨b7, 0, none⟩) x.a.args.length (x.a.args.length + 1), .int .i8 x.r, .int .i8 x.e1.op, .string x.e1.t.v, .int .i8 x.e1.t.l.k, .int .i64 x.e1.t.l.n, .string x.e1.t.l.s, .slice (some ⟨b14, 0, none⟩) x.e1.kids.length (x.e1.kids.length + 1), .int .i8 x.e2.op, .string x.e2.t.v, .int .i8 x.e2.t.l.k, .int .i64 x.e2.t.l.n, .string x.e2.t.l.s, .slice (some ⟨b20, 0, none⟩) x.e2.kids.length (x.e2.kids.length + 1)]) rfl rfl rfl (Keep.blk (Wrote.keep k25) (Ext.blk x23 (Keep.blk (Wrote.keep k19) (Ext.blk x17 (Keep.blk (Wrote.keep k13) (Ext.blk x10 (NewB.blk n6)) (by have a_ := NewB.eq n6; have b_ := lt_of_blk (NewB.blk n3); omega))) (by have a_ := NewB.eq n6; have b_ := lt_of_blk (NewB.blk n3); omega))) (by have a_ := NewB.eq n6; have b_ := lt_of_blk (NewB.blk n3); omega)) (Nat.le_of_ble_eq_true rfl) rfl (w0 rfl) ?_
  intro w26 k27
  refine c_done (n_then (c_ret ?_))
  refine retC (cs := [.int .i8 x.k, .string x.a.p, .slice (some ⟨b7, 0, none⟩) x.a.args.length (x.a.args.length + 1), .int .i8 x.r, .int .i8 x.e1.op, .string x.e1.t.v, .int .i8 x.e1.t.l.k, .int .i64 x.e1.t.l.n, .string x.e1.t.l.s, .slice (some ⟨b14, 0, none⟩) x.e1.kids.length (x.e1.kids.length + 1), .int .i8 x.e2.op, .string x.e2.t.v, .int .i8 x.e2.t.l.k, .int .i64 x.e2.t.l.n, .string x.e2.t.l.s, .slice (some ⟨b20, 0, none⟩) x.e2.kids.length (x.e2.kids.length + 1)]) (ca := #[.int .i8 x.k, .string x.a.p, .slice (some ⟨b7, 0, none⟩) x.a.args.length (x.a.args.length + 1), .int .i8 x.r, .int .i8 x.e1.op, .string x.e1.t.v, .int .i8 x.e1.t.l.k, .int .i64 x.e1.t.l.n, .string x.e1.t.l.s, .slice (some ⟨b14, 0, none⟩) x.e1.kids.length (x.e1.kids.length + 1), .int .i8 x.e2.op, .string x.e2.t.v, .int .i8 x.e2.t.l.k, .int .i64 x.e2.t.l.n, .string x.e2.t.l.s, .slice (some ⟨b20, 0, none⟩) x.e2.kids.length (x.e2.kids.length + 1)]) rfl rfl rfl F_m38 rfl rfl (blk_cells (Wrote.blk k27) 0 (cs := [.int .i8 x.k, .string x.a.p, .slice (some ⟨b7, 0, none⟩) x.a.args.length (x.a.args.length + 1), .int .i8 x.r, .int .i8 x.e1.op, .string x.e1.t.v, .int .i8 x.e1.t.l.k, .int .i64 x.e1.t.l.n, .string x.e1.t.l.s, .slice (some ⟨b14, 0, none⟩) x.e1.kids.length (x.e1.kids.length + 1), .int .i8 x.e2.op, .string x.e2.t.v, .int .i8 x.e2.t.l.k, .int .i64 x.e2.t.l.n, .string x.e2.t.l.s, .slice (some ⟨b20, 0, none⟩) x.e2.kids.length (x.e2.kids.length + 1)]) rfl) ?_
  exact ⟨_, rfl, b7, b14, b20, rfl, TwG.mono okT (TwG.keep okT (TwG.keep okT (TwG.ext okT (TwG.keep okT (TwG.ext okT (TwG.keep okT tw9 (Wrote.keep k13) (fun i_ h_ => by have a_ := NewB.eq n3; have b_ := NewB.size n3; have c_ := (Keep.size (NewB.ext n6)); omega)) x17) (Wrote.keep k19) (fun i_ h_ => by have a_ := NewB.eq n3; have b_ := NewB.size n3; have c_ := (Keep.size (NewB.ext n6)); omega)) x23) (Wrote.keep k25) (fun i_ h_ => by have a_ := NewB.eq n3; have b_ := NewB.size n3; have c_ := (Keep.size (NewB.ext n6)); omega)) (Wrote.keep k27) (fun i_ h_ => by have a_ := NewB.eq n6; have b_ := NewB.size n6; have c_ := (Nat.le_refl 0); omega)) (Keep.size (Ext.trans (NewB.ext n3) (NewB.ext n6))), TwE.mono (TwE.keep (TwE.keep (TwE.ext (TwE.keep tw16 (Wrote.keep k19) (fun i_ h_ => by have a_ := NewB.eq n3; have b_ := NewB.size n3; have c_ := (Nat.le_trans (Nat.le_trans (Keep.size (NewB.ext n6)) (Keep.size x10)) (Keep.size (Wrote.keep k13))); omega)) x23) (Wrote.keep k25) (fun i_ h_ => by have a_ := NewB.eq n3; have b_ := NewB.size n3; have c_ := (Nat.le_trans (Nat.le_trans (Keep.size (NewB.ext n6)) (Keep.size x10)) (Keep.size (Wrote.keep k13))); omega)) (Wrote.keep k27) (fun i_ h_ => by have a_ := NewB.eq n6; have b_ := NewB.size n6; have c_ := (Nat.le_trans (Keep.size x10) (Keep.size (Wrote.keep k13))); omega)) (Keep.size (Keep.then_ (Ext.trans (Ext.trans (NewB.ext n3) (NewB.ext n6)) x10) (Wrote.keep k13) (fun i_ hi_ h_ => by have a_ := NewB.eq n3; have b_ := Keep.size (Ext.refl w); omega))), TwE.mono (TwE.keep (TwE.keep tw22 (Wrote.keep k25) (fun i_ h_ => by have a_ := NewB.eq n3; have b_ := NewB.size n3; have c_ := (Nat.le_trans (Nat.le_trans (Nat.le_trans (Nat.le_trans (Keep.size (NewB.ext n6)) (Keep.size x10)) (Keep.size (Wrote.keep k13))) (Keep.size x17)) (Keep.size (Wrote.keep k19))); omega)) (Wrote.keep k27) (fun i_ h_ => by have a_ := NewB.eq n6; have b_ := NewB.size n6; have c_ := (Nat.le_trans (Nat.le_trans (Nat.le_trans (Keep.size x10) (Keep.size (Wrote.keep k13))) (Keep.size x17)) (Keep.size (Wrote.keep k19))); omega)) (Keep.size (Keep.then_ (Ext.trans (Keep.then_ (Ext.trans (Ext.trans (NewB.ext n3) (NewB.ext n6)) x10) (Wrote.keep k13) (fun i_ hi_ h_ => by have a_ := NewB.eq n3; have b_ := Keep.size (Ext.refl w); omega)) x17) (Wrote.keep k19) (fun i_ hi_ h_ => by have a_ := NewB.eq n3; have b_ := Keep.size (Ext.refl w); omega))), (Keep.then_ (Keep.then_ (Ext.trans (Keep.then_ (Ext.trans (Keep.then_ (Ext.trans (Ext.trans (NewB.ext n3) (NewB.ext n6)) x10) (Wrote.keep k13) (fun i_ hi_ h_ => by have a_ := NewB.eq n3; have b_ := Keep.size (Ext.refl w); omega)) x17) (Wrote.keep k19) (fun i_ hi_ h_ => by have a_ := NewB.eq n3; have b_ := Keep.size (Ext.refl w); omega)) x23) (Wrote.keep k25) (fun i_ hi_ h_ => by have a_ := NewB.eq n3; have b_ := Keep.size (Ext.refl w); omega)) (Wrote.keep k27) (fun i_ hi_ h_ => by have a_ := NewB.eq n6; have b_ := Keep.size (NewB.ext n3); omega))⟩
set_option maxHeartbeats 4000000 in
theorem l_LeftLiteral (x : Lt) (Aa A1 A2 : Option Addr) (ca c1 c2 : Nat) (ba b1 b2 lo : Nat) (w : World) (ho : x.okc ca c1 c2) (hra : Row RT 4 w Aa x.a.args) (hr1 : Row RE 6 w A1 x.e1.kids) (hr2 : Row RE 6 w A2 x.e2.kids) (twa : TwG QT markT 4 lo w ba x.a.args) (tw1 : TwE lo w b1 x.e1.kids) (tw2 : TwE lo w b2 x.e2.kids) (tb : Tabs Tryz.prog w) :
    Rt Tryz.prog 16 #[.agg #[.int .i8 x.k, .string x.a.p, .slice (some ⟨ba, 0, none⟩) x.a.args.length (x.a.args.length + 1), .int .i8 x.r, .int .i8 x.e1.op, .string x.e1.t.v, .int .i8 x.e1.t.l.k, .int .i64 x.e1.t.l.n, .string x.e1.t.l.s, .slice (some ⟨b1, 0, none⟩) x.e1.kids.length (x.e1.kids.length + 1), .int .i8 x.e2.op, .string x.e2.t.v, .int .i8 x.e2.t.l.k, .int .i64 x.e2.t.l.n, .string x.e2.t.l.s, .slice (some ⟨b2, 0, none⟩) x.e2.kids.length (x.e2.kids.length + 1)], .agg #[.int .i8 x.k, .string x.a.p, .slice Aa x.a.args.length ca, .int .i8 x.r, .int .i8 x.e1.op, .string x.e1.t.v, .int .i8 x.e1.t.l.k, .int .i64 x.e1.t.l.n, .string x.e1.t.l.s, .slice A1 x.e1.kids.length c1, .int .i8 x.e2.op, .string x.e2.t.v, .int .i8 x.e2.t.l.k, .int .i64 x.e2.t.l.n, .string x.e2.t.l.s, .slice A2 x.e2.kids.length c2]] w fun v w' => v = .bool true ∧ Ext w w' := by
  refine enter Tryz.func16 rfl (l := [.agg #[.int .i8 x.k, .string x.a.p, .slice (some ⟨ba, 0, none⟩) x.a.args.length (x.a.args.length + 1), .int .i8 x.r, .int .i8 x.e1.op, .string x.e1.t.v, .int .i8 x.e1.t.l.k, .int .i64 x.e1.t.l.n, .string x.e1.t.l.s, .slice (some ⟨b1, 0, none⟩) x.e1.kids.length (x.e1.kids.length + 1), .int .i8 x.e2.op, .string x.e2.t.v, .int .i8 x.e2.t.l.k, .int .i64 x.e2.t.l.n, .string x.e2.t.l.s, .slice (some ⟨b2, 0, none⟩) x.e2.kids.length (x.e2.kids.length + 1)], .agg #[.int .i8 x.k, .string x.a.p, .slice Aa x.a.args.length ca, .int .i8 x.r, .int .i8 x.e1.op, .string x.e1.t.v, .int .i8 x.e1.t.l.k, .int .i64 x.e1.t.l.n, .string x.e1.t.l.s, .slice A1 x.e1.kids.length c1, .int .i8 x.e2.op, .string x.e2.t.v, .int .i8 x.e2.t.l.k, .int .i64 x.e2.t.l.n, .string x.e2.t.l.s, .slice A2 x.e2.kids.length c2]]) rfl Tryz.ntmps16 (Nat.le_of_ble_eq_true rfl) ?_
  have hoa_ := Lt.okc.a ho
  have ho1_ := Lt.okc.e1 ho
  have ho2_ := Lt.okc.e2 ho
  have hl1_ := Ex.okc.l ho1_
  have hl2_ := Ex.okc.l ho2_
  have hc1_ := Ex.okc.c ho1_
  have hc2_ := Ex.okc.c ho2_
  have hla_ := At.okc.l hoa_
  have hca_ := At.okc.c hoa_
  have hpa_ := At.okc.p hoa_
  refine c_seq (c_reg ?_)
  refine s_box (v := .agg #[.int .i8 x.k, .string x.a.p, .slice (some ⟨ba, 0, none⟩) x.a.args.length (x.a.args.length + 1), .int .i8 x.r, .int .i8 x.e1.op, .string x.e1.t.v, .int .i8 x.e1.t.l.k, .int .i64 x.e1.t.l.n, .string x.e1.t.l.s, .slice (some ⟨b1, 0, none⟩) x.e1.kids.length (x.e1.kids.length + 1), .int .i8 x.e2.op, .string x.e2.t.v, .int .i8 x.e2.t.l.k, .int .i64 x.e2.t.l.n, .string x.e2.t.l.s, .slice (some ⟨b2, 0, none⟩) x.e2.kids.length (x.e2.kids.length + 1)]) (cs := #[.int .i8 x.k, .string x.a.p, .slice (some ⟨ba, 0, none⟩) x.a.args.length (x.a.args.length + 1), .int .i8 x.r, .int .i8 x.e1.op, .string x.e1.t.v, .int .i8 x.e1.t.l.k, .int .i64 x.e1.t.l.n, .string x.e1.t.l.s, .slice (some ⟨b1, 0, none⟩) x.e1.kids.length (x.e1.kids.length + 1), .int .i8 x.e2.op, .string x.e2.t.v, .int .i8 x.e2.t.l.k, .int .i64 x.e2.t.l.n, .string x.e2.t.l.s, .slice (some ⟨b2, 0, none⟩) x.e2.kids.length (x.e2.kids.length + 1)]) (w0 rfl) (ev_t rfl rfl) rfl ?_
  intro w2 g1 n3
  refine s_box (v := .agg #[.int .i8 x.k, .string x.a.p, .slice Aa x.a.args.length ca, .int .i8 x.r, .int .i8 x.e1.op, .string x.e1.t.v, .int .i8 x.e1.t.l.k, .int .i64 x.e1.t.l.n, .string x.e1.t.l.s, .slice A1 x.e1.kids.length c1, .int .i8 x.e2.op, .string x.e2.t.v, .int .i8 x.e2.t.l.k, .int .i64 x.e2.t.l.n, .string x.e2.t.l.s, .slice A2 x.e2.kids.length c2]) (cs := #[.int .i8 x.k, .string x.a.p, .slice Aa x.a.args.length ca, .int .i8 x.r, .int .i8 x.e1.op, .string x.e1.t.v, .int .i8 x.e1.t.l.k, .int .i64 x.e1.t.l.n, .string x.e1.t.l.s, .slice A1 x.e1.kids.length c1, .int .i8 x.e2.op, .string x.e2.t.v, .int .i8 x.e2.t.l.k, .int .i64 x.e2.t.l.n, .string x.e2.t.l.s, .slice A2 x.e2.kids.length c2]) (w0 rfl) (ev_t rfl rfl) rfl ?_
  intro w5 g4 n6
  refine s_assign (v := .bool false) ev_c (w0 rfl) ?_
  refine c_done (n_then (c_seq (c_reg ?_)))
  refine s_field (off := 0) (o' := 0) F_f38_0 (ev_t rfl rfl) rfl (w0 rfl) ?_
  refine s_load (v := .int .i8 x.k) F_o26 (ev_t rfl rfl) (cell_of_blk (i := 0) (Ext.blk (NewB.ext n6) (NewB.blk n3)) rfl) (w0 rfl) ?_
  refine s_field (off := 0) (o' := 0) F_f38_0 (ev_t rfl rfl) rfl (w0 rfl) ?_
  refine s_load (v := .int .i8 x.k) F_o26 (ev_t rfl rfl) (cell_of_blk (i := 0) (NewB.blk n6) rfl) (w0 rfl) ?_
  refine s_cmp (r := true) (ev_t rfl rfl) (ev_t rfl rfl) (cmpI_self _) (w0 rfl) ?_
  refine s_move (v := .bool true) (ev_t rfl rfl) (w0 rfl) ?_
  refine s_field (off := 3) (o' := 3) F_f38_2 (ev_t rfl rfl) rfl (wy rfl rfl rfl rfl) ?_
  refine s_load (v := .int .i8 x.r) F_o27 (ev_t rfl rfl) (cell_of_blk (i := 3) (Ext.blk (NewB.ext n6) (NewB.blk n3)) rfl) (wy rfl rfl rfl rfl) ?_
  refine s_field (off := 3) (o' := 3) F_f38_2 (ev_t rfl rfl) rfl (wy rfl rfl rfl rfl) ?_
  refine s_load (v := .int .i8 x.r) F_o27 (ev_t rfl rfl) (cell_of_blk (i := 3) (NewB.blk n6) rfl) (wy rfl rfl rfl rfl) ?_
  refine s_cmp (r := true) (ev_t rfl rfl) (ev_t rfl rfl) (cmpI_self _) (wy rfl rfl rfl rfl) ?_
  refine s_pick1 (v := .bool true) (ev_t rfl rfl) (ev_t rfl rfl) (w0 rfl) ?_
  refine s_move (v := .bool true) (ev_t rfl rfl) (w0 rfl) ?_
  refine s_field (off := 1) (o' := 1) F_f38_1 (ev_t rfl rfl) rfl (wy rfl rfl rfl rfl) ?_
  refine s_loadL (cs := [.string x.a.p, .slice (some ⟨ba, 0, none⟩) x.a.args.length (x.a.args.length + 1)]) (ca := #[.string x.a.p, .slice (some ⟨ba, 0, none⟩) x.a.args.length (x.a.args.length + 1)]) F_m24 (ev_t rfl rfl) rfl rfl (blk_cells (Ext.blk (NewB.ext n6) (NewB.blk n3)) 1 (cs := [.string x.a.p, .slice (some ⟨ba, 0, none⟩) x.a.args.length (x.a.args.length + 1)]) rfl) (wy rfl rfl rfl rfl) ?_
  refine s_field (off := 1) (o' := 1) F_f38_1 (ev_t rfl rfl) rfl (wy rfl rfl rfl rfl) ?_
  refine s_loadL (cs := [.string x.a.p, .slice Aa x.a.args.length ca]) (ca := #[.string x.a.p, .slice Aa x.a.args.length ca]) F_m24 (ev_t rfl rfl) rfl rfl (blk_cells (NewB.blk n6) 1 (cs := [.string x.a.p, .slice Aa x.a.args.length ca]) rfl) (wy rfl rfl rfl rfl) ?_
  refine s_call F_e15 (wy rfl rfl rfl rfl) ev_f (m2 (ev_t rfl rfl) (ev_t rfl rfl)) (args := #[.agg #[.string x.a.p, .slice (some ⟨ba, 0, none⟩) x.a.args.length (x.a.args.length + 1)], .agg #[.string x.a.p, .slice Aa x.a.args.length ca]]) rfl (l_LeftAtom x.a Aa ca ba _ _ hoa_ (Row.extT (Row.extT hra (NewB.ext n3)) (NewB.ext n6)) (TwG.ext okT (TwG.ext okT twa (NewB.ext n3)) (NewB.ext n6)) (Tabs.ext tb (Ext.trans (NewB.ext n3) (NewB.ext n6)))) ?_
  rintro _ w8 ⟨rfl, x7⟩
  refine s_pick1 (v := .bool true) (ev_t rfl rfl) (ev_t rfl rfl) (w0 rfl) ?_
  refine s_move (v := .bool true) (ev_t rfl rfl) (w0 rfl) ?_
  refine s_field (off := 4) (o' := 4) F_f38_3 (ev_t rfl rfl) rfl (wy rfl rfl rfl rfl) ?_
  refine s_loadL (cs := [.int .i8 x.e1.op, .string x.e1.t.v, .int .i8 x.e1.t.l.k, .int .i64 x.e1.t.l.n, .string x.e1.t.l.s, .slice (some ⟨b1, 0, none⟩) x.e1.kids.length (x.e1.kids.length + 1)]) (ca := #[.int .i8 x.e1.op, .string x.e1.t.v, .int .i8 x.e1.t.l.k, .int .i64 x.e1.t.l.n, .string x.e1.t.l.s, .slice (some ⟨b1, 0, none⟩) x.e1.kids.length (x.e1.kids.length + 1)]) F_m36 (ev_t rfl rfl) rfl rfl (blk_cells (Ext.blk x7 (Ext.blk (NewB.ext n6) (NewB.blk n3))) 4 (cs := [.int .i8 x.e1.op, .string x.e1.t.v, .int .i8 x.e1.t.l.k, .int .i64 x.e1.t.l.n, .string x.e1.t.l.s, .slice (some ⟨b1, 0, none⟩) x.e1.kids.length (x.e1.kids.length + 1)]) rfl) (wy rfl rfl rfl rfl) ?_
  refine s_field (off := 4) (o' := 4) F_f38_3 (ev_t rfl rfl) rfl (wy rfl rfl rfl rfl) ?_
  refine s_loadL (cs := [.int .i8 x.e1.op, .string x.e1.t.v, .int .i8 x.e1.t.l.k, .int .i64 x.e1.t.l.n, .string x.e1.t.l.s, .slice A1 x.e1.kids.length c1]) (ca := #[.int .i8 x.e1.op, .string x.e1.t.v, .int .i8 x.e1.t.l.k, .int .i64 x.e1.t.l.n, .string x.e1.t.l.s, .slice A1 x.e1.kids.length c1]) F_m36 (ev_t rfl rfl) rfl rfl (blk_cells (Ext.blk x7 (NewB.blk n6)) 4 (cs := [.int .i8 x.e1.op, .string x.e1.t.v, .int .i8 x.e1.t.l.k, .int .i64 x.e1.t.l.n, .string x.e1.t.l.s, .slice A1 x.e1.kids.length c1]) rfl) (wy rfl rfl rfl rfl) ?_
  refine s_call F_e42 (wy rfl rfl rfl rfl) ev_f (m2 (ev_t rfl rfl) (ev_t rfl rfl)) (args := #[.agg #[.int .i8 x.e1.op, .string x.e1.t.v, .int .i8 x.e1.t.l.k, .int .i64 x.e1.t.l.n, .string x.e1.t.l.s, .slice (some ⟨b1, 0, none⟩) x.e1.kids.length (x.e1.kids.length + 1)], .agg #[.int .i8 x.e1.op, .string x.e1.t.v, .int .i8 x.e1.t.l.k, .int .i64 x.e1.t.l.n, .string x.e1.t.l.s, .slice A1 x.e1.kids.length c1]]) rfl (l_LeftExpr (SizeOf.sizeOf x.e1 + 1) x.e1 (Nat.lt_succ_self _) b1 _ A1 c1 _ (TwE.ext (TwE.ext (TwE.ext tw1 (NewB.ext n3)) (NewB.ext n6)) x7) ho1_ (Row.extE (Row.extE (Row.extE hr1 (NewB.ext n3)) (NewB.ext n6)) x7) (Tabs.ext tb (Ext.trans (Ext.trans (NewB.ext n3) (NewB.ext n6)) x7))) ?_
  rintro _ w10 ⟨rfl, x9⟩
  refine s_pick1 (v := .bool true) (ev_t rfl rfl) (ev_t rfl rfl) (w0 rfl) ?_
  refine s_move (v := .bool true) (ev_t rfl rfl) (w0 rfl) ?_
  refine s_field (off := 10) (o' := 10) F_f38_4 (ev_t rfl rfl) rfl (wy rfl rfl rfl rfl) ?_
  refine s_loadL (cs := [.int .i8 x.e2.op, .string x.e2.t.v, .int .i8 x.e2.t.l.k, .int .i64 x.e2.t.l.n, .string x.e2.t.l.s, .slice (some ⟨b2, 0, none⟩) x.e2.kids.length (x.e2.kids.length + 1)]) (ca := #[.int .i8 x.e2.op, .string x.e2.t.v, .int .i8 x.e2.t.l.k, .int .i64 x.e2.t.l.n, .string x.e2.t.l.s, .slice (some ⟨b2, 0, none⟩) x.e2.kids.length (x.e2.kids.length + 1)]) F_m36 (ev_t rfl rfl) rfl rfl (blk_cells (Ext.blk x9 (Ext.blk x7 (Ext.blk (NewB.ext n6) (NewB.blk n3)))) 10 (cs := [.int .i8 x.e2.op, .string x.e2.t.v, .int .i8 x.e2.t.l.k, .int .i64 x.e2.t.l.n, .string x.e2.t.l.s, .slice (some ⟨b2, 0, none⟩) x.e2.kids.length (x.e2.kids.length + 1)]) rfl) (wy rfl rfl rfl rfl) ?_
  refine s_field (off := 10) (o' := 10) F_f38_4 (ev_t rfl rfl) rfl (wy rfl rfl rfl rfl) ?_
  refine s_loadL (cs := [.int .i8 x.e2.op, .string x.e2.t.v, .int .i8 x.e2.t.l.k, .int .i64 x.e2.t.l.n, .string x.e2.t.l.s, .slice A2 x.e2.kids.length c2]) (ca := #[.int .i8 x.e2.op, .string x.e2.t.v, .int .i8 x.e2.t.l.k, .int .i64 x.e2.t.l.n, .string x.e2.t.l.s, .slice A2 x.e2.kids.length c2]) F_m36 (ev_t rfl rfl) rfl rfl (blk_cells (Ext.blk x9 (Ext.blk x7 (NewB.blk n6))) 10 (cs := [.int .i8 x.e2.op, .string x.e2.t.v, .int .i8 x.e2.t.l.k, .int .i64 x.e2.t.l.n, .string x.e2.t.l.s, .slice A2 x.e2.kids.length c2]) rfl) (wy rfl rfl rfl rfl) ?_
  refine s_call F_e42 (wy rfl rfl rfl rfl) ev_f (m2 (ev_t rfl rfl) (ev_t rfl rfl)) (args := #[.agg #[.int .i8 x.e2.op, .string x.e2.t.v, .int .i8 x.e2.t.l.k, .int .i64 x.e2.t.l.n, .string x.e2.t.l.s, .slice (some ⟨b2, 0, none⟩) x.e2.kids.length (x.e2.kids.length + 1)], .agg #[.int .i8 x.e2.op, .string x.e2.t.v, .int .i8 x.e2.t.l.k, .int .i64 x.e2.t.l.n, .string x.e2.t.l.s, .slice A2 x.e2.kids.length c2]]) rfl (l_LeftExpr (SizeOf.sizeOf x.e2 + 1) x.e2 (Nat.lt_succ_self _) b2 _ A2 c2 _ (TwE.ext (TwE.ext (TwE.ext (TwE.ext tw2 (NewB.ext n3)) (NewB.ext n6)) x7) x9) ho2_ (Row.extE (Row.extE (Row.extE (Row.extE hr2 (NewB.ext n3)) (NewB.ext n6)) x7) x9) (Tabs.ext tb (Ext.trans (Ext.trans (Ext.trans (NewB.ext n3) (NewB.ext n6)) x7) x9))) ?_
  rintro _ w12 ⟨rfl, x11⟩
  refine s_pick1 (v := .bool true) (ev_t rfl rfl) (ev_t rfl rfl) (w0 rfl) ?_
  refine s_assign (v := .bool true) (ev_t rfl rfl) (w0 rfl) ?_
  refine c_done (n_then (c_ret ?_))
  refine ret1 (v := .bool true) rfl rfl rfl ?_
  refine ⟨_, rfl, ?_, (Ext.trans (Ext.trans (Ext.trans (Ext.trans (NewB.ext n3) (NewB.ext n6)) x7) x9) x11)⟩
  rfl
end Go.Proofs.Zw

set_option linter.unusedVariables false
set_option linter.unusedSimpArgs false
set_option maxRecDepth 10000
namespace Go.Proofs.Zw
open Go Go.Wk Go.Proofs Go.Lib
attribute [local irreducible] Go.wpList Go.wpStill Go.wpQuiet Go.Code.wp Go.Calls
theorem F_e28 : enterable Tryz.prog 28 = true := by kernel_rfl
theorem F_e57 : enterable Tryz.prog 57 = true := by kernel_rfl
theorem F_f53_1 : fieldAt Tryz.prog 53 1 1 = true := by kernel_rfl
theorem F_f53_2 : fieldAt Tryz.prog 53 2 2 = true := by kernel_rfl
theorem F_l40 : sliceT Tryz.prog 40 16 = true := by kernel_rfl
theorem F_l51 : sliceT Tryz.prog 51 5 = true := by kernel_rfl
theorem F_o40 : one Tryz.prog 40 = true := by kernel_rfl
theorem F_o51 : one Tryz.prog 51 = true := by kernel_rfl
theorem bd53_2s : ∀ (a0 : Option Addr) (a0n a0c : Nat), ∀ w : World, (Instr.build 53 [(2, .slice a0 a0n a0c)].toArray).run Tryz.prog w = .ok (.agg #[.string (⟨#[]⟩ : ByteArray), .slice none 0 0, .slice a0 a0n a0c]) w := by
  intros
  kernel_rfl
set_option maxHeartbeats 4000000 in
theorem l_RuleParts (x : Ru) (Ah Ab : Option Addr) (ch cb : Nat) (L : Nat) (w : World) (ho : x.okc ch cb) (hrh : Row RG 5 w Ah x.head) (hrb : Row RL 16 w Ab x.body) (hL : L ≤ 1048576) :
    Rt Tryz.prog 28 #[.agg #[.string x.p, .slice Ah x.head.length ch, .slice Ab x.body.length cb], .int .i64 ((L : Nat) : Int)] w fun v w' => (∃ z : Nat, z ≤ L + 1 + x.head.length ∧ v = .int .i64 ((z : Nat) : Int)) ∧ Ext w w' := by
  refine enter Tryz.func28 rfl (l := [.agg #[.string x.p, .slice Ah x.head.length ch, .slice Ab x.body.length cb], .int .i64 ((L : Nat) : Int)]) rfl Tryz.ntmps28 (Nat.le_of_ble_eq_true rfl) ?_
  have hpr_ := Ru.okc.p ho
  have hhl_ := Ru.okc.hl ho
  have hhc_ := Ru.okc.hc ho
  have hbl_ := Ru.okc.bl ho
  have hbc_ := Ru.okc.bc ho
  refine c_seq (c_reg ?_)
  refine s_box (v := .agg #[.string x.p, .slice Ah x.head.length ch, .slice Ab x.body.length cb]) (cs := #[.string x.p, .slice Ah x.head.length ch, .slice Ab x.body.length cb]) (w0 rfl) (ev_t rfl rfl) rfl ?_
  intro w2 g1 n3
  refine s_assign (v := .int .i64 0) ev_c (w0 rfl) ?_
  refine c_done (n_then (c_seq (c_reg ?_)))
  refine s_field (off := 1) (o' := 1) F_f53_1 (ev_t rfl rfl) rfl (w0 rfl) ?_
  refine s_load (v := .slice Ah x.head.length ch) F_o51 (ev_t rfl rfl) (cell_of_blk (i := 1) (NewB.blk n3) rfl) (w0 rfl) ?_
  refine s_lenL F_l51 (ev_t rfl rfl) (w0 rfl) ?_
  refine s_add (r := ((1 + x.head.length : Nat) : Int)) ev_c (ev_t rfl rfl) (by omega) (by omega) (w0 rfl) ?_
  refine s_assign (v := .int .i64 ((1 + x.head.length : Nat) : Int)) (ev_t rfl rfl) (w0 rfl) ?_
  refine c_done (n_then (c_seq (c_seq (c_reg ?_))))
  refine s_assign (v := .int .i64 0) ev_c (w0 rfl) ?_
  refine c_done (n_then (c_block ?_))
  refine c_loop (α := Nat × Nat) (fun x_ env_ w_ => match x_ with | (i, nn) => Ext w2 w_ ∧ i ≤ x.body.length ∧ nn ≤ L + 1 + x.head.length ∧ env_ 1 = .int .i64 ((L : Nat) : Int) ∧ env_ 2 = .pointer (some ⟨g1, 0, none⟩) ∧ env_ 4 = .int .i64 0 ∧ env_ 5 = .int .i64 ((nn : Nat) : Int) ∧ env_ 6 = .int .i64 ((i : Nat) : Int)) (fun x_ => match x_ with | (i, nn) => x.body.length - i) (0, 1 + x.head.length) ⟨Ext.refl _, Nat.zero_le _, (by omega), rfl, rfl, rfl, rfl, rfl⟩ ?_
  rintro ⟨i, nn⟩ env6 w4 ⟨x5, i7, i8, e9, e10, e11, e12, e13⟩
  refine c_seq (c_seq (c_reg ?_))
  refine s_move (v := .int .i64 ((i : Nat) : Int)) (ev_t rfl e13) (w0 rfl) ?_
  refine s_field (off := 2) (o' := 2) F_f53_2 (ev_t rfl e10) rfl (w0 rfl) ?_
  refine s_load (v := .slice Ab x.body.length cb) F_o40 (ev_t rfl rfl) (cell_of_blk (i := 2) (Ext.blk x5 (NewB.blk n3)) rfl) (w0 rfl) ?_
  refine s_lenL F_l40 (ev_t rfl rfl) (w0 rfl) ?_
  refine s_cmp (r := decide (((i : Nat) : Int) < (x.body.length : Int))) (ev_t rfl rfl) (ev_t rfl rfl) rfl (w0 rfl) ?_
  by_cases h14 : ((i : Nat) : Int) < (x.body.length : Int)
  · refine s_move (v := .bool true) (vb (ev_t rfl rfl) (decide_eq_true h14)) (w0 rfl) ?_
    refine s_move (v := .int .i64 ((nn : Nat) : Int)) (ev_t rfl e12) (wy rfl rfl rfl rfl) ?_
    refine s_move (v := .int .i64 ((L : Nat) : Int)) (ev_t rfl e9) (wy rfl rfl rfl rfl) ?_
    refine s_cmp (r := decide (((nn : Nat) : Int) ≤ ((L : Nat) : Int))) (ev_t rfl rfl) (ev_t rfl rfl) rfl (wy rfl rfl rfl rfl) ?_
    refine s_pick1 (v := .bool (decide (((nn : Nat) : Int) ≤ ((L : Nat) : Int)))) (ev_t rfl rfl) (ev_t rfl rfl) (w0 rfl) ?_
    refine c_done (n_then ?_)
    by_cases h15 : ((nn : Nat) : Int) ≤ ((L : Nat) : Int)
    · refine c_cond1 (vb (ev_t rfl rfl) (decide_eq_true h15)) ?_
      refine c_skip (n_then (c_seq (c_block (c_reg ?_))))
      refine s_move (v := .int .i64 ((nn : Nat) : Int)) (ev_t rfl e12) (w0 rfl) ?_
      refine s_field (off := 2) (o' := 2) F_f53_2 (ev_t rfl e10) rfl (w0 rfl) ?_
      refine s_load (v := .slice Ab x.body.length cb) F_o40 (ev_t rfl rfl) (cell_of_blk (i := 2) (Ext.blk x5 (NewB.blk n3)) rfl) (w0 rfl) ?_
      refine s_move (v := .int .i64 ((i : Nat) : Int)) (ev_t rfl e13) (w0 rfl) ?_
      obtain ⟨b16, o17, x18, csx18, hA19, hx20, hR21, hc22⟩ := Row.at_ hrb i (by omega)
      obtain rfl := ltAt_of hx20
      obtain ⟨Aa23, A24, A25, ca26, c27, c28, rfl, ho29, ra30, r31, r32⟩ := hR21
      have q33_a := Lt.okc.a ho29
      have q33_e1 := Lt.okc.e1 ho29
      have q33_e2 := Lt.okc.e2 ho29
      have := Ex.okc.l q33_e1
      have := Ex.okc.l q33_e2
      have := Ex.okc.c q33_e1
      have := Ex.okc.c q33_e2
      have := At.okc.l q33_a
      have := At.okc.c q33_a
      have := At.okc.p q33_a
      refine s_indexR (j := i) F_l40 (ev_t rfl rfl) hA19 (ev_t rfl rfl) rfl (by omega) (w0 rfl) ?_
      refine s_loadL (cs := [.int .i8 ((ltAt x.body i).k), .string ((ltAt x.body i).a.p), .slice Aa23 ((ltAt x.body i).a.args.length) ca26, .int .i8 ((ltAt x.body i).r), .int .i8 ((ltAt x.body i).e1.op), .string ((ltAt x.body i).e1.t.v), .int .i8 ((ltAt x.body i).e1.t.l.k), .int .i64 ((ltAt x.body i).e1.t.l.n), .string ((ltAt x.body i).e1.t.l.s), .slice A24 ((ltAt x.body i).e1.kids.length) c27, .int .i8 ((ltAt x.body i).e2.op), .string ((ltAt x.body i).e2.t.v), .int .i8 ((ltAt x.body i).e2.t.l.k), .int .i64 ((ltAt x.body i).e2.t.l.n), .string ((ltAt x.body i).e2.t.l.s), .slice A25 ((ltAt x.body i).e2.kids.length) c28]) (ca := #[.int .i8 ((ltAt x.body i).k), .string ((ltAt x.body i).a.p), .slice Aa23 ((ltAt x.body i).a.args.length) ca26, .int .i8 ((ltAt x.body i).r), .int .i8 ((ltAt x.body i).e1.op), .string ((ltAt x.body i).e1.t.v), .int .i8 ((ltAt x.body i).e1.t.l.k), .int .i64 ((ltAt x.body i).e1.t.l.n), .string ((ltAt x.body i).e1.t.l.s), .slice A24 ((ltAt x.body i).e1.kids.length) c27, .int .i8 ((ltAt x.body i).e2.op), .string ((ltAt x.body i).e2.t.v), .int .i8 ((ltAt x.body i).e2.t.l.k), .int .i64 ((ltAt x.body i).e2.t.l.n), .string ((ltAt x.body i).e2.t.l.s), .slice A25 ((ltAt x.body i).e2.kids.length) c28]) F_m38 (ev_t rfl rfl) rfl rfl (sub_cells (cells_ext x5 (cells_ext (NewB.ext n3) hc22)) 0 (cs2 := [.int .i8 ((ltAt x.body i).k), .string ((ltAt x.body i).a.p), .slice Aa23 ((ltAt x.body i).a.args.length) ca26, .int .i8 ((ltAt x.body i).r), .int .i8 ((ltAt x.body i).e1.op), .string ((ltAt x.body i).e1.t.v), .int .i8 ((ltAt x.body i).e1.t.l.k), .int .i64 ((ltAt x.body i).e1.t.l.n), .string ((ltAt x.body i).e1.t.l.s), .slice A24 ((ltAt x.body i).e1.kids.length) c27, .int .i8 ((ltAt x.body i).e2.op), .string ((ltAt x.body i).e2.t.v), .int .i8 ((ltAt x.body i).e2.t.l.k), .int .i64 ((ltAt x.body i).e2.t.l.n), .string ((ltAt x.body i).e2.t.l.s), .slice A25 ((ltAt x.body i).e2.kids.length) c28]) rfl) (w0 rfl) ?_
      refine s_move (v := .int .i64 ((L : Nat) : Int)) (ev_t rfl e9) (w0 rfl) ?_
      refine s_move (v := .int .i64 ((nn : Nat) : Int)) (ev_t rfl e12) (w0 rfl) ?_
      refine s_sub (r := ((L - (nn) : Nat) : Int)) (ev_t rfl rfl) (ev_t rfl rfl) (by omega) (by omega) (w0 rfl) ?_
      refine s_call F_e57 (w0 rfl) ev_f (m2 (ev_t rfl rfl) (ev_t rfl rfl)) (args := #[.agg #[.int .i8 ((ltAt x.body i).k), .string ((ltAt x.body i).a.p), .slice Aa23 ((ltAt x.body i).a.args.length) ca26, .int .i8 ((ltAt x.body i).r), .int .i8 ((ltAt x.body i).e1.op), .string ((ltAt x.body i).e1.t.v), .int .i8 ((ltAt x.body i).e1.t.l.k), .int .i64 ((ltAt x.body i).e1.t.l.n), .string ((ltAt x.body i).e1.t.l.s), .slice A24 ((ltAt x.body i).e1.kids.length) c27, .int .i8 ((ltAt x.body i).e2.op), .string ((ltAt x.body i).e2.t.v), .int .i8 ((ltAt x.body i).e2.t.l.k), .int .i64 ((ltAt x.body i).e2.t.l.n), .string ((ltAt x.body i).e2.t.l.s), .slice A25 ((ltAt x.body i).e2.kids.length) c28], .int .i64 ((L - (nn) : Nat) : Int)]) rfl (l_literalParts (ltAt x.body i) Aa23 A24 A25 ca26 c27 c28 (L - (nn)) _ ho29 (Row.extT (Row.extT ra30 (NewB.ext n3)) x5) (Row.extE (Row.extE r31 (NewB.ext n3)) x5) (Row.extE (Row.extE r32 (NewB.ext n3)) x5) (by omega)) ?_
      rintro _ w35 ⟨⟨z34, hz37, rfl⟩, x36⟩
      refine s_add (r := ((nn + z34 : Nat) : Int)) (ev_t rfl rfl) (ev_t rfl rfl) (by omega) (by omega) (w0 rfl) ?_
      refine s_assign (v := .int .i64 ((nn + z34 : Nat) : Int)) (ev_t rfl rfl) (w0 rfl) ?_
      refine c_done (n_block (n_then (c_reg ?_)))
      refine s_move (v := .int .i64 ((i : Nat) : Int)) (ev_t rfl e13) (w0 rfl) ?_
      refine s_add (r := ((i + 1 : Nat) : Int)) (ev_t rfl rfl) ev_c (by omega) (by omega) (w0 rfl) ?_
      refine s_assign (v := .int .i64 ((i + 1 : Nat) : Int)) (ev_t rfl rfl) (w0 rfl) ?_
      refine c_done ?_
      exact ⟨(i + 1, nn + z34), _, rfl, ⟨(Ext.trans x5 x36), by omega, by omega, e9, e10, e11, rfl, rfl⟩, (show x.body.length - (i + 1) < x.body.length - i by omega)⟩
    · refine c_cond0 (vb (ev_t rfl rfl) (decide_eq_false h15)) ?_
      refine c_exit (e_then (e_then (e_hit (n_then (c_seq (c_reg ?_))))))
      refine s_move (v := .int .i64 ((nn : Nat) : Int)) (ev_t rfl e12) (w0 rfl) ?_
      refine s_assign (v := .int .i64 ((nn : Nat) : Int)) (ev_t rfl rfl) (w0 rfl) ?_
      refine c_done (n_then (c_ret ?_))
      refine ret1 (v := .int .i64 ((nn : Nat) : Int)) rfl rfl rfl ?_
      exact ⟨_, rfl, ⟨nn, by omega, rfl⟩, (Ext.trans (NewB.ext n3) x5)⟩
  · refine s_move (v := .bool false) (vb (ev_t rfl rfl) (decide_eq_false h14)) (w0 rfl) ?_
    refine s_skip (wn rfl rfl rfl rfl rfl) ?_
    refine s_skip (wn rfl rfl rfl rfl rfl) ?_
    refine s_skip (wn rfl rfl rfl rfl rfl) ?_
    refine s_pick0 (v := .bool false) (ev_t rfl rfl) ev_c (w0 rfl) ?_
    refine c_done (n_then ?_)
    refine c_cond0 (ev_t rfl rfl) ?_
    refine c_exit (e_then (e_then (e_hit (n_then (c_seq (c_reg ?_))))))
    refine s_move (v := .int .i64 ((nn : Nat) : Int)) (ev_t rfl e12) (w0 rfl) ?_
    refine s_assign (v := .int .i64 ((nn : Nat) : Int)) (ev_t rfl rfl) (w0 rfl) ?_
    refine c_done (n_then (c_ret ?_))
    refine ret1 (v := .int .i64 ((nn : Nat) : Int)) rfl rfl rfl ?_
    exact ⟨_, rfl, ⟨nn, by omega, rfl⟩, (Ext.trans (NewB.ext n3) x5)⟩
set_option maxHeartbeats 4000000 in
theorem l_BeyondLiterals (l : List Lt) (A : Option Addr) (c : Nat) (w : World) (hl : l.length ≤ c) (hc : l.length * 216 ≤ 140737488351232) (hr : Row RL 16 w A l) :
    Rt Tryz.prog 6 #[.slice A l.length c] w fun v w' => (∃ b : Bool, v = .bool b) ∧ Ext w w' := by
  refine enter Tryz.func6 rfl (l := [.slice A l.length c]) rfl Tryz.ntmps6 (Nat.le_of_ble_eq_true rfl) ?_
  refine c_seq (c_reg ?_)
  refine s_assign (v := .bool false) ev_c (w0 rfl) ?_
  refine c_done (n_then (c_seq (c_reg ?_)))
  refine s_move (v := .slice A l.length c) (ev_t rfl rfl) (w0 rfl) ?_
  refine s_build (v := .agg #[.string (⟨#[]⟩ : ByteArray), .slice none 0 0, .slice A l.length c]) (vs := [(2, .slice A l.length c)]) (b1 (ev_t rfl rfl)) (bd53_2s A l.length c) (w0 rfl) ?_
  refine s_call F_e28 (w0 rfl) ev_f (m2 (ev_t rfl rfl) ev_c) (args := #[.agg #[.string (⟨#[]⟩ : ByteArray), .slice none 0 0, .slice A l.length c], .int .i64 1048576]) rfl (l_RuleParts ⟨⟨#[]⟩, [], l⟩ none A 0 c 1048576 _ ⟨(show 0 ≤ 140737488351232 by decide), Nat.le_refl 0, (show 0 ≤ 140737488351232 by decide), by assumption, by assumption⟩ Row.nil hr (by omega)) ?_
  rintro _ w2 ⟨⟨z1, hz4, rfl⟩, x3⟩
  refine s_cmp (r := decide (1048576 < ((z1 : Nat) : Int))) (ev_t rfl rfl) ev_c rfl (w0 rfl) ?_
  refine s_assign (v := .bool (decide (1048576 < ((z1 : Nat) : Int)))) (ev_t rfl rfl) (w0 rfl) ?_
  refine c_done (n_then (c_ret ?_))
  refine ret1 (v := .bool (decide (1048576 < ((z1 : Nat) : Int)))) rfl rfl rfl ?_
  exact ⟨_, rfl, ⟨_, rfl⟩, x3⟩
end Go.Proofs.Zw

set_option linter.unusedVariables false
set_option linter.unusedSimpArgs false
set_option maxRecDepth 10000
namespace Go.Proofs.Zw
open Go Go.Wk Go.Proofs Go.Lib
attribute [local irreducible] Go.wpList Go.wpStill Go.wpQuiet Go.Code.wp Go.Calls
theorem F_e11 : enterable Tryz.prog 11 = true := by kernel_rfl
theorem F_e12 : enterable Tryz.prog 12 = true := by kernel_rfl
theorem F_e13 : enterable Tryz.prog 13 = true := by kernel_rfl
theorem F_e14 : enterable Tryz.prog 14 = true := by kernel_rfl
theorem F_e16 : enterable Tryz.prog 16 = true := by kernel_rfl
theorem F_e17 : enterable Tryz.prog 17 = true := by kernel_rfl
theorem F_e6 : enterable Tryz.prog 6 = true := by kernel_rfl
theorem F_e8 : enterable Tryz.prog 8 = true := by kernel_rfl
theorem F_e9 : enterable Tryz.prog 9 = true := by kernel_rfl
theorem bd38_1s_1s : ∀ (a0 : ByteArray) (a1 : Option Addr) (a1n a1c : Nat), ∀ w : World, (Instr.build 38 [(1, .agg #[.string a0, .slice a1 a1n a1c])].toArray).run Tryz.prog w = .ok (.agg #[.int .i8 0, .string a0, .slice a1 a1n a1c, .int .i8 0, .int .i8 0, .string (⟨#[]⟩ : ByteArray), .int .i8 0, .int .i64 0, .string (⟨#[]⟩ : ByteArray), .slice none 0 0, .int .i8 0, .string (⟨#[]⟩ : ByteArray), .int .i8 0, .int .i64 0, .string (⟨#[]⟩ : ByteArray), .slice none 0 0]) w := by
  intros
  kernel_rfl
theorem bs40_2_0ii8_0s_0s_0ii8_0ii8_0s_0ii8_0ii64_0s_0s_0ii8_0s_0ii8_0ii64_0s_0s_1ii8_1s_1s_1ii8_1ii8_1s_1ii8_1ii64_1s_1s_1ii8_1s_1ii8_1ii64_1s_1s : ∀ (a0 : Int) (a1 : ByteArray) (a2 : Option Addr) (a2n a2c : Nat) (a3 : Int) (a4 : Int) (a5 : ByteArray) (a6 : Int) (a7 : Int) (a8 : ByteArray) (a9 : Option Addr) (a9n a9c : Nat) (a10 : Int) (a11 : ByteArray) (a12 : Int) (a13 : Int) (a14 : ByteArray) (a15 : Option Addr) (a15n a15c : Nat) (a16 : Int) (a17 : ByteArray) (a18 : Option Addr) (a18n a18c : Nat) (a19 : Int) (a20 : Int) (a21 : ByteArray) (a22 : Int) (a23 : Int) (a24 : ByteArray) (a25 : Option Addr) (a25n a25c : Nat) (a26 : Int) (a27 : ByteArray) (a28 : Int) (a29 : Int) (a30 : ByteArray) (a31 : Option Addr) (a31n a31c : Nat), ∀ w : World, (Instr.buildSlice 40 2 [(0, .agg #[.int .i8 a0, .string a1, .slice a2 a2n a2c, .int .i8 a3, .int .i8 a4, .string a5, .int .i8 a6, .int .i64 a7, .string a8, .slice a9 a9n a9c, .int .i8 a10, .string a11, .int .i8 a12, .int .i64 a13, .string a14, .slice a15 a15n a15c]), (1, .agg #[.int .i8 a16, .string a17, .slice a18 a18n a18c, .int .i8 a19, .int .i8 a20, .string a21, .int .i8 a22, .int .i64 a23, .string a24, .slice a25 a25n a25c, .int .i8 a26, .string a27, .int .i8 a28, .int .i64 a29, .string a30, .slice a31 a31n a31c])].toArray).run Tryz.prog w = .ok (.slice (some ⟨w.heap.size, 0, none⟩) 2 2) (w.alloc (.cells #[.int .i8 a0, .string a1, .slice a2 a2n a2c, .int .i8 a3, .int .i8 a4, .string a5, .int .i8 a6, .int .i64 a7, .string a8, .slice a9 a9n a9c, .int .i8 a10, .string a11, .int .i8 a12, .int .i64 a13, .string a14, .slice a15 a15n a15c, .int .i8 a16, .string a17, .slice a18 a18n a18c, .int .i8 a19, .int .i8 a20, .string a21, .int .i8 a22, .int .i64 a23, .string a24, .slice a25 a25n a25c, .int .i8 a26, .string a27, .int .i8 a28, .int .i64 a29, .string a30, .slice a31 a31n a31c] 38)) := by
  intros
  kernel_rfl
set_option maxHeartbeats 4000000 in
theorem l_PrintParts (a : At) (Aa0 : Option Addr) (ca0 : Nat) (x : Lt) (Aa A1 A2 : Option Addr) (ca c1 c2 : Nat) (w : World) (hoa0 : a.okc ca0) (hra0 : Row RT 4 w Aa0 a.args) (ho : x.okc ca c1 c2) (hra : Row RT 4 w Aa x.a.args) (hr1 : Row RE 6 w A1 x.e1.kids) (hr2 : Row RE 6 w A2 x.e2.kids) (tb : Tabs Tryz.prog w) (tr : RelT Tryz.prog w) :
    Rt Tryz.prog 3 #[.agg #[.string a.p, .slice Aa0 a.args.length ca0], .agg #[.int .i8 x.k, .string x.a.p, .slice Aa x.a.args.length ca, .int .i8 x.r, .int .i8 x.e1.op, .string x.e1.t.v, .int .i8 x.e1.t.l.k, .int .i64 x.e1.t.l.n, .string x.e1.t.l.s, .slice A1 x.e1.kids.length c1, .int .i8 x.e2.op, .string x.e2.t.v, .int .i8 x.e2.t.l.k, .int .i64 x.e2.t.l.n, .string x.e2.t.l.s, .slice A2 x.e2.kids.length c2]] w fun v w' => v = .bool true ∧ Ext w w' := by
  refine enter Tryz.func3 rfl (l := [.agg #[.string a.p, .slice Aa0 a.args.length ca0], .agg #[.int .i8 x.k, .string x.a.p, .slice Aa x.a.args.length ca, .int .i8 x.r, .int .i8 x.e1.op, .string x.e1.t.v, .int .i8 x.e1.t.l.k, .int .i64 x.e1.t.l.n, .string x.e1.t.l.s, .slice A1 x.e1.kids.length c1, .int .i8 x.e2.op, .string x.e2.t.v, .int .i8 x.e2.t.l.k, .int .i64 x.e2.t.l.n, .string x.e2.t.l.s, .slice A2 x.e2.kids.length c2]]) rfl Tryz.ntmps3 (Nat.le_of_ble_eq_true rfl) ?_
  have hoa_ := Lt.okc.a ho
  have ho1_ := Lt.okc.e1 ho
  have ho2_ := Lt.okc.e2 ho
  have hl1_ := Ex.okc.l ho1_
  have hl2_ := Ex.okc.l ho2_
  have hc1_ := Ex.okc.c ho1_
  have hc2_ := Ex.okc.c ho2_
  have hla_ := At.okc.l hoa_
  have hca_ := At.okc.c hoa_
  have hpa_ := At.okc.p hoa_
  have hla0_ := At.okc.l hoa0
  have hca0_ := At.okc.c hoa0
  have hpa0_ := At.okc.p hoa0
  refine c_seq (c_reg ?_)
  refine s_box (v := .agg #[.string a.p, .slice Aa0 a.args.length ca0]) (cs := #[.string a.p, .slice Aa0 a.args.length ca0]) (w0 rfl) (ev_t rfl rfl) rfl ?_
  intro w2 g1 n3
  refine s_box (v := .agg #[.int .i8 x.k, .string x.a.p, .slice Aa x.a.args.length ca, .int .i8 x.r, .int .i8 x.e1.op, .string x.e1.t.v, .int .i8 x.e1.t.l.k, .int .i64 x.e1.t.l.n, .string x.e1.t.l.s, .slice A1 x.e1.kids.length c1, .int .i8 x.e2.op, .string x.e2.t.v, .int .i8 x.e2.t.l.k, .int .i64 x.e2.t.l.n, .string x.e2.t.l.s, .slice A2 x.e2.kids.length c2]) (cs := #[.int .i8 x.k, .string x.a.p, .slice Aa x.a.args.length ca, .int .i8 x.r, .int .i8 x.e1.op, .string x.e1.t.v, .int .i8 x.e1.t.l.k, .int .i64 x.e1.t.l.n, .string x.e1.t.l.s, .slice A1 x.e1.kids.length c1, .int .i8 x.e2.op, .string x.e2.t.v, .int .i8 x.e2.t.l.k, .int .i64 x.e2.t.l.n, .string x.e2.t.l.s, .slice A2 x.e2.kids.length c2]) (w0 rfl) (ev_t rfl rfl) rfl ?_
  intro w5 g4 n6
  refine s_assign (v := .bool false) ev_c (w0 rfl) ?_
  refine c_done (n_then (c_seq (c_seq (c_reg ?_))))
  refine s_loadL (cs := [.int .i8 x.k, .string x.a.p, .slice Aa x.a.args.length ca, .int .i8 x.r, .int .i8 x.e1.op, .string x.e1.t.v, .int .i8 x.e1.t.l.k, .int .i64 x.e1.t.l.n, .string x.e1.t.l.s, .slice A1 x.e1.kids.length c1, .int .i8 x.e2.op, .string x.e2.t.v, .int .i8 x.e2.t.l.k, .int .i64 x.e2.t.l.n, .string x.e2.t.l.s, .slice A2 x.e2.kids.length c2]) (ca := #[.int .i8 x.k, .string x.a.p, .slice Aa x.a.args.length ca, .int .i8 x.r, .int .i8 x.e1.op, .string x.e1.t.v, .int .i8 x.e1.t.l.k, .int .i64 x.e1.t.l.n, .string x.e1.t.l.s, .slice A1 x.e1.kids.length c1, .int .i8 x.e2.op, .string x.e2.t.v, .int .i8 x.e2.t.l.k, .int .i64 x.e2.t.l.n, .string x.e2.t.l.s, .slice A2 x.e2.kids.length c2]) F_m38 (ev_t rfl rfl) rfl rfl (blk_cells (NewB.blk n6) 0 (cs := [.int .i8 x.k, .string x.a.p, .slice Aa x.a.args.length ca, .int .i8 x.r, .int .i8 x.e1.op, .string x.e1.t.v, .int .i8 x.e1.t.l.k, .int .i64 x.e1.t.l.n, .string x.e1.t.l.s, .slice A1 x.e1.kids.length c1, .int .i8 x.e2.op, .string x.e2.t.v, .int .i8 x.e2.t.l.k, .int .i64 x.e2.t.l.n, .string x.e2.t.l.s, .slice A2 x.e2.kids.length c2]) rfl) (w0 rfl) ?_
  refine s_loadL (cs := [.string a.p, .slice Aa0 a.args.length ca0]) (ca := #[.string a.p, .slice Aa0 a.args.length ca0]) F_m24 (ev_t rfl rfl) rfl rfl (blk_cells (Ext.blk (NewB.ext n6) (NewB.blk n3)) 0 (cs := [.string a.p, .slice Aa0 a.args.length ca0]) rfl) (w0 rfl) ?_
  refine s_build (v := .agg #[.int .i8 0, .string a.p, .slice Aa0 a.args.length ca0, .int .i8 0, .int .i8 0, .string (⟨#[]⟩ : ByteArray), .int .i8 0, .int .i64 0, .string (⟨#[]⟩ : ByteArray), .slice none 0 0, .int .i8 0, .string (⟨#[]⟩ : ByteArray), .int .i8 0, .int .i64 0, .string (⟨#[]⟩ : ByteArray), .slice none 0 0]) (vs := [(1, .agg #[.string a.p, .slice Aa0 a.args.length ca0])]) (b1 (ev_t rfl rfl)) (bd38_1s_1s a.p Aa0 a.args.length ca0) (w0 rfl) ?_
  refine s_bslice (vs := [(0, .agg #[.int .i8 x.k, .string x.a.p, .slice Aa x.a.args.length ca, .int .i8 x.r, .int .i8 x.e1.op, .string x.e1.t.v, .int .i8 x.e1.t.l.k, .int .i64 x.e1.t.l.n, .string x.e1.t.l.s, .slice A1 x.e1.kids.length c1, .int .i8 x.e2.op, .string x.e2.t.v, .int .i8 x.e2.t.l.k, .int .i64 x.e2.t.l.n, .string x.e2.t.l.s, .slice A2 x.e2.kids.length c2]), (1, .agg #[.int .i8 0, .string a.p, .slice Aa0 a.args.length ca0, .int .i8 0, .int .i8 0, .string (⟨#[]⟩ : ByteArray), .int .i8 0, .int .i64 0, .string (⟨#[]⟩ : ByteArray), .slice none 0 0, .int .i8 0, .string (⟨#[]⟩ : ByteArray), .int .i8 0, .int .i64 0, .string (⟨#[]⟩ : ByteArray), .slice none 0 0])]) (cs := #[.int .i8 x.k, .string x.a.p, .slice Aa x.a.args.length ca, .int .i8 x.r, .int .i8 x.e1.op, .string x.e1.t.v, .int .i8 x.e1.t.l.k, .int .i64 x.e1.t.l.n, .string x.e1.t.l.s, .slice A1 x.e1.kids.length c1, .int .i8 x.e2.op, .string x.e2.t.v, .int .i8 x.e2.t.l.k, .int .i64 x.e2.t.l.n, .string x.e2.t.l.s, .slice A2 x.e2.kids.length c2, .int .i8 0, .string a.p, .slice Aa0 a.args.length ca0, .int .i8 0, .int .i8 0, .string (⟨#[]⟩ : ByteArray), .int .i8 0, .int .i64 0, .string (⟨#[]⟩ : ByteArray), .slice none 0 0, .int .i8 0, .string (⟨#[]⟩ : ByteArray), .int .i8 0, .int .i64 0, .string (⟨#[]⟩ : ByteArray), .slice none 0 0]) (b2 (ev_t rfl rfl) (ev_t rfl rfl)) (bs40_2_0ii8_0s_0s_0ii8_0ii8_0s_0ii8_0ii64_0s_0s_0ii8_0s_0ii8_0ii64_0s_0s_1ii8_1s_1s_1ii8_1ii8_1s_1ii8_1ii64_1s_1s_1ii8_1s_1ii8_1ii64_1s_1s x.k x.a.p Aa x.a.args.length ca x.r x.e1.op x.e1.t.v x.e1.t.l.k x.e1.t.l.n x.e1.t.l.s A1 x.e1.kids.length c1 x.e2.op x.e2.t.v x.e2.t.l.k x.e2.t.l.n x.e2.t.l.s A2 x.e2.kids.length c2 0 a.p Aa0 a.args.length ca0 0 0 (⟨#[]⟩ : ByteArray) 0 0 (⟨#[]⟩ : ByteArray) none 0 0 0 (⟨#[]⟩ : ByteArray) 0 0 (⟨#[]⟩ : ByteArray) none 0 0) (w0 rfl) ?_
  intro w8 g7 n9
  refine s_call F_e6 (w0 rfl) ev_f (m1 (ev_t rfl rfl)) (args := #[.slice (some ⟨g7, 0, none⟩) 2 2]) rfl (l_BeyondLiterals [x, ⟨0, a, 0, Ex.zero, Ex.zero⟩] (some ⟨g7, 0, none⟩) 2 _ (Nat.le_refl 2) (show 2 * 216 ≤ 140737488351232 by decide) (Row.two (NewB.blk n9) ho (Row.extT (Row.extT (Row.extT hra (NewB.ext n3)) (NewB.ext n6)) (NewB.ext n9)) (Row.extE (Row.extE (Row.extE hr1 (NewB.ext n3)) (NewB.ext n6)) (NewB.ext n9)) (Row.extE (Row.extE (Row.extE hr2 (NewB.ext n3)) (NewB.ext n6)) (NewB.ext n9)) (Lt.okc.ofAtom hoa0) (Row.extT (Row.extT (Row.extT hra0 (NewB.ext n3)) (NewB.ext n6)) (NewB.ext n9)) Row.nil Row.nil)) ?_
  rintro _ w11 ⟨⟨z10, rfl⟩, x12⟩
  refine c_done (n_then ?_)
  rcases Bool.eq_false_or_eq_true z10 with h13 | h13
  · refine c_cond1 (vb (ev_t rfl rfl) h13) ?_
    refine c_seq (c_reg ?_)
    refine s_assign (v := .bool true) ev_c (w0 rfl) ?_
    refine c_done (n_then (c_ret (r_then ?_)))
    refine ret1 (v := .bool true) rfl rfl rfl ?_
    refine ⟨_, rfl, ?_, (Ext.trans (Ext.trans (Ext.trans (NewB.ext n3) (NewB.ext n6)) (NewB.ext n9)) x12)⟩
    rfl
  · refine c_cond0 (vb (ev_t rfl rfl) h13) ?_
    refine c_skip (n_then (c_seq ?_))
    refine c_trace (fun k v wb wa => match k with | 0 => v = .agg #[.string a.p, .slice Aa0 a.args.length ca0] | 1 => ∃ b, v = .agg #[.string a.p, .slice (some ⟨b, 0, none⟩) a.args.length (a.args.length + 1)] ∧ TwG QT markT 4 wb.heap.size wa b a.args | 2 => v = .agg #[.int .i8 x.k, .string x.a.p, .slice Aa x.a.args.length ca, .int .i8 x.r, .int .i8 x.e1.op, .string x.e1.t.v, .int .i8 x.e1.t.l.k, .int .i64 x.e1.t.l.n, .string x.e1.t.l.s, .slice A1 x.e1.kids.length c1, .int .i8 x.e2.op, .string x.e2.t.v, .int .i8 x.e2.t.l.k, .int .i64 x.e2.t.l.n, .string x.e2.t.l.s, .slice A2 x.e2.kids.length c2] | 3 => ∃ ba b1 b2, v = .agg #[.int .i8 x.k, .string x.a.p, .slice (some ⟨ba, 0, none⟩) x.a.args.length (x.a.args.length + 1), .int .i8 x.r, .int .i8 x.e1.op, .string x.e1.t.v, .int .i8 x.e1.t.l.k, .int .i64 x.e1.t.l.n, .string x.e1.t.l.s, .slice (some ⟨b1, 0, none⟩) x.e1.kids.length (x.e1.kids.length + 1), .int .i8 x.e2.op, .string x.e2.t.v, .int .i8 x.e2.t.l.k, .int .i64 x.e2.t.l.n, .string x.e2.t.l.s, .slice (some ⟨b2, 0, none⟩) x.e2.kids.length (x.e2.kids.length + 1)] ∧ TwG QT markT 4 wb.heap.size wa ba x.a.args ∧ TwE wb.heap.size wa b1 x.e1.kids ∧ TwE wb.heap.size wa b2 x.e2.kids | 4 => ∃ g, v = .pointer (some ⟨g, 0, none⟩) ∧ NewB wb g (.cells #[.string (⟨#[]⟩ : ByteArray), .slice none 0 0] 24 (0, 0)) wa | 5 => ∃ g, v = .pointer (some ⟨g, 0, none⟩) ∧ NewB wb g (.cells #[.int .i8 0, .string (⟨#[]⟩ : ByteArray), .slice none 0 0, .int .i8 0, .int .i8 0, .string (⟨#[]⟩ : ByteArray), .int .i8 0, .int .i64 0, .string (⟨#[]⟩ : ByteArray), .slice none 0 0, .int .i8 0, .string (⟨#[]⟩ : ByteArray), .int .i8 0, .int .i64 0, .string (⟨#[]⟩ : ByteArray), .slice none 0 0] 38 (0, 0)) wa | _ => True) (fun k => [16, 17, 18, 19, 5, 6].getD k 999) (fun k => [[], [0], [], [2], [], []].getD k []) 6 mixed (by kernel_rfl) (by decide) ?_ ?_
    · intro wd xd k_ hk_ env_ B_ A_ w_ hx_
      have hk6 : k_ = 0 ∨ k_ = 1 ∨ k_ = 2 ∨ k_ = 3 ∨ k_ = 4 ∨ k_ = 5 := by omega
      rcases hk6 with rfl | rfl | rfl | rfl | rfl | rfl
      · refine ⟨_, rfl, ?_⟩
        refine s_loadL (cs := [.string a.p, .slice Aa0 a.args.length ca0]) (ca := #[.string a.p, .slice Aa0 a.args.length ca0]) F_m24 (ev_t rfl ((Tr.env hx_ 2 (by decide)).trans rfl)) rfl rfl (blk_cells (Ext.blk (Tr.ext hx_) (Ext.blk xd (Ext.blk x12 (Ext.blk (NewB.ext n9) (Ext.blk (NewB.ext n6) (NewB.blk n3)))))) 0 (cs := [.string a.p, .slice Aa0 a.args.length ca0]) rfl) (w0 rfl) ?_
        exact tl_done ⟨_, rfl, rfl, Ext.refl _⟩
      · refine ⟨_, rfl, ?_⟩
        refine s_call F_e7 (w0 rfl) ev_f (m1 (ev_t rfl (Tr.g hx_ 0 (by decide)))) (args := #[.agg #[.string a.p, .slice Aa0 a.args.length ca0]]) rfl (l_TwinAtom a Aa0 ca0 _ hoa0 (Row.extT (Row.extT (Row.extT (Row.extT (Row.extT (Row.extT hra0 (NewB.ext n3)) (NewB.ext n6)) (NewB.ext n9)) x12) xd) (Tr.ext hx_)) (Tabs.ext tb (Ext.trans (Ext.trans (Ext.trans (Ext.trans (Ext.trans (NewB.ext n3) (NewB.ext n6)) (NewB.ext n9)) x12) xd) (Tr.ext hx_)))) ?_
        rintro _ w15 ⟨b14, rfl, tw16, x17⟩
        have okt18 : (a).okc (a.args.length + 1) := ⟨At.okc.p hoa0, Nat.le_succ _, At.okc.c hoa0⟩
        exact tl_done ⟨_, rfl, ⟨b14, rfl, tw16⟩, x17⟩
      · refine ⟨_, rfl, ?_⟩
        refine s_loadL (cs := [.int .i8 x.k, .string x.a.p, .slice Aa x.a.args.length ca, .int .i8 x.r, .int .i8 x.e1.op, .string x.e1.t.v, .int .i8 x.e1.t.l.k, .int .i64 x.e1.t.l.n, .string x.e1.t.l.s, .slice A1 x.e1.kids.length c1, .int .i8 x.e2.op, .string x.e2.t.v, .int .i8 x.e2.t.l.k, .int .i64 x.e2.t.l.n, .string x.e2.t.l.s, .slice A2 x.e2.kids.length c2]) (ca := #[.int .i8 x.k, .string x.a.p, .slice Aa x.a.args.length ca, .int .i8 x.r, .int .i8 x.e1.op, .string x.e1.t.v, .int .i8 x.e1.t.l.k, .int .i64 x.e1.t.l.n, .string x.e1.t.l.s, .slice A1 x.e1.kids.length c1, .int .i8 x.e2.op, .string x.e2.t.v, .int .i8 x.e2.t.l.k, .int .i64 x.e2.t.l.n, .string x.e2.t.l.s, .slice A2 x.e2.kids.length c2]) F_m38 (ev_t rfl ((Tr.env hx_ 3 (by decide)).trans rfl)) rfl rfl (blk_cells (Ext.blk (Tr.ext hx_) (Ext.blk xd (Ext.blk x12 (Ext.blk (NewB.ext n9) (NewB.blk n6))))) 0 (cs := [.int .i8 x.k, .string x.a.p, .slice Aa x.a.args.length ca, .int .i8 x.r, .int .i8 x.e1.op, .string x.e1.t.v, .int .i8 x.e1.t.l.k, .int .i64 x.e1.t.l.n, .string x.e1.t.l.s, .slice A1 x.e1.kids.length c1, .int .i8 x.e2.op, .string x.e2.t.v, .int .i8 x.e2.t.l.k, .int .i64 x.e2.t.l.n, .string x.e2.t.l.s, .slice A2 x.e2.kids.length c2]) rfl) (w0 rfl) ?_
        exact tl_done ⟨_, rfl, rfl, Ext.refl _⟩
      · refine ⟨_, rfl, ?_⟩
        refine s_call F_e8 (w0 rfl) ev_f (m1 (ev_t rfl (Tr.g hx_ 2 (by decide)))) (args := #[.agg #[.int .i8 x.k, .string x.a.p, .slice Aa x.a.args.length ca, .int .i8 x.r, .int .i8 x.e1.op, .string x.e1.t.v, .int .i8 x.e1.t.l.k, .int .i64 x.e1.t.l.n, .string x.e1.t.l.s, .slice A1 x.e1.kids.length c1, .int .i8 x.e2.op, .string x.e2.t.v, .int .i8 x.e2.t.l.k, .int .i64 x.e2.t.l.n, .string x.e2.t.l.s, .slice A2 x.e2.kids.length c2]]) rfl (l_TwinLiteral x Aa A1 A2 ca c1 c2 _ ho (Row.extT (Row.extT (Row.extT (Row.extT (Row.extT (Row.extT hra (NewB.ext n3)) (NewB.ext n6)) (NewB.ext n9)) x12) xd) (Tr.ext hx_)) (Row.extE (Row.extE (Row.extE (Row.extE (Row.extE (Row.extE hr1 (NewB.ext n3)) (NewB.ext n6)) (NewB.ext n9)) x12) xd) (Tr.ext hx_)) (Row.extE (Row.extE (Row.extE (Row.extE (Row.extE (Row.extE hr2 (NewB.ext n3)) (NewB.ext n6)) (NewB.ext n9)) x12) xd) (Tr.ext hx_)) (Tabs.ext tb (Ext.trans (Ext.trans (Ext.trans (Ext.trans (Ext.trans (NewB.ext n3) (NewB.ext n6)) (NewB.ext n9)) x12) xd) (Tr.ext hx_)))) ?_
        rintro _ w22 ⟨b19, b20, b21, rfl, tw24, tw25, tw26, x23⟩
        have okt27 : Lt.okc x (x.a.args.length + 1) (x.e1.kids.length + 1) (x.e2.kids.length + 1) := Lt.okc.twin ho
        have q28_a := Lt.okc.a okt27
        have q28_e1 := Lt.okc.e1 okt27
        have q28_e2 := Lt.okc.e2 okt27
        have := Ex.okc.l q28_e1
        have := Ex.okc.l q28_e2
        have := Ex.okc.c q28_e1
        have := Ex.okc.c q28_e2
        have := At.okc.l q28_a
        have := At.okc.c q28_a
        have := At.okc.p q28_a
        exact tl_done ⟨_, rfl, ⟨b19, b20, b21, rfl, tw24, tw25, tw26⟩, x23⟩
      · refine ⟨_, rfl, ?_⟩
        refine s_alloc (cs := #[.string (⟨#[]⟩ : ByteArray), .slice none 0 0]) (w0 rfl) F_z24 rfl ?_
        intro w30 g29 n31
        exact tl_done ⟨_, rfl, ⟨g29, rfl, n31⟩, (NewB.ext n31)⟩
      · refine ⟨_, rfl, ?_⟩
        refine s_alloc (cs := #[.int .i8 0, .string (⟨#[]⟩ : ByteArray), .slice none 0 0, .int .i8 0, .int .i8 0, .string (⟨#[]⟩ : ByteArray), .int .i8 0, .int .i64 0, .string (⟨#[]⟩ : ByteArray), .slice none 0 0, .int .i8 0, .string (⟨#[]⟩ : ByteArray), .int .i8 0, .int .i64 0, .string (⟨#[]⟩ : ByteArray), .slice none 0 0]) (w0 rfl) F_z38 rfl ?_
        intro w33 g32 n34
        exact tl_done ⟨_, rfl, ⟨g32, rfl, n34⟩, (NewB.ext n34)⟩
    · intro wd xd env_ B_ A_ w_ hx_
      obtain ⟨ab, e1_, twA_⟩ := Tr.g hx_ 1 (by decide)
      obtain ⟨ba, b1, b2, e3_, twa_, tw1_, tw2_⟩ := Tr.g hx_ 3 (by decide)
      obtain ⟨gA4, e4_, n4_⟩ := Tr.g hx_ 4 (by decide)
      obtain ⟨gA5, e5_, n5_⟩ := Tr.g hx_ 5 (by decide)
      replace e1_ : env_ 17 = _ := e1_
      replace e3_ : env_ 19 = _ := e3_
      replace e4_ : env_ 5 = _ := e4_
      replace e5_ : env_ 6 = _ := e5_
      have ge_gA4 : w.heap.size ≤ gA4 := by have a_ := NewB.eq n4_; have b_ := Keep.size (Ext.trans (Ext.trans (Ext.trans (Ext.trans (Ext.trans (NewB.ext n3) (NewB.ext n6)) (NewB.ext n9)) x12) xd) (Tr.x0 hx_ 4 (by decide))); omega
      have o14_ : gA4 < (B_ 1).heap.size ∨ (A_ 1).heap.size ≤ gA4 := by have a_ := NewB.eq n4_; have s_ := NewB.size n4_; rcases Tr.ap hx_ 1 4 (by decide) (by decide) (by decide) with h_ | h_ <;> (have c_ := Keep.size h_; omega)
      have o34_ : gA4 < (B_ 3).heap.size ∨ (A_ 3).heap.size ≤ gA4 := by have a_ := NewB.eq n4_; have s_ := NewB.size n4_; rcases Tr.ap hx_ 3 4 (by decide) (by decide) (by decide) with h_ | h_ <;> (have c_ := Keep.size h_; omega)
      have ge_gA5 : w.heap.size ≤ gA5 := by have a_ := NewB.eq n5_; have b_ := Keep.size (Ext.trans (Ext.trans (Ext.trans (Ext.trans (Ext.trans (NewB.ext n3) (NewB.ext n6)) (NewB.ext n9)) x12) xd) (Tr.x0 hx_ 5 (by decide))); omega
      have o15_ : gA5 < (B_ 1).heap.size ∨ (A_ 1).heap.size ≤ gA5 := by have a_ := NewB.eq n5_; have s_ := NewB.size n5_; rcases Tr.ap hx_ 1 5 (by decide) (by decide) (by decide) with h_ | h_ <;> (have c_ := Keep.size h_; omega)
      have o35_ : gA5 < (B_ 3).heap.size ∨ (A_ 3).heap.size ≤ gA5 := by have a_ := NewB.eq n5_; have s_ := NewB.size n5_; rcases Tr.ap hx_ 3 5 (by decide) (by decide) (by decide) with h_ | h_ <;> (have c_ := Keep.size h_; omega)
      have ne45_ : ¬ gA4 = gA5 := by have a_ := NewB.eq n4_; have s_ := NewB.size n4_; have a2_ := NewB.eq n5_; have s2_ := NewB.size n5_; rcases Tr.ap hx_ 4 5 (by decide) (by decide) (by decide) with h_ | h_ <;> (have c_ := Keep.size h_; omega)
      refine tl_cons ?_
      refine s_store (cs' := #[.string a.p, .slice (some ⟨ab, 0, none⟩) a.args.length (a.args.length + 1)]) F_sz24 (ev_t rfl e4_) (ev_t rfl e1_) (l := [.string a.p, .slice (some ⟨ab, 0, none⟩) a.args.length (a.args.length + 1)]) rfl rfl rfl (Ext.blk (Tr.x2 hx_ 4 (by decide)) (NewB.blk n4_)) (Nat.le_of_ble_eq_true rfl) rfl (w0 rfl) ?_
      intro w35 k36
      refine tl_done ⟨trivial, ?_⟩
      refine tl_cons ?_
      refine s_store (cs' := #[.int .i8 x.k, .string x.a.p, .slice (some ⟨ba, 0, none⟩) x.a.args.length (x.a.args.length + 1), .int .i8 x.r, .int .i8 x.e1.op, .string x.e1.t.v, .int .i8 x.e1.t.l.k, .int .i64 x.e1.t.l.n, .string x.e1.t.l.s, .slice (some ⟨b1, 0, none⟩) x.e1.kids.length (x.e1.kids.length + 1), .int .i8 x.e2.op, .string x.e2.t.v, .int .i8 x.e2.t.l.k, .int .i64 x.e2.t.l.n, .string x.e2.t.l.s, .slice (some ⟨b2, 0, none⟩) x.e2.kids.length (x.e2.kids.length + 1)]) F_sz38 (ev_t rfl e5_) (ev_t rfl e3_) (l := [.int .i8 x.k, .string x.a.p, .slice (some ⟨ba, 0, none⟩) x.a.args.length (x.a.args.length + 1), .int .i8 x.r, .int .i8 x.e1.op, .string x.e1.t.v, .int .i8 x.e1.t.l.k, .int .i64 x.e1.t.l.n, .string x.e1.t.l.s, .slice (some ⟨b1, 0, none⟩) x.e1.kids.length (x.e1.kids.length + 1), .int .i8 x.e2.op, .string x.e2.t.v, .int .i8 x.e2.t.l.k, .int .i64 x.e2.t.l.n, .string x.e2.t.l.s, .slice (some ⟨b2, 0, none⟩) x.e2.kids.length (x.e2.kids.length + 1)]) rfl rfl rfl (Keep.blk (Wrote.keep k36) (Ext.blk (Tr.x2 hx_ 5 (by decide)) (NewB.blk n5_)) (fun e_ => ne45_ e_.symm)) (Nat.le_of_ble_eq_true rfl) rfl (w0 rfl) ?_
      intro w37 k38
      refine tl_done ⟨trivial, ?_⟩
      refine tl_nil ?_
      have twA7 : TwG QT markT 4 (B_ 1).heap.size w37 ab a.args := TwG.keepT2 twA_ (two_stores (Tr.x2 hx_ 1 (by decide)) (Wrote.keep k36) (Wrote.keep k38)) (fun i_ h_ => h_.elim (fun e_ => e_ ▸ o14_) (fun e_ => e_ ▸ o15_))
      have twa7 : TwG QT markT 4 (B_ 3).heap.size w37 ba x.a.args := TwG.keepT2 twa_ (two_stores (Tr.x2 hx_ 3 (by decide)) (Wrote.keep k36) (Wrote.keep k38)) (fun i_ h_ => h_.elim (fun e_ => e_ ▸ o34_) (fun e_ => e_ ▸ o35_))
      have tw17 : TwE (B_ 3).heap.size w37 b1 x.e1.kids := TwE.keep2 tw1_ (two_stores (Tr.x2 hx_ 3 (by decide)) (Wrote.keep k36) (Wrote.keep k38)) (fun i_ h_ => h_.elim (fun e_ => e_ ▸ o34_) (fun e_ => e_ ▸ o35_))
      have tw27 : TwE (B_ 3).heap.size w37 b2 x.e2.kids := TwE.keep2 tw2_ (two_stores (Tr.x2 hx_ 3 (by decide)) (Wrote.keep k36) (Wrote.keep k38)) (fun i_ h_ => h_.elim (fun e_ => e_ ▸ o34_) (fun e_ => e_ ▸ o35_))
      have okta_ : a.okc (a.args.length + 1) := ⟨At.okc.p hoa0, Nat.le_succ _, At.okc.c hoa0⟩
      have okt39 : Lt.okc x (x.a.args.length + 1) (x.e1.kids.length + 1) (x.e2.kids.length + 1) := Lt.okc.twin ho
      have q40_a := Lt.okc.a okt39
      have q40_e1 := Lt.okc.e1 okt39
      have q40_e2 := Lt.okc.e2 okt39
      have := Ex.okc.l q40_e1
      have := Ex.okc.l q40_e2
      have := Ex.okc.c q40_e1
      have := Ex.okc.c q40_e2
      have := At.okc.l q40_a
      have := At.okc.c q40_a
      have := At.okc.p q40_a
      refine n_then (c_seq (c_reg ?_))
      refine s_loadL (cs := [.string a.p, .slice Aa0 a.args.length ca0]) (ca := #[.string a.p, .slice Aa0 a.args.length ca0]) F_m24 (ev_t rfl ((Tr.env hx_ 2 (by decide)).trans rfl)) rfl rfl (blk_cells (Keep.blk (Wrote.keep k38) (Keep.blk (Wrote.keep k36) (Ext.blk (Tr.ext hx_) (Ext.blk xd (Ext.blk x12 (Ext.blk (NewB.ext n9) (Ext.blk (NewB.ext n6) (NewB.blk n3)))))) (by have a_ := NewB.eq n4_; have b_ := lt_of_blk (Ext.blk x12 (Ext.blk (NewB.ext n9) (Ext.blk (NewB.ext n6) (NewB.blk n3)))); have c_ := Keep.size (Ext.trans xd (Tr.x0 hx_ 4 (by decide))); omega)) (by have a_ := NewB.eq n5_; have b_ := lt_of_blk (Ext.blk x12 (Ext.blk (NewB.ext n9) (Ext.blk (NewB.ext n6) (NewB.blk n3)))); have c_ := Keep.size (Ext.trans xd (Tr.x0 hx_ 5 (by decide))); omega)) 0 (cs := [.string a.p, .slice Aa0 a.args.length ca0]) rfl) (w0 rfl) ?_
      refine s_call F_e9 (w0 rfl) ev_f (m1 (ev_t rfl rfl)) (args := #[.agg #[.string a.p, .slice Aa0 a.args.length ca0]]) rfl (r6_Atom a Aa0 ca0 _ hoa0 (Row.extT hra0 (Keep.then_ (Keep.then_ (Ext.trans (Ext.trans (Ext.trans (Ext.trans (Ext.trans (NewB.ext n3) (NewB.ext n6)) (NewB.ext n9)) x12) xd) (Tr.ext hx_)) (Wrote.keep k36) (fun i_ hi_ h_ => by have a_ := ge_gA4; omega)) (Wrote.keep k38) (fun i_ hi_ h_ => by have a_ := ge_gA5; omega)))) ?_
      rintro _ w42 ⟨rfl, x41⟩
      refine s_move (v := .tuple #[.string (if atB a then atW a else ⟨#[]⟩), .int .i64 (code (atB a))]) (ev_t rfl rfl) (w0 rfl) ?_
      refine s_extract (v := .string (if atB a then atW a else ⟨#[]⟩)) (ev_t rfl rfl) rfl (w0 rfl) ?_
      refine s_extract (v := .int .i64 (code (atB a))) (ev_t rfl rfl) rfl (w0 rfl) ?_
      refine s_assign (v := .string (if atB a then atW a else ⟨#[]⟩)) (ev_t rfl rfl) (w0 rfl) ?_
      refine s_assign (v := .int .i64 (code (atB a))) (ev_t rfl rfl) (w0 rfl) ?_
      refine c_done (n_then (c_seq (c_reg ?_)))
      refine s_loadL (cs := [.string a.p, .slice (some ⟨ab, 0, none⟩) a.args.length (a.args.length + 1)]) (ca := #[.string a.p, .slice (some ⟨ab, 0, none⟩) a.args.length (a.args.length + 1)]) F_m24 (ev_t rfl e4_) rfl rfl (blk_cells (Ext.blk x41 (Keep.blk (Wrote.keep k38) (Wrote.blk k36) ne45_)) 0 (cs := [.string a.p, .slice (some ⟨ab, 0, none⟩) a.args.length (a.args.length + 1)]) rfl) (w0 rfl) ?_
      refine s_call F_e10 (w0 rfl) ev_f (m1 (ev_t rfl rfl)) (args := #[.agg #[.string a.p, .slice (some ⟨ab, 0, none⟩) a.args.length (a.args.length + 1)]]) rfl (p_Atom a (some ⟨ab, 0, none⟩) (a.args.length + 1) _ okta_ (Row.extT (TwG.rowsT twA7) x41) (Tabs.ext tb (Ext.trans (Keep.then_ (Keep.then_ (Ext.trans (Ext.trans (Ext.trans (Ext.trans (Ext.trans (NewB.ext n3) (NewB.ext n6)) (NewB.ext n9)) x12) xd) (Tr.ext hx_)) (Wrote.keep k36) (fun i_ hi_ h_ => by have a_ := ge_gA4; omega)) (Wrote.keep k38) (fun i_ hi_ h_ => by have a_ := ge_gA5; omega)) x41))) ?_
      rintro _ w44 ⟨rfl, x43⟩
      refine s_move (v := .tuple #[.string (if atB a then atW a else ⟨#[]⟩), .int .i64 (code (atB a))]) (ev_t rfl rfl) (w0 rfl) ?_
      refine s_extract (v := .string (if atB a then atW a else ⟨#[]⟩)) (ev_t rfl rfl) rfl (w0 rfl) ?_
      refine s_extract (v := .int .i64 (code (atB a))) (ev_t rfl rfl) rfl (w0 rfl) ?_
      refine s_assign (v := .string (if atB a then atW a else ⟨#[]⟩)) (ev_t rfl rfl) (w0 rfl) ?_
      refine s_assign (v := .int .i64 (code (atB a))) (ev_t rfl rfl) (w0 rfl) ?_
      refine c_done (n_then (c_seq (c_seq (c_reg ?_))))
      refine s_move (v := .string (if atB a then atW a else ⟨#[]⟩)) (ev_t rfl rfl) (w0 rfl) ?_
      refine s_move (v := .string (if atB a then atW a else ⟨#[]⟩)) (ev_t rfl rfl) (w0 rfl) ?_
      refine s_cmpS (r := false) (ev_t rfl rfl) (ev_t rfl rfl) (cmpS_selfn _) (w0 rfl) ?_
      refine s_move (v := .bool false) (ev_t rfl rfl) (w0 rfl) ?_
      refine s_move (v := .int .i64 (code (atB a))) (ev_t rfl rfl) (wy rfl rfl rfl rfl) ?_
      refine s_move (v := .int .i64 (code (atB a))) (ev_t rfl rfl) (wy rfl rfl rfl rfl) ?_
      refine s_cmp (r := false) (ev_t rfl rfl) (ev_t rfl rfl) (cmpI_selfn _) (wy rfl rfl rfl rfl) ?_
      refine s_pick0 (v := .bool false) (ev_t rfl rfl) (ev_t rfl rfl) (w0 rfl) ?_
      refine c_done (n_then ?_)
      refine c_cond0 (ev_t rfl rfl) ?_
      refine c_skip (n_then (c_seq (c_reg ?_)))
      refine s_loadL (cs := [.string a.p, .slice Aa0 a.args.length ca0]) (ca := #[.string a.p, .slice Aa0 a.args.length ca0]) F_m24 (ev_t rfl ((Tr.env hx_ 2 (by decide)).trans rfl)) rfl rfl (blk_cells (Ext.blk x43 (Ext.blk x41 (Keep.blk (Wrote.keep k38) (Keep.blk (Wrote.keep k36) (Ext.blk (Tr.ext hx_) (Ext.blk xd (Ext.blk x12 (Ext.blk (NewB.ext n9) (Ext.blk (NewB.ext n6) (NewB.blk n3)))))) (by have a_ := NewB.eq n4_; have b_ := lt_of_blk (Ext.blk x12 (Ext.blk (NewB.ext n9) (Ext.blk (NewB.ext n6) (NewB.blk n3)))); have c_ := Keep.size (Ext.trans xd (Tr.x0 hx_ 4 (by decide))); omega)) (by have a_ := NewB.eq n5_; have b_ := lt_of_blk (Ext.blk x12 (Ext.blk (NewB.ext n9) (Ext.blk (NewB.ext n6) (NewB.blk n3)))); have c_ := Keep.size (Ext.trans xd (Tr.x0 hx_ 5 (by decide))); omega)))) 0 (cs := [.string a.p, .slice Aa0 a.args.length ca0]) rfl) (w0 rfl) ?_
      refine s_call F_e11 (w0 rfl) ev_f (m1 (ev_t rfl rfl)) (args := #[.agg #[.string a.p, .slice Aa0 a.args.length ca0]]) rfl (r6_Query a Aa0 ca0 _ hoa0 (Row.extT hra0 (Ext.trans (Ext.trans (Keep.then_ (Keep.then_ (Ext.trans (Ext.trans (Ext.trans (Ext.trans (Ext.trans (NewB.ext n3) (NewB.ext n6)) (NewB.ext n9)) x12) xd) (Tr.ext hx_)) (Wrote.keep k36) (fun i_ hi_ h_ => by have a_ := ge_gA4; omega)) (Wrote.keep k38) (fun i_ hi_ h_ => by have a_ := ge_gA5; omega)) x41) x43))) ?_
      rintro _ w46 ⟨rfl, x45⟩
      refine s_move (v := .tuple #[.string (if atB a then atW a ++ ⟨#[63]⟩ else ⟨#[]⟩), .int .i64 (code (atB a))]) (ev_t rfl rfl) (w0 rfl) ?_
      refine s_extract (v := .string (if atB a then atW a ++ ⟨#[63]⟩ else ⟨#[]⟩)) (ev_t rfl rfl) rfl (w0 rfl) ?_
      refine s_extract (v := .int .i64 (code (atB a))) (ev_t rfl rfl) rfl (w0 rfl) ?_
      refine s_assign (v := .string (if atB a then atW a ++ ⟨#[63]⟩ else ⟨#[]⟩)) (ev_t rfl rfl) (w0 rfl) ?_
      refine s_assign (v := .int .i64 (code (atB a))) (ev_t rfl rfl) (w0 rfl) ?_
      refine c_done (n_then (c_seq (c_reg ?_)))
      refine s_loadL (cs := [.string a.p, .slice (some ⟨ab, 0, none⟩) a.args.length (a.args.length + 1)]) (ca := #[.string a.p, .slice (some ⟨ab, 0, none⟩) a.args.length (a.args.length + 1)]) F_m24 (ev_t rfl e4_) rfl rfl (blk_cells (Ext.blk x45 (Ext.blk x43 (Ext.blk x41 (Keep.blk (Wrote.keep k38) (Wrote.blk k36) ne45_)))) 0 (cs := [.string a.p, .slice (some ⟨ab, 0, none⟩) a.args.length (a.args.length + 1)]) rfl) (w0 rfl) ?_
      refine s_call F_e12 (w0 rfl) ev_f (m1 (ev_t rfl rfl)) (args := #[.agg #[.string a.p, .slice (some ⟨ab, 0, none⟩) a.args.length (a.args.length + 1)]]) rfl (p_Query a (some ⟨ab, 0, none⟩) (a.args.length + 1) _ okta_ (Row.extT (Row.extT (Row.extT (TwG.rowsT twA7) x41) x43) x45) (Tabs.ext tb (Ext.trans (Ext.trans (Ext.trans (Keep.then_ (Keep.then_ (Ext.trans (Ext.trans (Ext.trans (Ext.trans (Ext.trans (NewB.ext n3) (NewB.ext n6)) (NewB.ext n9)) x12) xd) (Tr.ext hx_)) (Wrote.keep k36) (fun i_ hi_ h_ => by have a_ := ge_gA4; omega)) (Wrote.keep k38) (fun i_ hi_ h_ => by have a_ := ge_gA5; omega)) x41) x43) x45))) ?_
      rintro _ w48 ⟨rfl, x47⟩
      refine s_move (v := .tuple #[.string (if atB a then atW a ++ ⟨#[63]⟩ else ⟨#[]⟩), .int .i64 (code (atB a))]) (ev_t rfl rfl) (w0 rfl) ?_
      refine s_extract (v := .string (if atB a then atW a ++ ⟨#[63]⟩ else ⟨#[]⟩)) (ev_t rfl rfl) rfl (w0 rfl) ?_
      refine s_extract (v := .int .i64 (code (atB a))) (ev_t rfl rfl) rfl (w0 rfl) ?_
      refine s_assign (v := .string (if atB a then atW a ++ ⟨#[63]⟩ else ⟨#[]⟩)) (ev_t rfl rfl) (w0 rfl) ?_
      refine s_assign (v := .int .i64 (code (atB a))) (ev_t rfl rfl) (w0 rfl) ?_
      refine c_done (n_then (c_seq (c_seq (c_reg ?_))))
      refine s_move (v := .string (if atB a then atW a ++ ⟨#[63]⟩ else ⟨#[]⟩)) (ev_t rfl rfl) (w0 rfl) ?_
      refine s_move (v := .string (if atB a then atW a ++ ⟨#[63]⟩ else ⟨#[]⟩)) (ev_t rfl rfl) (w0 rfl) ?_
      refine s_cmpS (r := false) (ev_t rfl rfl) (ev_t rfl rfl) (cmpS_selfn _) (w0 rfl) ?_
      refine s_move (v := .bool false) (ev_t rfl rfl) (w0 rfl) ?_
      refine s_move (v := .int .i64 (code (atB a))) (ev_t rfl rfl) (wy rfl rfl rfl rfl) ?_
      refine s_move (v := .int .i64 (code (atB a))) (ev_t rfl rfl) (wy rfl rfl rfl rfl) ?_
      refine s_cmp (r := false) (ev_t rfl rfl) (ev_t rfl rfl) (cmpI_selfn _) (wy rfl rfl rfl rfl) ?_
      refine s_pick0 (v := .bool false) (ev_t rfl rfl) (ev_t rfl rfl) (w0 rfl) ?_
      refine c_done (n_then ?_)
      refine c_cond0 (ev_t rfl rfl) ?_
      refine c_skip (n_then (c_seq (c_reg ?_)))
      refine s_loadL (cs := [.int .i8 x.k, .string x.a.p, .slice Aa x.a.args.length ca, .int .i8 x.r, .int .i8 x.e1.op, .string x.e1.t.v, .int .i8 x.e1.t.l.k, .int .i64 x.e1.t.l.n, .string x.e1.t.l.s, .slice A1 x.e1.kids.length c1, .int .i8 x.e2.op, .string x.e2.t.v, .int .i8 x.e2.t.l.k, .int .i64 x.e2.t.l.n, .string x.e2.t.l.s, .slice A2 x.e2.kids.length c2]) (ca := #[.int .i8 x.k, .string x.a.p, .slice Aa x.a.args.length ca, .int .i8 x.r, .int .i8 x.e1.op, .string x.e1.t.v, .int .i8 x.e1.t.l.k, .int .i64 x.e1.t.l.n, .string x.e1.t.l.s, .slice A1 x.e1.kids.length c1, .int .i8 x.e2.op, .string x.e2.t.v, .int .i8 x.e2.t.l.k, .int .i64 x.e2.t.l.n, .string x.e2.t.l.s, .slice A2 x.e2.kids.length c2]) F_m38 (ev_t rfl ((Tr.env hx_ 3 (by decide)).trans rfl)) rfl rfl (blk_cells (Ext.blk x47 (Ext.blk x45 (Ext.blk x43 (Ext.blk x41 (Keep.blk (Wrote.keep k38) (Keep.blk (Wrote.keep k36) (Ext.blk (Tr.ext hx_) (Ext.blk xd (Ext.blk x12 (Ext.blk (NewB.ext n9) (NewB.blk n6))))) (by have a_ := NewB.eq n4_; have b_ := lt_of_blk (Ext.blk x12 (Ext.blk (NewB.ext n9) (NewB.blk n6))); have c_ := Keep.size (Ext.trans xd (Tr.x0 hx_ 4 (by decide))); omega)) (by have a_ := NewB.eq n5_; have b_ := lt_of_blk (Ext.blk x12 (Ext.blk (NewB.ext n9) (NewB.blk n6))); have c_ := Keep.size (Ext.trans xd (Tr.x0 hx_ 5 (by decide))); omega)))))) 0 (cs := [.int .i8 x.k, .string x.a.p, .slice Aa x.a.args.length ca, .int .i8 x.r, .int .i8 x.e1.op, .string x.e1.t.v, .int .i8 x.e1.t.l.k, .int .i64 x.e1.t.l.n, .string x.e1.t.l.s, .slice A1 x.e1.kids.length c1, .int .i8 x.e2.op, .string x.e2.t.v, .int .i8 x.e2.t.l.k, .int .i64 x.e2.t.l.n, .string x.e2.t.l.s, .slice A2 x.e2.kids.length c2]) rfl) (w0 rfl) ?_
      refine s_call F_e13 (w0 rfl) ev_f (m1 (ev_t rfl rfl)) (args := #[.agg #[.int .i8 x.k, .string x.a.p, .slice Aa x.a.args.length ca, .int .i8 x.r, .int .i8 x.e1.op, .string x.e1.t.v, .int .i8 x.e1.t.l.k, .int .i64 x.e1.t.l.n, .string x.e1.t.l.s, .slice A1 x.e1.kids.length c1, .int .i8 x.e2.op, .string x.e2.t.v, .int .i8 x.e2.t.l.k, .int .i64 x.e2.t.l.n, .string x.e2.t.l.s, .slice A2 x.e2.kids.length c2]]) rfl (r6_Literal x Aa A1 A2 ca c1 c2 _ ho (Row.extT hra (Ext.trans (Ext.trans (Ext.trans (Ext.trans (Keep.then_ (Keep.then_ (Ext.trans (Ext.trans (Ext.trans (Ext.trans (Ext.trans (NewB.ext n3) (NewB.ext n6)) (NewB.ext n9)) x12) xd) (Tr.ext hx_)) (Wrote.keep k36) (fun i_ hi_ h_ => by have a_ := ge_gA4; omega)) (Wrote.keep k38) (fun i_ hi_ h_ => by have a_ := ge_gA5; omega)) x41) x43) x45) x47)) (Row.extE hr1 (Ext.trans (Ext.trans (Ext.trans (Ext.trans (Keep.then_ (Keep.then_ (Ext.trans (Ext.trans (Ext.trans (Ext.trans (Ext.trans (NewB.ext n3) (NewB.ext n6)) (NewB.ext n9)) x12) xd) (Tr.ext hx_)) (Wrote.keep k36) (fun i_ hi_ h_ => by have a_ := ge_gA4; omega)) (Wrote.keep k38) (fun i_ hi_ h_ => by have a_ := ge_gA5; omega)) x41) x43) x45) x47)) (Row.extE hr2 (Ext.trans (Ext.trans (Ext.trans (Ext.trans (Keep.then_ (Keep.then_ (Ext.trans (Ext.trans (Ext.trans (Ext.trans (Ext.trans (NewB.ext n3) (NewB.ext n6)) (NewB.ext n9)) x12) xd) (Tr.ext hx_)) (Wrote.keep k36) (fun i_ hi_ h_ => by have a_ := ge_gA4; omega)) (Wrote.keep k38) (fun i_ hi_ h_ => by have a_ := ge_gA5; omega)) x41) x43) x45) x47))) ?_
      rintro _ w50 ⟨rfl, x49⟩
      refine s_move (v := .tuple #[.string (if ltB x then ltW x else ⟨#[]⟩), .int .i64 (code (ltB x))]) (ev_t rfl rfl) (w0 rfl) ?_
      refine s_extract (v := .string (if ltB x then ltW x else ⟨#[]⟩)) (ev_t rfl rfl) rfl (w0 rfl) ?_
      refine s_extract (v := .int .i64 (code (ltB x))) (ev_t rfl rfl) rfl (w0 rfl) ?_
      refine s_assign (v := .string (if ltB x then ltW x else ⟨#[]⟩)) (ev_t rfl rfl) (w0 rfl) ?_
      refine s_assign (v := .int .i64 (code (ltB x))) (ev_t rfl rfl) (w0 rfl) ?_
      refine c_done (n_then (c_seq (c_reg ?_)))
      refine s_loadL (cs := [.int .i8 x.k, .string x.a.p, .slice (some ⟨ba, 0, none⟩) x.a.args.length (x.a.args.length + 1), .int .i8 x.r, .int .i8 x.e1.op, .string x.e1.t.v, .int .i8 x.e1.t.l.k, .int .i64 x.e1.t.l.n, .string x.e1.t.l.s, .slice (some ⟨b1, 0, none⟩) x.e1.kids.length (x.e1.kids.length + 1), .int .i8 x.e2.op, .string x.e2.t.v, .int .i8 x.e2.t.l.k, .int .i64 x.e2.t.l.n, .string x.e2.t.l.s, .slice (some ⟨b2, 0, none⟩) x.e2.kids.length (x.e2.kids.length + 1)]) (ca := #[.int .i8 x.k, .string x.a.p, .slice (some ⟨ba, 0, none⟩) x.a.args.length (x.a.args.length + 1), .int .i8 x.r, .int .i8 x.e1.op, .string x.e1.t.v, .int .i8 x.e1.t.l.k, .int .i64 x.e1.t.l.n, .string x.e1.t.l.s, .slice (some ⟨b1, 0, none⟩) x.e1.kids.length (x.e1.kids.length + 1), .int .i8 x.e2.op, .string x.e2.t.v, .int .i8 x.e2.t.l.k, .int .i64 x.e2.t.l.n, .string x.e2.t.l.s, .slice (some ⟨b2, 0, none⟩) x.e2.kids.length (x.e2.kids.length + 1)]) F_m38 (ev_t rfl e5_) rfl rfl (blk_cells (Ext.blk x49 (Ext.blk x47 (Ext.blk x45 (Ext.blk x43 (Ext.blk x41 (Wrote.blk k38)))))) 0 (cs := [.int .i8 x.k, .string x.a.p, .slice (some ⟨ba, 0, none⟩) x.a.args.length (x.a.args.length + 1), .int .i8 x.r, .int .i8 x.e1.op, .string x.e1.t.v, .int .i8 x.e1.t.l.k, .int .i64 x.e1.t.l.n, .string x.e1.t.l.s, .slice (some ⟨b1, 0, none⟩) x.e1.kids.length (x.e1.kids.length + 1), .int .i8 x.e2.op, .string x.e2.t.v, .int .i8 x.e2.t.l.k, .int .i64 x.e2.t.l.n, .string x.e2.t.l.s, .slice (some ⟨b2, 0, none⟩) x.e2.kids.length (x.e2.kids.length + 1)]) rfl) (w0 rfl) ?_
      refine s_call F_e14 (w0 rfl) ev_f (m1 (ev_t rfl rfl)) (args := #[.agg #[.int .i8 x.k, .string x.a.p, .slice (some ⟨ba, 0, none⟩) x.a.args.length (x.a.args.length + 1), .int .i8 x.r, .int .i8 x.e1.op, .string x.e1.t.v, .int .i8 x.e1.t.l.k, .int .i64 x.e1.t.l.n, .string x.e1.t.l.s, .slice (some ⟨b1, 0, none⟩) x.e1.kids.length (x.e1.kids.length + 1), .int .i8 x.e2.op, .string x.e2.t.v, .int .i8 x.e2.t.l.k, .int .i64 x.e2.t.l.n, .string x.e2.t.l.s, .slice (some ⟨b2, 0, none⟩) x.e2.kids.length (x.e2.kids.length + 1)]]) rfl (p_Literal x (some ⟨ba, 0, none⟩) (some ⟨b1, 0, none⟩) (some ⟨b2, 0, none⟩) (x.a.args.length + 1) (x.e1.kids.length + 1) (x.e2.kids.length + 1) _ okt39 (Row.extT (Row.extT (Row.extT (Row.extT (Row.extT (TwG.rowsT twa7) x41) x43) x45) x47) x49) (Row.extE (Row.extE (Row.extE (Row.extE (Row.extE (TwE.rows tw17) x41) x43) x45) x47) x49) (Row.extE (Row.extE (Row.extE (Row.extE (Row.extE (TwE.rows tw27) x41) x43) x45) x47) x49) (Tabs.ext tb (Ext.trans (Ext.trans (Ext.trans (Ext.trans (Ext.trans (Keep.then_ (Keep.then_ (Ext.trans (Ext.trans (Ext.trans (Ext.trans (Ext.trans (NewB.ext n3) (NewB.ext n6)) (NewB.ext n9)) x12) xd) (Tr.ext hx_)) (Wrote.keep k36) (fun i_ hi_ h_ => by have a_ := ge_gA4; omega)) (Wrote.keep k38) (fun i_ hi_ h_ => by have a_ := ge_gA5; omega)) x41) x43) x45) x47) x49)) (RelT.ext tr (Ext.trans (Ext.trans (Ext.trans (Ext.trans (Ext.trans (Keep.then_ (Keep.then_ (Ext.trans (Ext.trans (Ext.trans (Ext.trans (Ext.trans (NewB.ext n3) (NewB.ext n6)) (NewB.ext n9)) x12) xd) (Tr.ext hx_)) (Wrote.keep k36) (fun i_ hi_ h_ => by have a_ := ge_gA4; omega)) (Wrote.keep k38) (fun i_ hi_ h_ => by have a_ := ge_gA5; omega)) x41) x43) x45) x47) x49))) ?_
      rintro _ w52 ⟨rfl, x51⟩
      refine s_move (v := .tuple #[.string (if ltB x then ltW x else ⟨#[]⟩), .int .i64 (code (ltB x))]) (ev_t rfl rfl) (w0 rfl) ?_
      refine s_extract (v := .string (if ltB x then ltW x else ⟨#[]⟩)) (ev_t rfl rfl) rfl (w0 rfl) ?_
      refine s_extract (v := .int .i64 (code (ltB x))) (ev_t rfl rfl) rfl (w0 rfl) ?_
      refine s_assign (v := .string (if ltB x then ltW x else ⟨#[]⟩)) (ev_t rfl rfl) (w0 rfl) ?_
      refine s_assign (v := .int .i64 (code (ltB x))) (ev_t rfl rfl) (w0 rfl) ?_
      refine c_done (n_then (c_seq (c_reg ?_)))
      refine s_move (v := .string (if ltB x then ltW x else ⟨#[]⟩)) (ev_t rfl rfl) (w0 rfl) ?_
      refine s_move (v := .string (if ltB x then ltW x else ⟨#[]⟩)) (ev_t rfl rfl) (w0 rfl) ?_
      refine s_cmpS (r := true) (ev_t rfl rfl) (ev_t rfl rfl) (cmpS_self _) (w0 rfl) ?_
      refine s_move (v := .bool true) (ev_t rfl rfl) (w0 rfl) ?_
      refine s_move (v := .int .i64 (code (ltB x))) (ev_t rfl rfl) (wy rfl rfl rfl rfl) ?_
      refine s_move (v := .int .i64 (code (ltB x))) (ev_t rfl rfl) (wy rfl rfl rfl rfl) ?_
      refine s_cmp (r := true) (ev_t rfl rfl) (ev_t rfl rfl) (cmpI_self _) (wy rfl rfl rfl rfl) ?_
      refine s_pick1 (v := .bool true) (ev_t rfl rfl) (ev_t rfl rfl) (w0 rfl) ?_
      refine s_move (v := .bool true) (ev_t rfl rfl) (w0 rfl) ?_
      refine s_loadL (cs := [.string a.p, .slice (some ⟨ab, 0, none⟩) a.args.length (a.args.length + 1)]) (ca := #[.string a.p, .slice (some ⟨ab, 0, none⟩) a.args.length (a.args.length + 1)]) F_m24 (ev_t rfl e4_) rfl rfl (blk_cells (Ext.blk x51 (Ext.blk x49 (Ext.blk x47 (Ext.blk x45 (Ext.blk x43 (Ext.blk x41 (Keep.blk (Wrote.keep k38) (Wrote.blk k36) ne45_))))))) 0 (cs := [.string a.p, .slice (some ⟨ab, 0, none⟩) a.args.length (a.args.length + 1)]) rfl) (wy rfl rfl rfl rfl) ?_
      refine s_loadL (cs := [.string a.p, .slice Aa0 a.args.length ca0]) (ca := #[.string a.p, .slice Aa0 a.args.length ca0]) F_m24 (ev_t rfl ((Tr.env hx_ 2 (by decide)).trans rfl)) rfl rfl (blk_cells (Ext.blk x51 (Ext.blk x49 (Ext.blk x47 (Ext.blk x45 (Ext.blk x43 (Ext.blk x41 (Keep.blk (Wrote.keep k38) (Keep.blk (Wrote.keep k36) (Ext.blk (Tr.ext hx_) (Ext.blk xd (Ext.blk x12 (Ext.blk (NewB.ext n9) (Ext.blk (NewB.ext n6) (NewB.blk n3)))))) (by have a_ := NewB.eq n4_; have b_ := lt_of_blk (Ext.blk x12 (Ext.blk (NewB.ext n9) (Ext.blk (NewB.ext n6) (NewB.blk n3)))); have c_ := Keep.size (Ext.trans xd (Tr.x0 hx_ 4 (by decide))); omega)) (by have a_ := NewB.eq n5_; have b_ := lt_of_blk (Ext.blk x12 (Ext.blk (NewB.ext n9) (Ext.blk (NewB.ext n6) (NewB.blk n3)))); have c_ := Keep.size (Ext.trans xd (Tr.x0 hx_ 5 (by decide))); omega)))))))) 0 (cs := [.string a.p, .slice Aa0 a.args.length ca0]) rfl) (wy rfl rfl rfl rfl) ?_
      refine s_call F_e15 (wy rfl rfl rfl rfl) ev_f (m2 (ev_t rfl rfl) (ev_t rfl rfl)) (args := #[.agg #[.string a.p, .slice (some ⟨ab, 0, none⟩) a.args.length (a.args.length + 1)], .agg #[.string a.p, .slice Aa0 a.args.length ca0]]) rfl (l_LeftAtom a Aa0 ca0 ab _ _ hoa0 (Row.extT hra0 (Ext.trans (Ext.trans (Ext.trans (Ext.trans (Ext.trans (Ext.trans (Keep.then_ (Keep.then_ (Ext.trans (Ext.trans (Ext.trans (Ext.trans (Ext.trans (NewB.ext n3) (NewB.ext n6)) (NewB.ext n9)) x12) xd) (Tr.ext hx_)) (Wrote.keep k36) (fun i_ hi_ h_ => by have a_ := ge_gA4; omega)) (Wrote.keep k38) (fun i_ hi_ h_ => by have a_ := ge_gA5; omega)) x41) x43) x45) x47) x49) x51)) (TwG.ext okT (TwG.ext okT (TwG.ext okT (TwG.ext okT (TwG.ext okT (TwG.ext okT twA7 x41) x43) x45) x47) x49) x51) (Tabs.ext tb (Ext.trans (Ext.trans (Ext.trans (Ext.trans (Ext.trans (Ext.trans (Keep.then_ (Keep.then_ (Ext.trans (Ext.trans (Ext.trans (Ext.trans (Ext.trans (NewB.ext n3) (NewB.ext n6)) (NewB.ext n9)) x12) xd) (Tr.ext hx_)) (Wrote.keep k36) (fun i_ hi_ h_ => by have a_ := ge_gA4; omega)) (Wrote.keep k38) (fun i_ hi_ h_ => by have a_ := ge_gA5; omega)) x41) x43) x45) x47) x49) x51))) ?_
      rintro _ w54 ⟨rfl, x53⟩
      refine s_pick1 (v := .bool true) (ev_t rfl rfl) (ev_t rfl rfl) (w0 rfl) ?_
      refine s_move (v := .bool true) (ev_t rfl rfl) (w0 rfl) ?_
      refine s_loadL (cs := [.int .i8 x.k, .string x.a.p, .slice (some ⟨ba, 0, none⟩) x.a.args.length (x.a.args.length + 1), .int .i8 x.r, .int .i8 x.e1.op, .string x.e1.t.v, .int .i8 x.e1.t.l.k, .int .i64 x.e1.t.l.n, .string x.e1.t.l.s, .slice (some ⟨b1, 0, none⟩) x.e1.kids.length (x.e1.kids.length + 1), .int .i8 x.e2.op, .string x.e2.t.v, .int .i8 x.e2.t.l.k, .int .i64 x.e2.t.l.n, .string x.e2.t.l.s, .slice (some ⟨b2, 0, none⟩) x.e2.kids.length (x.e2.kids.length + 1)]) (ca := #[.int .i8 x.k, .string x.a.p, .slice (some ⟨ba, 0, none⟩) x.a.args.length (x.a.args.length + 1), .int .i8 x.r, .int .i8 x.e1.op, .string x.e1.t.v, .int .i8 x.e1.t.l.k, .int .i64 x.e1.t.l.n, .string x.e1.t.l.s, .slice (some ⟨b1, 0, none⟩) x.e1.kids.length (x.e1.kids.length + 1), .int .i8 x.e2.op, .string x.e2.t.v, .int .i8 x.e2.t.l.k, .int .i64 x.e2.t.l.n, .string x.e2.t.l.s, .slice (some ⟨b2, 0, none⟩) x.e2.kids.length (x.e2.kids.length + 1)]) F_m38 (ev_t rfl e5_) rfl rfl (blk_cells (Ext.blk x53 (Ext.blk x51 (Ext.blk x49 (Ext.blk x47 (Ext.blk x45 (Ext.blk x43 (Ext.blk x41 (Wrote.blk k38)))))))) 0 (cs := [.int .i8 x.k, .string x.a.p, .slice (some ⟨ba, 0, none⟩) x.a.args.length (x.a.args.length + 1), .int .i8 x.r, .int .i8 x.e1.op, .string x.e1.t.v, .int .i8 x.e1.t.l.k, .int .i64 x.e1.t.l.n, .string x.e1.t.l.s, .slice (some ⟨b1, 0, none⟩) x.e1.kids.length (x.e1.kids.length + 1), .int .i8 x.e2.op, .string x.e2.t.v, .int .i8 x.e2.t.l.k, .int .i64 x.e2.t.l.n, .string x.e2.t.l.s, .slice (some ⟨b2, 0, none⟩) x.e2.kids.length (x.e2.kids.length + 1)]) rfl) (wy rfl rfl rfl rfl) ?_
      refine s_loadL (cs := [.int .i8 x.k, .string x.a.p, .slice Aa x.a.args.length ca, .int .i8 x.r, .int .i8 x.e1.op, .string x.e1.t.v, .int .i8 x.e1.t.l.k, .int .i64 x.e1.t.l.n, .string x.e1.t.l.s, .slice A1 x.e1.kids.length c1, .int .i8 x.e2.op, .string x.e2.t.v, .int .i8 x.e2.t.l.k, .int .i64 x.e2.t.l.n, .string x.e2.t.l.s, .slice A2 x.e2.kids.length c2]) (ca := #[.int .i8 x.k, .string x.a.p, .slice Aa x.a.args.length ca, .int .i8 x.r, .int .i8 x.e1.op, .string x.e1.t.v, .int .i8 x.e1.t.l.k, .int .i64 x.e1.t.l.n, .string x.e1.t.l.s, .slice A1 x.e1.kids.length c1, .int .i8 x.e2.op, .string x.e2.t.v, .int .i8 x.e2.t.l.k, .int .i64 x.e2.t.l.n, .string x.e2.t.l.s, .slice A2 x.e2.kids.length c2]) F_m38 (ev_t rfl ((Tr.env hx_ 3 (by decide)).trans rfl)) rfl rfl (blk_cells (Ext.blk x53 (Ext.blk x51 (Ext.blk x49 (Ext.blk x47 (Ext.blk x45 (Ext.blk x43 (Ext.blk x41 (Keep.blk (Wrote.keep k38) (Keep.blk (Wrote.keep k36) (Ext.blk (Tr.ext hx_) (Ext.blk xd (Ext.blk x12 (Ext.blk (NewB.ext n9) (NewB.blk n6))))) (by have a_ := NewB.eq n4_; have b_ := lt_of_blk (Ext.blk x12 (Ext.blk (NewB.ext n9) (NewB.blk n6))); have c_ := Keep.size (Ext.trans xd (Tr.x0 hx_ 4 (by decide))); omega)) (by have a_ := NewB.eq n5_; have b_ := lt_of_blk (Ext.blk x12 (Ext.blk (NewB.ext n9) (NewB.blk n6))); have c_ := Keep.size (Ext.trans xd (Tr.x0 hx_ 5 (by decide))); omega))))))))) 0 (cs := [.int .i8 x.k, .string x.a.p, .slice Aa x.a.args.length ca, .int .i8 x.r, .int .i8 x.e1.op, .string x.e1.t.v, .int .i8 x.e1.t.l.k, .int .i64 x.e1.t.l.n, .string x.e1.t.l.s, .slice A1 x.e1.kids.length c1, .int .i8 x.e2.op, .string x.e2.t.v, .int .i8 x.e2.t.l.k, .int .i64 x.e2.t.l.n, .string x.e2.t.l.s, .slice A2 x.e2.kids.length c2]) rfl) (wy rfl rfl rfl rfl) ?_
      refine s_call F_e16 (wy rfl rfl rfl rfl) ev_f (m2 (ev_t rfl rfl) (ev_t rfl rfl)) (args := #[.agg #[.int .i8 x.k, .string x.a.p, .slice (some ⟨ba, 0, none⟩) x.a.args.length (x.a.args.length + 1), .int .i8 x.r, .int .i8 x.e1.op, .string x.e1.t.v, .int .i8 x.e1.t.l.k, .int .i64 x.e1.t.l.n, .string x.e1.t.l.s, .slice (some ⟨b1, 0, none⟩) x.e1.kids.length (x.e1.kids.length + 1), .int .i8 x.e2.op, .string x.e2.t.v, .int .i8 x.e2.t.l.k, .int .i64 x.e2.t.l.n, .string x.e2.t.l.s, .slice (some ⟨b2, 0, none⟩) x.e2.kids.length (x.e2.kids.length + 1)], .agg #[.int .i8 x.k, .string x.a.p, .slice Aa x.a.args.length ca, .int .i8 x.r, .int .i8 x.e1.op, .string x.e1.t.v, .int .i8 x.e1.t.l.k, .int .i64 x.e1.t.l.n, .string x.e1.t.l.s, .slice A1 x.e1.kids.length c1, .int .i8 x.e2.op, .string x.e2.t.v, .int .i8 x.e2.t.l.k, .int .i64 x.e2.t.l.n, .string x.e2.t.l.s, .slice A2 x.e2.kids.length c2]]) rfl (l_LeftLiteral x Aa A1 A2 ca c1 c2 ba b1 b2 _ _ ho (Row.extT hra (Ext.trans (Ext.trans (Ext.trans (Ext.trans (Ext.trans (Ext.trans (Ext.trans (Keep.then_ (Keep.then_ (Ext.trans (Ext.trans (Ext.trans (Ext.trans (Ext.trans (NewB.ext n3) (NewB.ext n6)) (NewB.ext n9)) x12) xd) (Tr.ext hx_)) (Wrote.keep k36) (fun i_ hi_ h_ => by have a_ := ge_gA4; omega)) (Wrote.keep k38) (fun i_ hi_ h_ => by have a_ := ge_gA5; omega)) x41) x43) x45) x47) x49) x51) x53)) (Row.extE hr1 (Ext.trans (Ext.trans (Ext.trans (Ext.trans (Ext.trans (Ext.trans (Ext.trans (Keep.then_ (Keep.then_ (Ext.trans (Ext.trans (Ext.trans (Ext.trans (Ext.trans (NewB.ext n3) (NewB.ext n6)) (NewB.ext n9)) x12) xd) (Tr.ext hx_)) (Wrote.keep k36) (fun i_ hi_ h_ => by have a_ := ge_gA4; omega)) (Wrote.keep k38) (fun i_ hi_ h_ => by have a_ := ge_gA5; omega)) x41) x43) x45) x47) x49) x51) x53)) (Row.extE hr2 (Ext.trans (Ext.trans (Ext.trans (Ext.trans (Ext.trans (Ext.trans (Ext.trans (Keep.then_ (Keep.then_ (Ext.trans (Ext.trans (Ext.trans (Ext.trans (Ext.trans (NewB.ext n3) (NewB.ext n6)) (NewB.ext n9)) x12) xd) (Tr.ext hx_)) (Wrote.keep k36) (fun i_ hi_ h_ => by have a_ := ge_gA4; omega)) (Wrote.keep k38) (fun i_ hi_ h_ => by have a_ := ge_gA5; omega)) x41) x43) x45) x47) x49) x51) x53)) (TwG.ext okT (TwG.ext okT (TwG.ext okT (TwG.ext okT (TwG.ext okT (TwG.ext okT (TwG.ext okT twa7 x41) x43) x45) x47) x49) x51) x53) (TwE.ext (TwE.ext (TwE.ext (TwE.ext (TwE.ext (TwE.ext (TwE.ext tw17 x41) x43) x45) x47) x49) x51) x53) (TwE.ext (TwE.ext (TwE.ext (TwE.ext (TwE.ext (TwE.ext (TwE.ext tw27 x41) x43) x45) x47) x49) x51) x53) (Tabs.ext tb (Ext.trans (Ext.trans (Ext.trans (Ext.trans (Ext.trans (Ext.trans (Ext.trans (Keep.then_ (Keep.then_ (Ext.trans (Ext.trans (Ext.trans (Ext.trans (Ext.trans (NewB.ext n3) (NewB.ext n6)) (NewB.ext n9)) x12) xd) (Tr.ext hx_)) (Wrote.keep k36) (fun i_ hi_ h_ => by have a_ := ge_gA4; omega)) (Wrote.keep k38) (fun i_ hi_ h_ => by have a_ := ge_gA5; omega)) x41) x43) x45) x47) x49) x51) x53))) ?_
      rintro _ w56 ⟨rfl, x55⟩
      refine s_pick1 (v := .bool true) (ev_t rfl rfl) (ev_t rfl rfl) (w0 rfl) ?_
      refine s_move (v := .bool true) (ev_t rfl rfl) (w0 rfl) ?_
      refine s_call F_e17 (wy rfl rfl rfl rfl) ev_f m0 (args := #[]) rfl (l_lives _ (Tabs.ext tb (Ext.trans (Ext.trans (Ext.trans (Ext.trans (Ext.trans (Ext.trans (Ext.trans (Ext.trans (Keep.then_ (Keep.then_ (Ext.trans (Ext.trans (Ext.trans (Ext.trans (Ext.trans (NewB.ext n3) (NewB.ext n6)) (NewB.ext n9)) x12) xd) (Tr.ext hx_)) (Wrote.keep k36) (fun i_ hi_ h_ => by have a_ := ge_gA4; omega)) (Wrote.keep k38) (fun i_ hi_ h_ => by have a_ := ge_gA5; omega)) x41) x43) x45) x47) x49) x51) x53) x55))) ?_
      rintro _ w58 ⟨rfl, x57⟩
      refine s_pick1 (v := .bool true) (ev_t rfl rfl) (ev_t rfl rfl) (w0 rfl) ?_
      refine s_assign (v := .bool true) (ev_t rfl rfl) (w0 rfl) ?_
      refine c_done (n_then (c_ret ?_))
      refine ret1 (v := .bool true) rfl rfl rfl ?_
      refine ⟨_, rfl, ?_, (Ext.trans (Ext.trans (Ext.trans (Ext.trans (Ext.trans (Ext.trans (Ext.trans (Ext.trans (Ext.trans (Keep.then_ (Keep.then_ (Ext.trans (Ext.trans (Ext.trans (Ext.trans (Ext.trans (NewB.ext n3) (NewB.ext n6)) (NewB.ext n9)) x12) xd) (Tr.ext hx_)) (Wrote.keep k36) (fun i_ hi_ h_ => by have a_ := ge_gA4; omega)) (Wrote.keep k38) (fun i_ hi_ h_ => by have a_ := ge_gA5; omega)) x41) x43) x45) x47) x49) x51) x53) x55) x57)⟩
      rfl
end Go.Proofs.Zw

set_option linter.unusedVariables false
set_option linter.unusedSimpArgs false
set_option maxRecDepth 10000
namespace Go.Proofs.Zw
open Go Go.Wk Go.Proofs Go.Lib Go.ChangeShapes Go.WideShapes Go.RowKit
section
variable {H : Type} {enc : TypeId × Value → H} {w : World} {sp : Nat → Bool} {held : Bool}
theorem ce2 : Tryz.prog.cellsOf 2 = 1 := by kernel_rfl
theorem ce9 : Tryz.prog.cellsOf 9 = 1 := by kernel_rfl
theorem ce22 : Tryz.prog.cellsOf 22 = 1 := by kernel_rfl
theorem ce24 : Tryz.prog.cellsOf 24 = 2 := by kernel_rfl
theorem ce26 : Tryz.prog.cellsOf 26 = 1 := by kernel_rfl
theorem ce27 : Tryz.prog.cellsOf 27 = 1 := by kernel_rfl
theorem ce28 : Tryz.prog.cellsOf 28 = 1 := by kernel_rfl
theorem ce29 : Tryz.prog.cellsOf 29 = 1 := by kernel_rfl
theorem ce31 : Tryz.prog.cellsOf 31 = 3 := by kernel_rfl
theorem ce33 : Tryz.prog.cellsOf 33 = 4 := by kernel_rfl
theorem ce34 : Tryz.prog.cellsOf 34 = 1 := by kernel_rfl
theorem ce36 : Tryz.prog.cellsOf 36 = 6 := by kernel_rfl
theorem ce38 : Tryz.prog.cellsOf 38 = 16 := by kernel_rfl
theorem by33 : Tryz.prog.bytesOf 33 = 48 := by kernel_rfl
theorem by36 : Tryz.prog.bytesOf 36 = 80 := by kernel_rfl
theorem len2 {l : List Value} (h : l.length = 2) : ∃ u0 u1, l = [u0, u1] := by
  match l, h with | [u0, u1], _ => exact ⟨u0, u1, rfl⟩
theorem len3 {l : List Value} (h : l.length = 3) : ∃ u0 u1 u2, l = [u0, u1, u2] := by
  match l, h with | [u0, u1, u2], _ => exact ⟨u0, u1, u2, rfl⟩
theorem len4 {l : List Value} (h : l.length = 4) : ∃ u0 u1 u2 u3, l = [u0, u1, u2, u3] := by
  match l, h with | [u0, u1, u2, u3], _ => exact ⟨u0, u1, u2, u3, rfl⟩
theorem len6 {l : List Value} (h : l.length = 6) : ∃ u0 u1 u2 u3 u4 u5, l = [u0, u1, u2, u3, u4, u5] := by
  match l, h with | [u0, u1, u2, u3, u4, u5], _ => exact ⟨u0, u1, u2, u3, u4, u5, rfl⟩
theorem len16 {l : List Value} (h : l.length = 16) : ∃ u0 u1 u2 u3 u4 u5 u6 u7 u8 u9 u10 u11 u12 u13 u14 u15, l = [u0, u1, u2, u3, u4, u5, u6, u7, u8, u9, u10, u11, u12, u13, u14, u15] := by
  match l, h with | [u0, u1, u2, u3, u4, u5, u6, u7, u8, u9, u10, u11, u12, u13, u14, u15], _ => exact ⟨u0, u1, u2, u3, u4, u5, u6, u7, u8, u9, u10, u11, u12, u13, u14, u15, rfl⟩
theorem xs2 {α : Type} {l : List α} (h : l.length = 2) : ∃ u0 u1, l = [u0, u1] := by
  match l, h with | [u0, u1], _ => exact ⟨u0, u1, rfl⟩
theorem xs3 {α : Type} {l : List α} (h : l.length = 3) : ∃ u0 u1 u2, l = [u0, u1, u2] := by
  match l, h with | [u0, u1, u2], _ => exact ⟨u0, u1, u2, rfl⟩
theorem xs5 {α : Type} {l : List α} (h : l.length = 5) : ∃ u0 u1 u2 u3 u4, l = [u0, u1, u2, u3, u4] := by
  match l, h with | [u0, u1, u2, u3, u4], _ => exact ⟨u0, u1, u2, u3, u4, rfl⟩
theorem small (n : Nat) : n ≤ reachBytes → n ≤ 140737488351232 := fun h => h
theorem i8_wf {n : Int} (h : (Lit.int .i8 n).wf = true) : -128 ≤ n ∧ n ≤ 127 := by
  simp only [Lit.wf, Bool.and_eq_true, decide_eq_true_eq] at h; exact h
theorem i64_wf {n : Int} (h : (Lit.int .i64 n).wf = true) : -9223372036854775808 ≤ n ∧ n ≤ 9223372036854775807 := by
  simp only [Lit.wf, Bool.and_eq_true, decide_eq_true_eq] at h; exact h
theorem weights_all {P : Program} {e : TypeId} {d : DataW H} {k : Nat} : ∀ {l : List (DataW H)}, d ∈ l → k ∈ d.weights P e → k ∈ DataW.weightsAll P e l
  | [], h, _ => by simp at h
  | y :: l, h, hk => by
    rcases List.mem_cons.1 h with rfl | h
    · simp [DataW.weightsAll, hk]
    · simp [DataW.weightsAll, weights_all h hk]
theorem o_slice {α : Type} (R : World → α → List Value → Prop) (zero : α) {t e : TypeId} {m bytes : Nat} (ht : Tryz.prog.underlying t = some (.slice e)) (hm : Tryz.prog.cellsOf e = m) (h0 : 0 < m) (hby : Tryz.prog.bytesOf e = bytes) {n : Nat}
    (hel : ∀ (n' : Nat), n' < n → ∀ (cs : List Value) (x : DataW H × List MemPlace), DataW.trod enc Tryz.prog w 0 sp held n' e cs = some x → (∀ k ∈ x.1.weights Tryz.prog e, k ≤ reachBytes) → ∃ y, R w y cs)
    {c : Value} {x : DataW H × List MemPlace} (h : DataW.trod enc Tryz.prog w 0 sp held n t [c] = some x) (hs : ∀ k ∈ x.1.weights Tryz.prog t, k ≤ reachBytes) :
    ∃ (l : List α) (A : Option Addr) (cap : Nat), c = .slice A l.length cap ∧ l.length ≤ cap ∧ l.length * bytes ≤ 140737488351232 ∧ Row R m w A l := by
  rcases DataW.trod_slice ht h with ⟨ec, rfl⟩ | ⟨ad, len, cap, elems, rest, n', rfl, ec, rfl, hb, hlc, hmx, hlen, hel1, hrest⟩
  · cases ec
    exact ⟨[], none, 0, rfl, Nat.le_refl _, by simp, Row.nil⟩
  · cases ec
    have hbytes : len * bytes ≤ 140737488351232 := by
      have h1 := hs ((elems.length + rest.length) * bytes) (by simp [DataW.weights, ht, hby])
      have h2 := small _ h1
      rw [hlen] at h2
      exact Nat.le_trans (Nat.mul_le_mul_right _ (Nat.le_add_right _ _)) h2
    have each : ∀ i, i < len → ∃ (y : α) (l : List Value), R w y l ∧ (i = 0 → ad.spot = none) ∧ ∀ (j : Nat) (u : Value), l[j]? = some u → w.cell? ⟨ad.block, ad.off + i * m + j, none⟩ = some u := by
      intro i hi
      have h1 := hel1 i hi
      rw [hm] at h1
      have hi2 : i < elems.length := by omega
      rw [List.getElem?_eq_getElem hi2] at h1
      obtain ⟨cs', hcs, htr⟩ := Option.bind_eq_some_iff.1 h1
      obtain ⟨hb', hl', hc'⟩ := World.cells?_some hcs
      obtain ⟨y, hy⟩ := hel n' (by omega) cs' _ htr (fun k hk => hs k (by
        simp only [DataW.weights, ht, List.mem_cons, List.mem_append]
        exact .inr (.inl (weights_all (List.mem_map_of_mem (List.getElem_mem hi2)) hk))))
      have hsp : (ad.add (i * m)).spot = none := by
        have := hc' 0 (by omega)
        rw [List.getElem?_eq_getElem (by omega)] at this
        rw [show (ad.add (i * m)).add 0 = ad.add (i * m) from by simp [Addr.add]] at this
        cases hq : (ad.add (i * m)).spot with
        | none => rfl
        | some q =>
          unfold World.cell? at this
          rw [hq] at this
          split at this <;> simp at this
      have had : ad.add (i * m) = ⟨ad.block, ad.off + i * m, none⟩ := by
        unfold Addr.add at hsp ⊢
        split
        · rename_i h0
          rw [if_pos h0] at hsp
          obtain ⟨b1, o1, s1⟩ := ad
          simp only at hsp
          subst hsp
          simp [h0]
        · rfl
      refine ⟨y, cs', hy, ?_, fun j u hu => ?_⟩
      · intro h0
        subst h0
        simpa [Addr.add] using hsp
      · have hj : j < cs'.length := (List.getElem?_eq_some_iff.1 hu).1
        have := hc' j (by omega)
        rw [had, add0] at this
        rw [this]; exact hu
    have hex : ∃ f : Nat → α, ∀ i, i < len → ∃ l : List Value, R w (f i) l ∧ (i = 0 → ad.spot = none) ∧ ∀ (j : Nat) (u : Value), l[j]? = some u → w.cell? ⟨ad.block, ad.off + i * m + j, none⟩ = some u := by
      refine ⟨fun i => if hi : i < len then Classical.choose (each i hi) else zero, fun i hi => ?_⟩
      simp only [dif_pos hi]
      exact Classical.choose_spec (each i hi)
    obtain ⟨f, hf⟩ := hex
    have hkl : ((List.range len).map f).length = len := by simp
    refine ⟨(List.range len).map f, some ad, cap, ?_, ?_, ?_, ?_⟩
    · rw [hkl]
    · rw [hkl]; exact hlc
    · rw [hkl]; exact hbytes
    · by_cases h0 : len = 0
      · subst h0; exact .inl rfl
      · obtain ⟨_, _, h2, _⟩ := hf 0 (by omega)
        have hsp := h2 rfl
        obtain ⟨b1, o1, s1⟩ := ad
        simp only at hsp
        subst hsp
        refine .inr ⟨b1, o1, rfl, fun j y hy => ?_⟩
        have hj : j < len := by
          have := (List.getElem?_eq_some_iff.1 hy).1
          rwa [hkl] at this
        obtain ⟨l, a1, _, a3⟩ := hf j hj
        have : y = f j := by simpa [hj] using hy.symm
        subst this
        exact ⟨l, a1, a3⟩
theorem o_V {n : Nat} {cs : List Value} {x : DataW H × List MemPlace} (h : DataW.trod enc Tryz.prog w 0 sp held n 31 cs = some x) (hs : ∀ k ∈ x.1.weights Tryz.prog 31, k ≤ reachBytes) : ∃ y, RV w y cs := by
  obtain ⟨xs, m, rfl, rfl, hl, hx, hf⟩ := DataW.trod_struct Tryz.underlying31 h
  obtain ⟨c0, c1, c2, rfl⟩ := len3 (hl.trans ce31)
  obtain ⟨a0, a1, a2, rfl⟩ := xs3 hx
  have f0 : DataW.trod enc Tryz.prog w 0 sp held m 29 (([c0, c1, c2].drop 0).take (Tryz.prog.cellsOf 29)) = some a0 := hf 0 _ rfl
  rw [ce29] at f0
  have f1 : DataW.trod enc Tryz.prog w 0 sp held m 2 (([c0, c1, c2].drop 1).take (Tryz.prog.cellsOf 2)) = some a1 := hf 1 _ rfl
  rw [ce2] at f1
  have f2 : DataW.trod enc Tryz.prog w 0 sp held m 9 (([c0, c1, c2].drop 2).take (Tryz.prog.cellsOf 9)) = some a2 := hf 2 _ rfl
  rw [ce9] at f2
  obtain ⟨k0, e0, r0, w0⟩ := DataW.trod_int (k := .i8) Tryz.underlying29 (show DataW.trod enc Tryz.prog w 0 sp held m 29 [c0] = some a0 from f0)
  cases e0
  subst r0
  obtain ⟨k1, e1, r1, w1⟩ := DataW.trod_int (k := .i64) Tryz.underlying2 (show DataW.trod enc Tryz.prog w 0 sp held m 2 [c1] = some a1 from f1)
  cases e1
  subst r1
  obtain ⟨s2, e2, r2, w2⟩ := DataW.trod_string Tryz.underlying9 (show DataW.trod enc Tryz.prog w 0 sp held m 9 [c2] = some a2 from f2)
  cases e2
  subst r2
  have z2 : s2.size ≤ 140737488351232 := hs s2.data.toList.length (by simp [DataW.weights, Tryz.underlying31, DataW.weightsEach])
  exact ⟨⟨k0, k1, s2⟩, rfl, ⟨i8_wf w0, i64_wf w1, z2⟩⟩
theorem o_T {n : Nat} {cs : List Value} {x : DataW H × List MemPlace} (h : DataW.trod enc Tryz.prog w 0 sp held n 33 cs = some x) (hs : ∀ k ∈ x.1.weights Tryz.prog 33, k ≤ reachBytes) : ∃ y, RT w y cs := by
  obtain ⟨xs, m, rfl, rfl, hl, hx, hf⟩ := DataW.trod_struct Tryz.underlying33 h
  obtain ⟨c0, c1, c2, c3, rfl⟩ := len4 (hl.trans ce33)
  obtain ⟨a0, a1, rfl⟩ := xs2 hx
  have f0 : DataW.trod enc Tryz.prog w 0 sp held m 9 (([c0, c1, c2, c3].drop 0).take (Tryz.prog.cellsOf 9)) = some a0 := hf 0 _ rfl
  rw [ce9] at f0
  have f1 : DataW.trod enc Tryz.prog w 0 sp held m 31 (([c0, c1, c2, c3].drop 1).take (Tryz.prog.cellsOf 31)) = some a1 := hf 1 _ rfl
  rw [ce31] at f1
  obtain ⟨s0, e0, r0, w0⟩ := DataW.trod_string Tryz.underlying9 (show DataW.trod enc Tryz.prog w 0 sp held m 9 [c0] = some a0 from f0)
  cases e0
  subst r0
  have z0 : s0.size ≤ 140737488351232 := hs s0.data.toList.length (by simp [DataW.weights, Tryz.underlying33, DataW.weightsEach])
  obtain ⟨v1, ev1, hw1⟩ := o_V (show DataW.trod enc Tryz.prog w 0 sp held m 31 [c1, c2, c3] = some a1 from f1) (fun k hk => hs k (by simp [DataW.weights, Tryz.underlying33, DataW.weightsEach, hk]))
  simp only [List.cons.injEq, and_true] at ev1
  obtain ⟨rfl, rfl, rfl⟩ := ev1
  exact ⟨⟨s0, v1⟩, rfl, ⟨z0, hw1⟩⟩
theorem o_E : ∀ (n : Nat) (cs : List Value) (x : DataW H × List MemPlace), DataW.trod enc Tryz.prog w 0 sp held n 36 cs = some x → (∀ k ∈ x.1.weights Tryz.prog 36, k ≤ reachBytes) → ∃ y, RE w y cs := by
  intro n
  induction n using Nat.strongRecOn with
  | _ n ih =>
    intro cs x h hs
    obtain ⟨xs, m, rfl, rfl, hl, hx, hf⟩ := DataW.trod_struct Tryz.underlying36 h
    obtain ⟨c0, c1, c2, c3, c4, c5, rfl⟩ := len6 (hl.trans ce36)
    obtain ⟨a0, a1, a2, rfl⟩ := xs3 hx
    have f0 : DataW.trod enc Tryz.prog w 0 sp held m 28 (([c0, c1, c2, c3, c4, c5].drop 0).take (Tryz.prog.cellsOf 28)) = some a0 := hf 0 _ rfl
    rw [ce28] at f0
    have f1 : DataW.trod enc Tryz.prog w 0 sp held m 33 (([c0, c1, c2, c3, c4, c5].drop 1).take (Tryz.prog.cellsOf 33)) = some a1 := hf 1 _ rfl
    rw [ce33] at f1
    have f2 : DataW.trod enc Tryz.prog w 0 sp held m 34 (([c0, c1, c2, c3, c4, c5].drop 5).take (Tryz.prog.cellsOf 34)) = some a2 := hf 2 _ rfl
    rw [ce34] at f2
    obtain ⟨k0, e0, r0, w0⟩ := DataW.trod_int (k := .i8) Tryz.underlying28 (show DataW.trod enc Tryz.prog w 0 sp held m 28 [c0] = some a0 from f0)
    cases e0
    subst r0
    obtain ⟨v1, ev1, hw1⟩ := o_T (show DataW.trod enc Tryz.prog w 0 sp held m 33 [c1, c2, c3, c4] = some a1 from f1) (fun k hk => hs k (by simp [DataW.weights, Tryz.underlying36, DataW.weightsEach, hk]))
    simp only [List.cons.injEq, and_true] at ev1
    obtain ⟨rfl, rfl, rfl, rfl⟩ := ev1
    obtain ⟨l2, A2, d2, el2, hl2, hc2, hr2⟩ := o_slice RE Ex.none Tryz.underlying34 ce36 (by decide) by36 (fun n' hn cs x h hs => ih n' (by omega) cs x h hs) (show DataW.trod enc Tryz.prog w 0 sp held m 34 [c5] = some a2 from f2) (fun k hk => hs k (by simp [DataW.weights, Tryz.underlying36, DataW.weightsEach, hk]))
    cases el2
    exact ⟨.mk k0 v1 l2, RE.mk_ (x := .mk k0 v1 l2) (A := A2) (c := d2) ⟨i8_wf w0, hw1, hl2, hc2⟩ hr2⟩
theorem o_A {n : Nat} {cs : List Value} {x : DataW H × List MemPlace} (h : DataW.trod enc Tryz.prog w 0 sp held n 24 cs = some x) (hs : ∀ k ∈ x.1.weights Tryz.prog 24, k ≤ reachBytes) : ∃ y, RA w y cs := by
  obtain ⟨xs, m, rfl, rfl, hl, hx, hf⟩ := DataW.trod_struct Tryz.underlying24 h
  obtain ⟨c0, c1, rfl⟩ := len2 (hl.trans ce24)
  obtain ⟨a0, a1, rfl⟩ := xs2 hx
  have f0 : DataW.trod enc Tryz.prog w 0 sp held m 9 (([c0, c1].drop 0).take (Tryz.prog.cellsOf 9)) = some a0 := hf 0 _ rfl
  rw [ce9] at f0
  have f1 : DataW.trod enc Tryz.prog w 0 sp held m 22 (([c0, c1].drop 1).take (Tryz.prog.cellsOf 22)) = some a1 := hf 1 _ rfl
  rw [ce22] at f1
  obtain ⟨s0, e0, r0, w0⟩ := DataW.trod_string Tryz.underlying9 (show DataW.trod enc Tryz.prog w 0 sp held m 9 [c0] = some a0 from f0)
  cases e0
  subst r0
  have z0 : s0.size ≤ 140737488351232 := hs s0.data.toList.length (by simp [DataW.weights, Tryz.underlying24, DataW.weightsEach])
  obtain ⟨l1, A1, d1, el1, hl1, hc1, hr1⟩ := o_slice RT Tm.none Tryz.underlying22 ce33 (by decide) by33 (fun n' hn cs x h hs => o_T h hs) (show DataW.trod enc Tryz.prog w 0 sp held m 22 [c1] = some a1 from f1) (fun k hk => hs k (by simp [DataW.weights, Tryz.underlying24, DataW.weightsEach, hk]))
  cases el1
  exact ⟨⟨s0, l1⟩, A1, d1, rfl, ⟨z0, hl1, hc1⟩, hr1⟩
theorem o_L {n : Nat} {cs : List Value} {x : DataW H × List MemPlace} (h : DataW.trod enc Tryz.prog w 0 sp held n 38 cs = some x) (hs : ∀ k ∈ x.1.weights Tryz.prog 38, k ≤ reachBytes) : ∃ y, RL w y cs := by
  obtain ⟨xs, m, rfl, rfl, hl, hx, hf⟩ := DataW.trod_struct Tryz.underlying38 h
  obtain ⟨c0, c1, c2, c3, c4, c5, c6, c7, c8, c9, c10, c11, c12, c13, c14, c15, rfl⟩ := len16 (hl.trans ce38)
  obtain ⟨a0, a1, a2, a3, a4, rfl⟩ := xs5 hx
  have f0 : DataW.trod enc Tryz.prog w 0 sp held m 26 (([c0, c1, c2, c3, c4, c5, c6, c7, c8, c9, c10, c11, c12, c13, c14, c15].drop 0).take (Tryz.prog.cellsOf 26)) = some a0 := hf 0 _ rfl
  rw [ce26] at f0
  have f1 : DataW.trod enc Tryz.prog w 0 sp held m 24 (([c0, c1, c2, c3, c4, c5, c6, c7, c8, c9, c10, c11, c12, c13, c14, c15].drop 1).take (Tryz.prog.cellsOf 24)) = some a1 := hf 1 _ rfl
  rw [ce24] at f1
  have f2 : DataW.trod enc Tryz.prog w 0 sp held m 27 (([c0, c1, c2, c3, c4, c5, c6, c7, c8, c9, c10, c11, c12, c13, c14, c15].drop 3).take (Tryz.prog.cellsOf 27)) = some a2 := hf 2 _ rfl
  rw [ce27] at f2
  have f3 : DataW.trod enc Tryz.prog w 0 sp held m 36 (([c0, c1, c2, c3, c4, c5, c6, c7, c8, c9, c10, c11, c12, c13, c14, c15].drop 4).take (Tryz.prog.cellsOf 36)) = some a3 := hf 3 _ rfl
  rw [ce36] at f3
  have f4 : DataW.trod enc Tryz.prog w 0 sp held m 36 (([c0, c1, c2, c3, c4, c5, c6, c7, c8, c9, c10, c11, c12, c13, c14, c15].drop 10).take (Tryz.prog.cellsOf 36)) = some a4 := hf 4 _ rfl
  rw [ce36] at f4
  obtain ⟨k0, e0, r0, w0⟩ := DataW.trod_int (k := .i8) Tryz.underlying26 (show DataW.trod enc Tryz.prog w 0 sp held m 26 [c0] = some a0 from f0)
  cases e0
  subst r0
  obtain ⟨v1, A1, d1, ev1, ho1, hr1⟩ := o_A (show DataW.trod enc Tryz.prog w 0 sp held m 24 [c1, c2] = some a1 from f1) (fun k hk => hs k (by simp [DataW.weights, Tryz.underlying38, DataW.weightsEach, hk]))
  simp only [List.cons.injEq, and_true] at ev1
  obtain ⟨rfl, rfl⟩ := ev1
  obtain ⟨k2, e2, r2, w2⟩ := DataW.trod_int (k := .i8) Tryz.underlying27 (show DataW.trod enc Tryz.prog w 0 sp held m 27 [c3] = some a2 from f2)
  cases e2
  subst r2
  obtain ⟨v3, hv3⟩ := o_E m _ _ (show DataW.trod enc Tryz.prog w 0 sp held m 36 [c4, c5, c6, c7, c8, c9] = some a3 from f3) (fun k hk => hs k (by simp [DataW.weights, Tryz.underlying38, DataW.weightsEach, hk]))
  obtain ⟨A3, d3, ev3, ho3, hr3⟩ := RE.open_ hv3
  simp only [List.cons.injEq, and_true] at ev3
  obtain ⟨rfl, rfl, rfl, rfl, rfl, rfl⟩ := ev3
  obtain ⟨v4, hv4⟩ := o_E m _ _ (show DataW.trod enc Tryz.prog w 0 sp held m 36 [c10, c11, c12, c13, c14, c15] = some a4 from f4) (fun k hk => hs k (by simp [DataW.weights, Tryz.underlying38, DataW.weightsEach, hk]))
  obtain ⟨A4, d4, ev4, ho4, hr4⟩ := RE.open_ hv4
  simp only [List.cons.injEq, and_true] at ev4
  obtain ⟨rfl, rfl, rfl, rfl, rfl, rfl⟩ := ev4
  exact ⟨⟨k0, v1, k2, v3, v4⟩, A1, A3, A4, d1, d3, d4, rfl, ⟨i8_wf w0, i8_wf w2, ho1, ho3, ho4⟩, hr1, hr3, hr4⟩
end
end Go.Proofs.Zw

set_option linter.unusedVariables false
set_option maxRecDepth 100000
namespace Go.Proofs.YtjjkfbjidpolmaaGreatDoor
open Go Go.Proofs Go.ChangeShapes Go.WideShapes Go.RowKit Go.Wk Go.Deep
theorem own_ : ownKnob Tryz.prog.godebug = none := by kernel_rfl
theorem kids_ : Kids Tryz.prog (· < Tryz.prog.types.size) := kids_rows (by kernel_rfl) (by kernel_rfl)
theorem full_ : ∀ t e, t < Tryz.prog.types.size → Tryz.prog.underlying t = some (.slice e) → 0 < Tryz.prog.cellsOf e := slices_full_of Tryz.prog (by kernel_rfl)
def litV : DataW Unit → Option Value
  | .lit (.int k n) => some (.int k n)
  | .lit (.string l) => some (.string ⟨l.toArray⟩)
  | _ => none
theorem litV_of {P : Program} {W : World} {sp : Nat → Bool} {held : Bool} {enc : TypeId × Value → Unit} {m : Nat} {e : TypeId} {c : Value} {x : DataW Unit × List MemPlace} (he : (∃ k, P.underlying e = some (.int k)) ∨ P.underlying e = some .string) (h : DataW.trod enc P W 0 sp held m e [c] = some x) : litV x.1 = some c := by
  rcases he with ⟨k, he⟩ | he
  · obtain ⟨n, h1, h2, _⟩ := DataW.trod_int he h
    cases h1; subst h2; rfl
  · obtain ⟨s, h1, h2, _⟩ := DataW.trod_string he h
    cases h1; subst h2
    simp [litV]
theorem var_of {P : Program} {W : World} {nm : String} {d : DataW Unit} {ds : List (DataW Unit)} {g t e n : Nat} {cs : List Value} {l : List (String × DataW Unit)} (h : laidMet P l W) (keep : String × DataW Unit → Bool) (hk : l.filter keep = [(nm, d)]) (hg : P.globalNamed nm = some g) (hty : (P.globals[g]?).map (·.type) = some t) (ht : P.underlying t = some (.array n e))
    (he : (∃ k, P.underlying e = some (.int k)) ∨ P.underlying e = some .string) (hce : P.cellsOf e = 1) (hct : P.cellsOf t = n) (hd : d = .agg ds) (hc : ds.map litV = cs.map some) : W.var? P nm = some cs.toArray := by
  have h1 := h.filter keep
  rw [hk] at h1
  obtain ⟨ps, ⟨g', t', cs', fuel, p, q, hg', ht', hv, hd', _, _⟩, _⟩ := h1
  obtain rfl := Option.some.inj (hg.symm.trans hg')
  obtain rfl := Option.some.inj (hty.symm.trans ht')
  obtain ⟨xs, m, _, ex, hl0, hl, hel⟩ := DataW.trod_array ht hd'
  rw [hd] at ex
  have e3 : ds = xs.map (·.1) := DataW.agg.inj (Prod.mk.inj ex).1
  rw [hv]
  congr 1
  apply Array.ext'
  rw [List.toList_toArray]
  have hlen : cs'.toList.length = n := by rw [← hct]; exact hl0
  have key : cs'.toList.map some = cs.map some := by
    rw [← hc, e3, List.map_map]
    apply List.ext_getElem
    · simp [hlen, hl]
    · intro i h2 h3
      have hi : i < n := by simpa [hlen] using h2
      have hE := hel i hi
      rw [hce, Nat.mul_one, List.getElem?_eq_getElem (by omega)] at hE
      have hx : (cs'.toList.drop i).take 1 = [cs'.toList[i]'(by omega)] := by
        rw [List.drop_eq_getElem_cons (by omega), List.take_succ_cons, List.take_zero]
      rw [hx] at hE
      have := litV_of he hE
      simp only [List.getElem_map, Function.comp]
      rw [this]
  have h7 := congrArg (List.filterMap id) key
  simpa [List.filterMap_map] using h7
theorem tabs_of {W : World} (h : laidMetH Tryz.prog Rows.printPartsRow.laid W) : Tabs Tryz.prog W := by
  rw [MakeChecks.laidMetH_plain _ _ _ (by kernel_rfl)] at h
  refine ⟨?_, ?_, ?_, ?_⟩
  · exact var_of h (fun x => x.1 == "pedigree/print.hold") (d := Rows.laid_pedigree_print_hold) (by kernel_rfl) (g := 1) (t := 156) (by kernel_rfl) (by kernel_rfl) Tryz.underlying156 (.inl ⟨_, Tryz.underlying3⟩) (by kernel_rfl) (by kernel_rfl) rfl (cs := [.int .i64 4, .int .i64 3, .int .i64 1, .int .i64 1, .int .i64 2, .int .i64 2, .int .i64 2, .int .i64 1, .int .i64 4, .int .i64 4, .int .i64 4]) rfl
  · exact var_of h (fun x => x.1 == "pedigree/print.words") (d := Rows.laid_pedigree_print_words) (by kernel_rfl) (g := 2) (t := 157) (by kernel_rfl) (by kernel_rfl) Tryz.underlying157 (.inr Tryz.underlying9) (by kernel_rfl) (by kernel_rfl) rfl (cs := [.string ⟨#[]⟩, .string ⟨#[]⟩, .string ⟨#[]⟩, .string ⟨#[]⟩, .string ⟨#[]⟩, .string ⟨#[]⟩, .string ⟨#[]⟩, .string ⟨#[]⟩, .string ⟨#[108, 101, 110]⟩, .string ⟨#[99, 104, 97, 114, 115]⟩, .string ⟨#[98, 97, 99, 107]⟩]) rfl
  · exact var_of h (fun x => x.1 == "pedigree/print.signs") (d := Rows.laid_pedigree_print_signs) (by kernel_rfl) (g := 3) (t := 158) (by kernel_rfl) (by kernel_rfl) Tryz.underlying158 (.inr Tryz.underlying9) (by kernel_rfl) (by kernel_rfl) rfl (cs := [.string ⟨#[]⟩, .string ⟨#[]⟩, .string ⟨#[43]⟩, .string ⟨#[45]⟩, .string ⟨#[42]⟩, .string ⟨#[47]⟩, .string ⟨#[37]⟩, .string ⟨#[38]⟩]) rfl
  · exact var_of h (fun x => x.1 == "internal/strconv.uint64pow10") (d := Rows.laid_internal_strconv_uint64pow10) (by kernel_rfl) (g := 5) (t := 194) (by kernel_rfl) (by kernel_rfl) Tryz.underlying194 (.inl ⟨_, Tryz.underlying177⟩) (by kernel_rfl) (by kernel_rfl) rfl (cs := Go.Lib.pow10Tab.map fun z => .int .u64 z) rfl
theorem rels_of {W : World} (h : laidMetH Tryz.prog Rows.printPartsRow.laid W) : RelT Tryz.prog W := by
  rw [MakeChecks.laidMetH_plain _ _ _ (by kernel_rfl)] at h
  exact var_of h (fun x => x.1 == "pedigree/print.rels") (d := Rows.laid_pedigree_print_rels) (by kernel_rfl) (g := 0) (t := 154) (by kernel_rfl) (by kernel_rfl) Tryz.underlying154 (.inr Tryz.underlying9) (by kernel_rfl) (by kernel_rfl) rfl (cs := [.string ⟨#[]⟩, .string ⟨#[61]⟩, .string ⟨#[33, 61]⟩, .string ⟨#[60]⟩, .string ⟨#[60, 61]⟩, .string ⟨#[62]⟩, .string ⟨#[62, 61]⟩]) rfl
theorem lifted (os : Os) (started : os.Started) (H : Type) (enc : TypeId × Value → H) :
    ReturnsInHanded {} Tryz.checked os 3 .any (fun w args => (Rows.printPartsSpec.pre enc Tryz.prog Tryz.f3 [] false w args ∧ laidMetH Tryz.prog Rows.printPartsRow.laid w) ∧ sizedMet enc Tryz.prog Tryz.f3 (OpenSpec.ofChange Rows.printPartsSpec) false w args)
      (Rows.printPartsSpec.post enc Tryz.prog Tryz.f3 false true false false) := by
  refine returnsInHanded_of_change_and (C := Tryz.checked) (X := fun w _ => laidMetH Tryz.prog Rows.printPartsRow.laid w) (fun _ _ _ hh h => h.of_heap hh) own_ started (by kernel_rfl) Tryz.func3
    (ChangeSpec.witness_shaped (enc := enc) (C := Tryz.checked) (os := os) (X := fun w _ => laidMetH Tryz.prog Rows.printPartsRow.laid w) false (World.laidAll Tryz.prog os Rows.printPartsRow.laid) #[.agg #[.string (⟨#[]⟩ : ByteArray), .slice none 0 0], .agg #[.int .i8 0, .string (⟨#[]⟩ : ByteArray), .slice none 0 0, .int .i8 0, .int .i8 0, .string (⟨#[]⟩ : ByteArray), .int .i8 0, .int .i64 0, .string (⟨#[]⟩ : ByteArray), .slice none 0 0, .int .i8 0, .string (⟨#[]⟩ : ByteArray), .int .i8 0, .int .i64 0, .string (⟨#[]⟩ : ByteArray), .slice none 0 0]] 8 (World.laidAll_os _ _ _)
      (World.shaped_of_ZipB (by kernel_rfl) (by kernel_rfl)) (by kernel_rfl) (by kernel_rfl) (by kernel_rfl)
      (by rw [MakeChecks.laidMetH_plain _ _ _ (by kernel_rfl)]; exact laidMet_laidAll _ (by kernel_rfl) (by kernel_rfl))) ?_
  intro W base args ds gs before hval0 hW hc hS hL _
  have hval : ∀ (j : Nat) t v, Tryz.f3.params[j]? = some t → args[j]? = some v → Value.okWide Tryz.prog W .any base t v := hval0
  have hW' := hW
  have hlt := DataW.Whole.lt hW
  obtain ⟨p, q, hA0, hV, rfl, _, _⟩ := hW
  have hA : DataW.TrodAll enc Tryz.prog W 0 (fun _ => true) true Tryz.f3.params.toList args.toList ds p := hA0
  have hAk := hA
  rw [Tryz.params3] at hA hval
  obtain ⟨v0, v1, d0, d1, p0, p1, rfl, rfl, rfl, h0, h1⟩ := trodAll_two hA
  obtain ⟨rfl, rfl⟩ := trodVars_none hV
  have hS' : ((DataW.weightsEach Tryz.prog (Tryz.f3.params.toList ++ DataSpec.varTypes Tryz.prog Rows.printPartsSpec.plain) ([d0, d1] ++ [])).all fun x => decide (x ≤ reachBytes)) = true := hS
  rw [Tryz.params3] at hS'
  obtain ⟨cs0, rfl, hcs0⟩ := okWide_struct Tryz.underlying24 (hval 0 24 v0 rfl rfl)
  obtain ⟨fuel0, hf0⟩ := h0
  replace hf0 : DataW.trod enc Tryz.prog W 0 (fun _ => true) true fuel0 24 cs0.toList = some (d0, p0) := hf0
  obtain ⟨e0, e0A, e0c, hc0, e0h, e0r⟩ := Go.Proofs.Zw.o_A hf0 (fun k hk => by
    have := List.all_eq_true.1 hS' k (DataW.weights_mem_each (j := 0) (t := 24) (d := d0) rfl rfl k hk)
    simpa using this)
  have hd0 : cs0 = ([.string e0.p, .slice e0A e0.args.length e0c]).toArray := Array.ext' hc0
  obtain ⟨cs1, rfl, hcs1⟩ := okWide_struct Tryz.underlying38 (hval 1 38 v1 rfl rfl)
  obtain ⟨fuel1, hf1⟩ := h1
  replace hf1 : DataW.trod enc Tryz.prog W 0 (fun _ => true) true fuel1 38 cs1.toList = some (d1, p1) := hf1
  obtain ⟨e1, e1Aa, e1A1, e1A2, e1ca, e1c1, e1c2, hc1, e1h, e1ra, e1r1, e1r2⟩ := Go.Proofs.Zw.o_L hf1 (fun k hk => by
    have := List.all_eq_true.1 hS' k (DataW.weights_mem_each (j := 1) (t := 38) (d := d1) rfl rfl k hk)
    simpa using this)
  have hd1 : cs1 = (ltCs e1 e1Aa e1A1 e1A2 e1ca e1c1 e1c2).toArray := Array.ext' hc1
  have h2 := DataW.TrodAll.respare (spare' := fun b => decide (b < W.heap.size)) kids_ full_ (by rw [Tryz.params3]; decide) hAk (fun x hx => by simpa using hlt x (by simpa using hx))
  subst hd0
  subst hd1
  refine Calls.mono (Go.Proofs.Zw.l_PrintParts e0 e0A e0c e1 e1Aa e1A1 e1A2 e1ca e1c1 e1c2 W e0h e0r e1h e1ra e1r1 e1r2 (tabs_of hL) (rels_of hL)) ?_
  rintro en W' ⟨v, rfl, rfl, x⟩
  have hbl := Ext.below x
  refine ⟨_, rfl, _, _, _, [], p0 ++ p1, [], hW', ?_, ?_, rfl, hbl.frame _, fun h => by cases h⟩
  · exact trodAll_mk1 (shut_bool Tryz.underlying4 true)
  · rw [Tryz.params3] at h2 ⊢
    obtain ⟨u0, u1, b0, b1, q0, q1, hu, hb, hq, ⟨fuel2, hf2⟩, ⟨fuel3, hf3⟩⟩ := trodAll_two h2
    simp only [List.cons.injEq, and_true] at hb
    obtain ⟨rfl, rfl⟩ := hb
    have hl_ : [.agg ([.string e0.p, .slice e0A e0.args.length e0c]).toArray, .agg (ltCs e1 e1Aa e1A1 e1A2 e1ca e1c1 e1c2).toArray] = [u0, u1] := congrArg Array.toList hu
    obtain rfl := (List.cons.inj hl_).1
    obtain rfl := (List.cons.inj (List.cons.inj hl_).2).1
    rw [hq] at hlt ⊢
    exact trodAll_mk2 ⟨fuel2, DataW.trod_carry fuel2 _ _ _ hf2 (fun q hq => hbl.same (hlt q (by simp [hq])))⟩ ⟨fuel3, DataW.trod_carry fuel3 _ _ _ hf3 (fun q hq => hbl.same (hlt q (by simp [hq])))⟩
theorem f_holds : Rows.PrintPartsSaid :=
  OpenClaim.holds_of_wide 3 Tryz.f3 rfl rfl rfl rfl rfl rfl rfl ⟨rfl, rfl, rfl, rfl, rfl⟩ rfl rfl rfl rfl rfl (by kernel_rfl) Tryz.func3 (by kernel_rfl)
    (of_decide_eq_true (by kernel_rfl)) (by unfold Func.isWrapper; rw [if_neg (of_decide_eq_false (by kernel_rfl))]; exact ⟨rfl, rfl⟩)
    (fun os started H enc _ => lifted os started H enc)
end Go.Proofs.YtjjkfbjidpolmaaGreatDoor

set_option maxRecDepth 100000
namespace Go.Proofs.YtjjkfbjidpolmaaGreatDoor
open Go Go.Proofs
theorem printParts_card : Rows.PrintPartsCardSaid :=
  Claim7.holds_tied_plain_at .later [] [.data, .data, .data, .data, .data, .data, .data] true (true, "8e5f5d00bd941419de4c50e2d145212bff63ccbd433706fb4c3c79556eb9ed38") true
    f_holds (fun _ h => by cases h) (by kernel_rfl) (fun _ h => by cases h) printParts_row_tie rfl ⟨rfl, rfl⟩ (by kernel_rfl) rfl
    (fun f fn hf hfn => by
      obtain rfl : f = 3 := Option.some.inj ((show Tryz.prog.funcNamed "pedigree/pedigreelaw06.PrintParts" = some 3 by kernel_rfl).symm.trans hf) |>.symm
      obtain rfl : fn = Tryz.f3 := (Option.some.inj (Tryz.func3.symm.trans hfn)).symm
      exact ⟨by kernel_rfl, fun j t ht => by
        rw [Tryz.params3] at ht
        have hm : t ∈ [24, 38] := by simpa using Array.mem_of_getElem? ht
        have hall : ([24, 38].all fun u => !Tryz.prog.wantsStandIn u) = true := by kernel_rfl
        exact (show Tryz.prog.wantsStandIn t = false by simpa using List.all_eq_true.1 hall t hm)⟩)
    (by kernel_rfl)
end Go.Proofs.YtjjkfbjidpolmaaGreatDoor
