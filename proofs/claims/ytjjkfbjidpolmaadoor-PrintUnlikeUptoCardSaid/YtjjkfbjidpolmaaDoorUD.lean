/- YtjjkfbjidpolmaaDoorUD: part of the proof of this seat, by an AI agent: the arguments are opened; the row; the tied card: the law returns true for every input that the row lets in, its arguments read behind the call as before. No condition of its own but those that its theorems state. -/
import Derived.Test.YtjjkfbjidpolmaaDoorUC
import Derived.Test.YtjjkfbjidpolmaaDoorRows
import Derived.ChangeArms
import Derived.DataReads
import Derived.SizedLaws
import Derived.Deep.Slices
import Derived.ChangeSame
import Derived.ChangeVars
import Derived.JoinedOf
import Derived.RowKit
import Derived.RowKit2
import Derived.RowKitTokens
import Derived.LaidLaws
import Derived.LaidHandle
import Derived.Stop.Joined
import Derived.ReadAgain
import Derived.ChangeAlike
import Derived.JoinedAt
import Derived.ProofKit
import Derived.OpenShut
import Derived.LaidMore
import Derived.Lay
import Derived.LaidSub
import Derived.Test.YtjjkfbjidpolmaaDoorCards
import Derived.Test.YtjjkfbjidpolmaaDoorTie
import Derived.SevenTiedAt
set_option maxHeartbeats 4000000
set_option linter.unusedVariables false
set_option linter.unusedSimpArgs false
set_option maxRecDepth 10000
namespace Go.Proofs.Dw
open Go Go.Wk Go.Proofs Go.Lib
attribute [local irreducible] Go.wpList Go.wpStill Go.wpQuiet Go.Code.wp Go.Calls
theorem F_e38 : enterable Tryd.prog 38 = true := by kernel_rfl
theorem F_e40 : enterable Tryd.prog 40 = true := by kernel_rfl
theorem F_m61 : many Tryd.prog 61 2 = true := by kernel_rfl
theorem F_sz61 : (Tryd.prog.info? 61).map (·.size) = some 2 := by kernel_rfl
theorem F_z61 : (Tryd.prog.info? 61).bind (·.zero) = some (.agg #[.string (⟨#[]⟩ : ByteArray),.slice none 0 0]) := by kernel_rfl
theorem p_facts1 (i : Nat) (x : Fc) (A : Option Addr) (c g p2 : Nat) (s0 : ByteArray) (wz : World) (w : World) (x0 : Ext wz w) (tb : Tabs Tryd.prog wz) (hb : BW 5 85 wz.heap.size w g s0) (hr : Row RV 3 wz A x.args) (hp2 : w.heap[p2]? = some (.cells #[.string x.p,.slice A x.args.length c] 61 (0,0))) (hi : i < x.args.length) (hv : okV (vlAt x.args i) = true) (hs : s0.size ≤ 100000000000000) :
    Rt Tryd.prog 40 #[.int .i64 ((i : Nat) : Int),.pointer (some ⟨g,0,none⟩),.pointer (some ⟨p2,0,none⟩)] w fun v w' => v = .tuple #[] ∧ Wr 5 85 wz.heap.size g (s0 ++ termW (vT (vlAt x.args i))) w w' := by
  refine enter Tryd.func40 rfl (l := [.int .i64 ((i : Nat) : Int),.pointer (some ⟨g,0,none⟩),.pointer (some ⟨p2,0,none⟩)]) rfl Tryd.ntmps40 (Nat.le_of_ble_eq_true rfl) ?_
  have hB_ := Keep.size x0
  refine c_reg (s_field (off := 1) (o' := 1) F_f61_1 (ej rfl rfl) rfl (w0 rfl) (s_load (v := .slice A x.args.length c) F_o59 (ej rfl rfl) (cell_of_blk (i := 1) hp2 rfl) (w0 rfl) (s_move (v := .int .i64 ((i : Nat) : Int)) (ej rfl rfl) (w0 rfl) ?_)))
  obtain ⟨b21,o22,x23,csx23,hA24,hx25,hR26,hc27⟩ := Row.at_ hr i (by omega)
  obtain rfl := vlAt_of hx25
  obtain ⟨rfl,wf28⟩ := hR26
  refine s_indexR (j := i) F_l59 (ej rfl rfl) hA24 (ej rfl rfl) rfl (by omega) (w0 rfl) (s_loadL (cs := [.int .i8 ((vlAt x.args i).k),.int .i64 ((vlAt x.args i).n),.string ((vlAt x.args i).s)]) F_m26 (ej rfl rfl) rfl rfl (sub_cells (cells_ext x0 hc27) 0 rfl) (w0 rfl) (s_build (v := .agg #[.string (⟨#[]⟩ : ByteArray),.int .i8 ((vlAt x.args i).k),.int .i64 ((vlAt x.args i).n),.string ((vlAt x.args i).s)]) (vs := [(1,.agg #[.int .i8 ((vlAt x.args i).k),.int .i64 ((vlAt x.args i).n),.string ((vlAt x.args i).s)])]) (b1 (ej rfl rfl)) (bd28_1ii8_1ii64_1s ((vlAt x.args i).k) ((vlAt x.args i).n) ((vlAt x.args i).s)) (w0 rfl) (s_call F_e41 (w0 rfl) ev_f (m2 (ej rfl rfl) (ej rfl rfl)) (args := #[.pointer (some ⟨g,0,none⟩),.agg #[.string (⟨#[]⟩ : ByteArray),.int .i8 ((vlAt x.args i).k),.int .i64 ((vlAt x.args i).n),.string ((vlAt x.args i).s)]]) rfl (p_term (vT (vlAt x.args i)) g (s0) wz _ x0 tb hb (vT_wf wf28) (by have := termW_size (tmB_vT hv) (vT_wf (RV_wf hr hi)); omega)) ?_)))
  rintro _ w29 ⟨rfl,wr30⟩
  refine c_done (ret0 rfl ?_)
  exact ⟨_,rfl,rfl,Wr.cast wr30 (rfl)⟩
theorem p_columnsF (nm : ByteArray) (n : Nat) (l : List ByteArray) (g p2 : Nat) (s0 : ByteArray) (wz : World) (w : World) (x0 : Ext wz w) (tb : Tabs Tryd.prog wz) (hb : BW 5 85 wz.heap.size w g s0) (hnl : n = l.length) (hn : l.length ≤ 24) (hM : ∀ i,i < l.length → (l.getD i ⟨#[]⟩).size ≤ 1000) (hs : s0.size + nm.size + 30000 ≤ 100000000000000) (hone : ∀ (i : Nat) (w' : World) (s1 : ByteArray),i < l.length → Ext wz w' → Bld 5 g w w' → BW 5 85 wz.heap.size w' g s1 → s1.size ≤ 100000000000000 → Rt Tryd.prog 40 #[.int .i64 ((i : Nat) : Int),.pointer (some ⟨g,0,none⟩),.pointer (some ⟨p2,0,none⟩)] w' fun v w2 => v = .tuple #[] ∧ Wr 5 85 wz.heap.size g (s1 ++ l.getD i ⟨#[]⟩) w' w2) :
    Rt Tryd.prog 39 #[.pointer (some ⟨g,0,none⟩),.string nm,.int .i64 ((n : Nat) : Int),.func (.func 40) #[] #[.pointer (some ⟨g,0,none⟩),.pointer (some ⟨p2,0,none⟩)]] w fun v w' => v = .tuple #[] ∧ Wr 5 85 wz.heap.size g (s0 ++ colW nm l) w w' := by
  refine enter Tryd.func39 rfl (l := [.pointer (some ⟨g,0,none⟩),.string nm,.int .i64 ((n : Nat) : Int),.func (.func 40) #[] #[.pointer (some ⟨g,0,none⟩),.pointer (some ⟨p2,0,none⟩)]]) rfl Tryd.ntmps39 (Nat.le_of_ble_eq_true rfl) ?_
  subst hnl
  have hB_ := Keep.size x0
  refine c_seq (c_reg (s_move (v := .pointer (some ⟨g,0,none⟩)) (ej rfl rfl) (w0 rfl) (s_move (v := .string nm) (ej rfl rfl) (w0 rfl) (s_bslice (vs := [(0,.string nm)]) (cs := #[.string nm]) (b1 (ej rfl rfl)) (bs122_1_0s nm) (w0 rfl) ?_))))
  intro w2 g1 n3
  have ne_g1 : g1 ≠ g := by have a_ := NewB.eq n3; have b_ := BW.lt hb; omega
  refine s_call F_e35 (w0 rfl) ev_f (m2 (ej rfl rfl) (ej rfl rfl)) (args := #[.pointer (some ⟨g,0,none⟩),.slice (some ⟨g1,0,none⟩) 1 1]) rfl (p_put 85 _ g g1 (s0) [nm] _ (BW.ext hb (NewB.ext n3)) (Nat.le_trans hB_ (Keep.size (NewB.ext n3))) (by decide) F_lies85 (NewB.blk n3) (by simp only [catL,ByteArray.size_append,z0,z1,z2,z3,z4,z5,z6]; omega) (by simp)) ?_
  rintro _ w4 ⟨rfl,wr5⟩
  refine c_done (n_then (c_seq (c_seq (c_reg (s_move (v := .int .i64 ((l.length : Nat) : Int)) (ej rfl rfl) (w0 rfl) (s_move (v := .int .i64 0) ev_c (w0 rfl) (c_done (n_then (c_block (c_loop (α := Nat) (fun (i : Nat) env_ w_ => Wr 5 85 wz.heap.size g (s0 ++ nm ++ colP l i) w w_ ∧ i ≤ l.length ∧ env_ 0 = .pointer (some ⟨g,0,none⟩) ∧ env_ 2 = .int .i64 ((l.length : Nat) : Int) ∧ env_ 3 = .func (.func 40) #[] #[.pointer (some ⟨g,0,none⟩),.pointer (some ⟨p2,0,none⟩)] ∧ env_ 13 = .int .i64 ((l.length : Nat) : Int) ∧ env_ 14 = .int .i64 ((i : Nat) : Int)) (fun i => l.length - i) (0) ⟨(Wr.cast (Wr.then_ (Wr.of_ext hb (NewB.ext n3) hB_) wr5) (by simp [catL,app_nil,colP])),Nat.zero_le _,rfl,rfl,rfl,rfl,rfl⟩ ?_))))))))))
  rintro i env8 w6 ⟨x7,i9,e10,e11,e12,e13,e14⟩
  have hP_ := colP_le hM i i9
  have hM2_ := hM i
  refine c_seq (c_reg (s_cmp (r := decide (((i : Nat) : Int) < ((l.length : Nat) : Int))) (ej rfl e14) (ej rfl e13) rfl (w0 rfl) (c_done (n_then (c_seq ?_)))))
  by_cases h15 : ((i : Nat) : Int) < ((l.length : Nat) : Int)
  · refine c_cond1 (vb (ej rfl rfl) (decide_eq_true h15)) (c_skip (n_then (c_seq (c_block (c_seq (c_reg (s_move (v := .int .i64 ((i : Nat) : Int)) (ej rfl e14) (w0 rfl) (s_assign (v := .int .i64 ((i : Nat) : Int)) (ej rfl rfl) (w0 rfl) (c_done (n_then (c_seq ?_)))))))))))
    refine c_seq (c_reg (s_move (v := .int .i64 ((i : Nat) : Int)) (ej rfl rfl) (w0 rfl) (s_cmp (r := decide (((i : Nat) : Int) = 0)) (ej rfl rfl) ev_c rfl (w0 rfl) (c_done (n_then ?_)))))
    by_cases h16 : ((i : Nat) : Int) = 0
    · refine c_cond1 (vb (ej rfl rfl) (decide_eq_true h16)) (c_reg (s_move (v := .pointer (some ⟨g,0,none⟩)) (ej rfl e10) (w0 rfl) (s_bslice (vs := [(0,.string (⟨#[40]⟩ : ByteArray))]) (cs := #[.string (⟨#[40]⟩ : ByteArray)]) (b1 ev_c) (bs122_1_0s (⟨#[40]⟩ : ByteArray)) (w0 rfl) ?_)))
      intro w18 g17 n19
      have ne_g17 : g17 ≠ g := by have a_ := NewB.eq n19; have b_ := BW.lt (Wr.bw x7); omega
      refine s_call F_e35 (w0 rfl) ev_f (m2 (ej rfl rfl) (ej rfl rfl)) (args := #[.pointer (some ⟨g,0,none⟩),.slice (some ⟨g17,0,none⟩) 1 1]) rfl (p_put 85 _ g g17 (s0 ++ nm ++ colP l i) [(⟨#[40]⟩ : ByteArray)] _ (BW.ext (Wr.bw x7) (NewB.ext n19)) (Nat.le_trans (Nat.le_trans hB_ (Wr.size x7)) (Keep.size (NewB.ext n19))) (by decide) F_lies85 (NewB.blk n19) (by simp only [catL,ByteArray.size_append,z0,z1,z2,z3,z4,z5,z6]; omega) (by simp)) ?_
      rintro _ w20 ⟨rfl,wr21⟩
      refine c_done (n_then (c_reg (s_move (v := .func (.func 40) #[] #[.pointer (some ⟨g,0,none⟩),.pointer (some ⟨p2,0,none⟩)]) (ej rfl e12) (w0 rfl) (s_move (v := .int .i64 ((i : Nat) : Int)) (ej rfl rfl) (w0 rfl) (s_call F_e40 (w0 rfl) (ej rfl rfl) (m1 (ej rfl rfl)) (args := #[.int .i64 ((i : Nat) : Int),.pointer (some ⟨g,0,none⟩),.pointer (some ⟨p2,0,none⟩)]) rfl (hone i _ (s0 ++ nm ++ colP l i ++ (catL [(⟨#[40]⟩ : ByteArray)])) (by omega) (Wr.after wr21 (Ext.trans (Wr.after x7 x0 rfl) (NewB.ext n19)) rfl) (Wr.bld (Wr.then_ (Wr.ext x7 (NewB.ext n19) hB_) wr21)) (Wr.bw wr21) (by simp only [catL,ByteArray.size_append,z0,z1,z2]; omega)) ?_)))))
      rintro _ w22 ⟨rfl,wr23⟩
      refine c_done (n_block (n_then (c_reg (s_add (r := ((i + 1 : Nat) : Int)) (ej rfl e14) ev_c (by omega) (by omega) (w0 rfl) (s_move (v := .int .i64 ((i + 1 : Nat) : Int)) (ej rfl rfl) (w0 rfl) (c_done ?_))))))
      exact ⟨(i + 1),_,rfl,⟨(Wr.cast (Wr.then_ (Wr.then_ (Wr.ext x7 (NewB.ext n19) hB_) wr21) wr23) (by simp only [colP]; (first | rw [if_pos (by omega)] | rw [if_neg (by omega)]); simp only [catL,app_nil,app_assoc])),by omega,e10,e11,e12,e13,rfl⟩,(show l.length - (i + 1) < l.length - i by omega)⟩
    refine c_cond0 (vb (ej rfl rfl) (decide_eq_false h16)) (c_reg (s_move (v := .pointer (some ⟨g,0,none⟩)) (ej rfl e10) (w0 rfl) (s_bslice (vs := [(0,.string (⟨#[44,32]⟩ : ByteArray))]) (cs := #[.string (⟨#[44,32]⟩ : ByteArray)]) (b1 ev_c) (bs122_1_0s (⟨#[44,32]⟩ : ByteArray)) (w0 rfl) ?_)))
    intro w25 g24 n26
    have ne_g24 : g24 ≠ g := by have a_ := NewB.eq n26; have b_ := BW.lt (Wr.bw x7); omega
    refine s_call F_e35 (w0 rfl) ev_f (m2 (ej rfl rfl) (ej rfl rfl)) (args := #[.pointer (some ⟨g,0,none⟩),.slice (some ⟨g24,0,none⟩) 1 1]) rfl (p_put 85 _ g g24 (s0 ++ nm ++ colP l i) [(⟨#[44,32]⟩ : ByteArray)] _ (BW.ext (Wr.bw x7) (NewB.ext n26)) (Nat.le_trans (Nat.le_trans hB_ (Wr.size x7)) (Keep.size (NewB.ext n26))) (by decide) F_lies85 (NewB.blk n26) (by simp only [catL,ByteArray.size_append,z0,z1,z2,z3,z4,z5,z6]; omega) (by simp)) ?_
    rintro _ w27 ⟨rfl,wr28⟩
    refine c_done (n_then (c_reg (s_move (v := .func (.func 40) #[] #[.pointer (some ⟨g,0,none⟩),.pointer (some ⟨p2,0,none⟩)]) (ej rfl e12) (w0 rfl) (s_move (v := .int .i64 ((i : Nat) : Int)) (ej rfl rfl) (w0 rfl) (s_call F_e40 (w0 rfl) (ej rfl rfl) (m1 (ej rfl rfl)) (args := #[.int .i64 ((i : Nat) : Int),.pointer (some ⟨g,0,none⟩),.pointer (some ⟨p2,0,none⟩)]) rfl (hone i _ (s0 ++ nm ++ colP l i ++ (catL [(⟨#[44,32]⟩ : ByteArray)])) (by omega) (Wr.after wr28 (Ext.trans (Wr.after x7 x0 rfl) (NewB.ext n26)) rfl) (Wr.bld (Wr.then_ (Wr.ext x7 (NewB.ext n26) hB_) wr28)) (Wr.bw wr28) (by simp only [catL,ByteArray.size_append,z0,z1,z2]; omega)) ?_)))))
    rintro _ w29 ⟨rfl,wr30⟩
    refine c_done (n_block (n_then (c_reg (s_add (r := ((i + 1 : Nat) : Int)) (ej rfl e14) ev_c (by omega) (by omega) (w0 rfl) (s_move (v := .int .i64 ((i + 1 : Nat) : Int)) (ej rfl rfl) (w0 rfl) (c_done ?_))))))
    exact ⟨(i + 1),_,rfl,⟨(Wr.cast (Wr.then_ (Wr.then_ (Wr.ext x7 (NewB.ext n26) hB_) wr28) wr30) (by simp only [colP]; (first | rw [if_pos (by omega)] | rw [if_neg (by omega)]); simp only [catL,app_nil,app_assoc])),by omega,e10,e11,e12,e13,rfl⟩,(show l.length - (i + 1) < l.length - i by omega)⟩
  refine c_cond0 (vb (ej rfl rfl) (decide_eq_false h15)) (c_exit (e_then (e_then (e_hit (n_then (c_seq (c_reg (s_move (v := .int .i64 ((l.length : Nat) : Int)) (ej rfl e11) (w0 rfl) (s_cmp (r := decide (0 < ((l.length : Nat) : Int))) (ej rfl rfl) ev_c rfl (w0 rfl) (c_done (n_then ?_)))))))))))
  by_cases h31 : 0 < ((l.length : Nat) : Int)
  · refine c_cond1 (vb (ej rfl rfl) (decide_eq_true h31)) (c_reg (s_move (v := .pointer (some ⟨g,0,none⟩)) (ej rfl e10) (w0 rfl) (s_bslice (vs := [(0,.string (⟨#[41]⟩ : ByteArray))]) (cs := #[.string (⟨#[41]⟩ : ByteArray)]) (b1 ev_c) (bs122_1_0s (⟨#[41]⟩ : ByteArray)) (w0 rfl) ?_)))
    intro w33 g32 n34
    have ne_g32 : g32 ≠ g := by have a_ := NewB.eq n34; have b_ := BW.lt (Wr.bw x7); omega
    refine s_call F_e35 (w0 rfl) ev_f (m2 (ej rfl rfl) (ej rfl rfl)) (args := #[.pointer (some ⟨g,0,none⟩),.slice (some ⟨g32,0,none⟩) 1 1]) rfl (p_put 85 _ g g32 (s0 ++ nm ++ colP l i) [(⟨#[41]⟩ : ByteArray)] _ (BW.ext (Wr.bw x7) (NewB.ext n34)) (Nat.le_trans (Nat.le_trans hB_ (Wr.size x7)) (Keep.size (NewB.ext n34))) (by decide) F_lies85 (NewB.blk n34) (by simp only [catL,ByteArray.size_append,z0,z1,z2,z3,z4,z5,z6]; omega) (by simp)) ?_
    rintro _ w35 ⟨rfl,wr36⟩
    refine c_done (ret0 rfl ?_)
    exact ⟨_,rfl,rfl,Wr.cast (Wr.then_ (Wr.ext x7 (NewB.ext n34) hB_) wr36) (by (have e_ : i = l.length := by omega); subst e_; unfold colW; first | (rw [if_neg (by omega)]; simp only [catL,app_nil,app_assoc]; done) | ((have e2_ : l.length = 0 := by omega); rw [if_pos e2_,e2_]; simp [colP,app_nil]))⟩
  refine c_cond0 (vb (ej rfl rfl) (decide_eq_false h31)) (c_skip (ret0 rfl ?_))
  exact ⟨_,rfl,rfl,Wr.cast x7 (by (have e_ : i = l.length := by omega); subst e_; unfold colW; first | (rw [if_neg (by omega)]; simp only [catL,app_nil,app_assoc]; done) | ((have e2_ : l.length = 0 := by omega); rw [if_pos e2_,e2_]; simp [colP,app_nil]))⟩
theorem p_Facts0 (A : Option Addr) (c : Nat) (w : World) (tb : Tabs Tryd.prog w) :
    Rt Tryd.prog 17 #[.slice A 0 c] w fun v w' => v = .tuple #[.string (⟨#[]⟩ : ByteArray),.int .i64 0] ∧ Ext w w' := by
  refine enter Tryd.func17 rfl (l := [.slice A 0 c]) rfl Tryd.ntmps17 (Nat.le_of_ble_eq_true rfl) ?_
  refine c_seq (c_reg (s_assign (v := .string (⟨#[]⟩ : ByteArray)) ev_c (w0 rfl) (s_assign (v := .int .i64 0) ev_c (w0 rfl) (c_done (n_then (c_seq (c_reg (s_alloc (cs := #[.pointer none,.slice none 0 0]) (w0 rfl) F_z85 rfl ?_))))))))
  intro w2 g1 n3
  refine c_done (n_then (c_seq (c_seq (c_reg (s_move (v := .slice A 0 c) (ej rfl rfl) (w0 rfl) (s_lenL F_l43 (ej rfl rfl) (w0 rfl) (s_move (v := .int .i64 0) ev_c (w0 rfl) (c_done (n_then (c_block ?_))))))))))
  have ge4 : w.heap.size ≤ g1 := by have a_ := NewB.eq n3; have b_ := Keep.size (Ext.refl w); omega
  refine c_loop (α := Unit) (fun (_ : Unit) env_ w_ => Ext w w_ ∧ w_.heap[g1]? = some (.cells #[.pointer none,.slice none 0 0] 85 (0,0)) ∧ env_ 4 = .pointer (some ⟨g1,0,none⟩) ∧ env_ 7 = .slice A 0 c ∧ env_ 8 = .int .i64 0 ∧ env_ 9 = .int .i64 0) (fun _ => 0) (()) ⟨(NewB.ext n3),(NewB.blk n3),rfl,rfl,rfl,rfl⟩ ?_
  rintro _ env7 w5 ⟨x6,bk12,e8,e9,e10,e11⟩
  refine c_seq (c_reg (s_cmp (r := false) (ej rfl e11) (ej rfl e10) rfl (w0 rfl) (c_done (n_then (c_seq (c_cond0 (ej rfl rfl) (c_exit (e_then (e_then (e_hit (n_then ?_)))))))))))
  refine c_seq (c_reg (s_field (off := 0) (o' := 0) F_f85_0 (ej rfl e8) rfl (w0 rfl) (s_call F_e36 (w0 rfl) ev_f (m1 (ej rfl rfl)) (args := #[.pointer (some ⟨g1,0,none⟩)]) rfl (b_String0 _ g1 _ bk12) ?_)))
  rintro _ w14 ⟨rfl,x13⟩
  refine s_assign (v := .string (⟨#[]⟩ : ByteArray)) (ej rfl rfl) (w0 rfl) (s_assign (v := .int .i64 0) ev_c (w0 rfl) (c_done (n_then (c_ret (ret2 (v := .string (⟨#[]⟩ : ByteArray)) (v2 := .int .i64 0) rfl rfl rfl rfl rfl ?_)))))
  refine ⟨_,rfl,?_,(Ext.trans x6 x13)⟩
  rfl
theorem p_Facts1 (l : List Fc) (A : Option Addr) (c : Nat) (w : World) (hl : l.length * 40 ≤ 140737488351232) (hr : Row RF 2 w A l) (hfewf : l.length ≤ 1048577) (tb : Tabs Tryd.prog w) (tk : KwT Tryd.prog w) (hne_ : l.length ≠ 0) :
    Rt Tryd.prog 17 #[.slice A l.length c] w fun v w' => v = .tuple #[.string (if l.all mayB then fsT l else ⟨#[]⟩),.int .i64 (code10 (l.all mayB))] ∧ Ext w w' := by
  refine enter Tryd.func17 rfl (l := [.slice A l.length c]) rfl Tryd.ntmps17 (Nat.le_of_ble_eq_true rfl) ?_
  refine c_seq (c_reg (s_assign (v := .string (⟨#[]⟩ : ByteArray)) ev_c (w0 rfl) (s_assign (v := .int .i64 0) ev_c (w0 rfl) (c_done (n_then (c_seq (c_reg (s_alloc (cs := #[.pointer none,.slice none 0 0]) (w0 rfl) F_z85 rfl ?_))))))))
  intro w2 g1 n3
  have bw_ : BW 5 85 w.heap.size w2 g1 ⟨#[]⟩ := BW.new n3 rfl (by decide) (Keep.size (Ext.refl w))
  have hB_ := Keep.size (NewB.ext n3)
  refine c_done (n_then (c_seq (c_seq (c_reg (s_move (v := .slice A l.length c) (ej rfl rfl) (w0 rfl) (s_lenL F_l43 (ej rfl rfl) (w0 rfl) (s_move (v := .int .i64 0) ev_c (w0 rfl) (c_done (n_then (c_block ?_))))))))))
  refine c_loop (α := Nat) (fun (i : Nat) env_ w_ => Wr 5 85 w.heap.size g1 (fsW l i) w2 w_ ∧ i ≤ l.length ∧ (∀ j y,j < i → l[j]? = some y → mayB y = true) ∧ env_ 4 = .pointer (some ⟨g1,0,none⟩) ∧ env_ 7 = .slice A l.length c ∧ env_ 8 = .int .i64 (l.length : Int) ∧ env_ 9 = .int .i64 ((i : Nat) : Int)) (fun i => l.length - i) (0) ⟨(Wr.cast (Wr.refl bw_) (by first | rfl | (rw [nil_app]; rfl))),Nat.zero_le _,(fun j y h => absurd h (Nat.not_lt_zero j)),rfl,rfl,rfl,rfl⟩ ?_
  rintro i env6 w4 ⟨x5,i7,i8,e9,e10,e11,e12⟩
  have hP_ := fsW_le hr i i7 i8
  refine c_seq (c_reg (s_cmp (r := decide (((i : Nat) : Int) < (l.length : Int))) (ej rfl e12) (ej rfl e11) rfl (w0 rfl) (c_done (n_then (c_seq ?_)))))
  by_cases h13 : ((i : Nat) : Int) < (l.length : Int)
  · refine c_cond1 (vb (ej rfl rfl) (decide_eq_true h13)) (c_skip (n_then (c_seq (c_block (c_seq (c_reg ?_))))))
    obtain ⟨b14,o15,x16,csx16,hA17,hx18,hR19,hc20⟩ := Row.at_ hr i (by omega)
    obtain rfl := fcAt_of hx18
    obtain ⟨A21,c22,rfl,ho23,hr24⟩ := hR19
    have := Fc.okc.p ho23
    have := Fc.okc.l ho23
    have := Fc.okc.c ho23
    refine s_indexR (j := i) F_l43 (ej rfl e10) hA17 (ej rfl e12) rfl (by omega) (w0 rfl) (s_loadL (cs := [.string ((fcAt l i).p),.slice A21 ((fcAt l i).args.length) c22]) F_m61 (ej rfl rfl) rfl rfl (sub_cells (cells_ext (Wr.after x5 (NewB.ext n3) rfl) hc20) 0 rfl) (w0 rfl) (s_alloc (cs := #[.string (⟨#[]⟩ : ByteArray),.slice none 0 0]) (w0 rfl) F_z61 rfl ?_))
    intro w26 g25 n27
    have ne_g25 : g25 ≠ g1 := by have a_ := NewB.eq n27; have b_ := BW.lt (Wr.bw x5); omega
    refine s_store (cs' := #[.string ((fcAt l i).p),.slice A21 ((fcAt l i).args.length) c22]) F_sz61 (ej rfl rfl) (ej rfl rfl) (l := [.string ((fcAt l i).p),.slice A21 ((fcAt l i).args.length) c22]) rfl rfl rfl (NewB.blk n27) (Nat.le_of_ble_eq_true rfl) rfl (w0 rfl) ?_
    intro w28 k29
    refine c_done (n_then (c_seq (c_seq (c_reg (s_loadL (cs := [.string ((fcAt l i).p),.slice A21 ((fcAt l i).args.length) c22]) F_m61 (ej rfl rfl) rfl rfl (blk_cells (Wrote.blk k29) 0 rfl) (w0 rfl) (s_call F_e38 (w0 rfl) ev_f (m1 (ej rfl rfl)) (args := #[.agg #[.string ((fcAt l i).p),.slice A21 ((fcAt l i).args.length) c22]]) rfl (p_mayBe (fcAt l i) A21 c22 _ ho23 (Row.extV hr24 (Keep.then_ (Ext.trans (Wr.after x5 (NewB.ext n3) rfl) (NewB.ext n27)) (Wrote.keep k29) (fun i_ hi_ h_ => by have a_ := NewB.eq n27; have b_ := Keep.size (Wr.after x5 (NewB.ext n3) rfl); omega))) (KwT.ext tk (Keep.then_ (Ext.trans (Wr.after x5 (NewB.ext n3) rfl) (NewB.ext n27)) (Wrote.keep k29) (fun i_ hi_ h_ => by have a_ := NewB.eq n27; have b_ := Keep.size (Wr.after x5 (NewB.ext n3) rfl); omega)))) ?_))))))
    rintro _ w31 ⟨rfl,x30⟩
    refine s_not (b := mayB (fcAt l i)) (ej rfl rfl) (w0 rfl) (c_done (n_then ?_))
    rcases Bool.eq_false_or_eq_true (mayB (fcAt l i)) with h32 | h32
    · refine c_cond0 (vb (ej rfl rfl) (nbt h32)) (c_skip (n_then (c_seq (c_reg (s_field (off := 0) (o' := 0) F_f61_0 (ej rfl rfl) rfl (w0 rfl) (s_load (v := .string ((fcAt l i).p)) F_o9 (ej rfl rfl) (cell_of_blk (i := 0) (Ext.blk x30 (Wrote.blk k29)) rfl) (w0 rfl) (s_field (off := 1) (o' := 1) F_f61_1 (ej rfl rfl) rfl (w0 rfl) (s_load (v := .slice A21 ((fcAt l i).args.length) c22) F_o59 (ej rfl rfl) (cell_of_blk (i := 1) (Ext.blk x30 (Wrote.blk k29)) rfl) (w0 rfl) (s_lenL F_l59 (ej rfl rfl) (w0 rfl) (s_makeFunc (vf := #[]) (vc := #[.pointer (some ⟨g1,0,none⟩),.pointer (some ⟨g25,0,none⟩)]) m0 (m2 (ej rfl e9) (ej rfl rfl)) (w0 rfl) ?_))))))))))
      obtain ⟨_,hm33p,hm33n,hm33v⟩ := mayB_parts (x := (fcAt l i)) (by assumption)
      refine s_call F_e39 (w0 rfl) ev_f (m4 (ej rfl e9) (ej rfl rfl) (ej rfl rfl) (ej rfl rfl)) (args := #[.pointer (some ⟨g1,0,none⟩),.string ((fcAt l i).p),.int .i64 ((fcAt l i).args.length : Int),.func (.func 40) #[] #[.pointer (some ⟨g1,0,none⟩),.pointer (some ⟨g25,0,none⟩)]]) rfl (p_columnsF ((fcAt l i).p) _ ((fcAt l i).args.map (fun v_ => termW (vT v_))) g1 g25 (fsW l i) w _ (Ext.trans (Keep.then_ (Ext.trans (Wr.after x5 (NewB.ext n3) rfl) (NewB.ext n27)) (Wrote.keep k29) (fun i_ hi_ h_ => by have a_ := NewB.eq n27; have b_ := Keep.size (Wr.after x5 (NewB.ext n3) rfl); omega)) x30) tb (BW.ext (Wr.bw x5) (Ext.trans (Keep.then_ (NewB.ext n27) (Wrote.keep k29) (fun i_ hi_ h_ => by have a_ := NewB.eq n27; have b_ := Keep.size (Ext.refl w4); omega)) x30)) (by rw [List.length_map]) (by rw [List.length_map]; exact hm33n) (fun i_ hi_ => by rw [List.length_map] at hi_; rw [vW_at hi_]; have z_ := termW_size (tmB_vT (hm33v i_ hi_)) (vT_wf (RV_wf hr24 hi_)); omega) (by omega) (fun i_ w_ s_ hi_ x_ bl_ hb_ hs_ => by rw [List.length_map] at hi_; rw [vW_at hi_]; exact p_facts1 i_ (fcAt l i) A21 c22 g1 g25 s_ w w_ x_ tb hb_ hr24 (Bld.blk bl_ (Ext.blk x30 (Wrote.blk k29)) (Or.inl (by decide)) ne_g25) hi_ (hm33v i_ hi_) hs_)) ?_
      rintro _ w34 ⟨rfl,wr35⟩
      refine c_done (n_then (c_reg (s_bslice (vs := [(0,.string (⟨#[46,10]⟩ : ByteArray))]) (cs := #[.string (⟨#[46,10]⟩ : ByteArray)]) (b1 ev_c) (bs122_1_0s (⟨#[46,10]⟩ : ByteArray)) (w0 rfl) ?_)))
      intro w37 g36 n38
      have ne_g36 : g36 ≠ g1 := by have a_ := NewB.eq n38; have b_ := BW.lt (Wr.bw wr35); omega
      refine s_call F_e35 (w0 rfl) ev_f (m2 (ej rfl e9) (ej rfl rfl)) (args := #[.pointer (some ⟨g1,0,none⟩),.slice (some ⟨g36,0,none⟩) 1 1]) rfl (p_put 85 _ g1 g36 (fsW l i ++ (fcW (fcAt l i))) [(⟨#[46,10]⟩ : ByteArray)] _ (BW.ext (Wr.bw wr35) (NewB.ext n38)) (Nat.le_trans (Nat.le_trans (Nat.le_trans (Nat.le_trans (Nat.le_trans (Nat.le_trans hB_ (Wr.size x5)) (Keep.size (NewB.ext n27))) (Keep.size (Wrote.keep k29))) (Keep.size x30)) (Wr.size wr35)) (Keep.size (NewB.ext n38))) (by decide) F_lies85 (NewB.blk n38) (by have hq_ := fcW_at hr (i := i) (by omega) (by assumption); (try simp only [catL,ByteArray.size_append,z0,z1,z2]); omega) (by simp)) ?_
      rintro _ w39 ⟨rfl,wr40⟩
      refine c_done (n_block (n_then (c_reg (s_add (r := ((i + 1 : Nat) : Int)) (ej rfl e12) ev_c (by omega) (by omega) (w0 rfl) (s_move (v := .int .i64 ((i + 1 : Nat) : Int)) (ej rfl rfl) (w0 rfl) (c_done ?_))))))
      exact ⟨(i + 1),_,rfl,⟨(Wr.cast (Wr.then_ (Wr.ext (Wr.then_ (Wr.ext x5 (Ext.trans (Keep.then_ (NewB.ext n27) (Wrote.keep k29) (fun i_ hi_ h_ => by have a_ := NewB.eq n27; have b_ := Keep.size (Ext.refl w4); omega)) x30) hB_) wr35) (NewB.ext n38) hB_) wr40) (by simp only [fsW,catL,app_nil,app_assoc])),by omega,(kids_step i8 (fcAt_there (by omega)) (by assumption)),e9,e10,e11,rfl⟩,(show l.length - (i + 1) < l.length - i by omega)⟩
    refine c_cond1 (vb (ej rfl rfl) (nbf h32)) (c_seq (c_reg (s_assign (v := .string (⟨#[]⟩ : ByteArray)) ev_c (w0 rfl) (s_assign (v := .int .i64 10) ev_c (w0 rfl) (c_done (n_then (c_ret (r_then (r_block (r_then (r_then ?_)))))))))))
    refine r_block (r_then (ret2 (v := .string (⟨#[]⟩ : ByteArray)) (v2 := .int .i64 10) rfl rfl rfl rfl rfl ?_))
    refine ⟨_,rfl,?_,(Ext.trans (Keep.then_ (Ext.trans (Wr.after x5 (NewB.ext n3) rfl) (NewB.ext n27)) (Wrote.keep k29) (fun i_ hi_ h_ => by have a_ := NewB.eq n27; have b_ := Keep.size (Wr.after x5 (NewB.ext n3) rfl); omega)) x30)⟩
    (rw [all_no (fcAt_there (l := l) (j := i) (by omega)) (by assumption)]; rfl)
  refine c_cond0 (vb (ej rfl rfl) (decide_eq_false h13)) (c_exit (e_then (e_then (e_hit (n_then (c_seq (c_reg (s_field (off := 0) (o' := 0) F_f85_0 (ej rfl e9) rfl (w0 rfl) (s_call F_e36 (w0 rfl) ev_f (m1 (ej rfl rfl)) (args := #[.pointer (some ⟨g1,0,none⟩)]) rfl (b_String 85 _ g1 (fsW l i) _ (Wr.bw x5) (Nat.le_trans hB_ (Wr.size x5)) (by (have e_ : i = l.length := (by omega)); subst e_; exact fsT_ne hne_)) ?_)))))))))
  rintro _ w41 ⟨rfl,bl42⟩
  refine s_assign (v := .string (fsW l i)) (ej rfl rfl) (w0 rfl) (s_assign (v := .int .i64 0) ev_c (w0 rfl) (c_done (n_then (c_ret (ret2 (v := .string (fsW l i)) (v2 := .int .i64 0) rfl rfl rfl rfl rfl ?_)))))
  refine ⟨_,rfl,?_,(ext_bel (Wr.after x5 (NewB.ext n3) rfl) bl42)⟩
  (rw [all_yes (by omega) i8]; (have e_ : i = l.length := (by omega)); subst e_; rfl)
theorem p_Facts (l : List Fc) (A : Option Addr) (c : Nat) (w : World) (hl : l.length * 40 ≤ 140737488351232) (hr : Row RF 2 w A l) (hfewf : l.length ≤ 1048577) (tb : Tabs Tryd.prog w) (tk : KwT Tryd.prog w) : Rt Tryd.prog 17 #[.slice A l.length c] w fun v w' => v = .tuple #[.string (if l.all mayB then fsT l else ⟨#[]⟩),.int .i64 (code10 (l.all mayB))] ∧ Ext w w' := by
  by_cases h0 : l.length = 0
  · obtain rfl : l = [] := List.length_eq_zero_iff.1 h0
    exact Rt.mono (p_Facts0 A c w tb) (fun v w' h => h)
  exact p_Facts1 l A c w hl hr hfewf tb tk h0
end Go.Proofs.Dw

set_option linter.unusedVariables false
set_option linter.unusedSimpArgs false
namespace Go.Wk
open Go Go.RowKit Go.Lib Go.Sort
/-! ### a printed text is plain -/
def plainC (b : UInt8) : Bool := decide (32 ≤ b.toNat ∧ b.toNat ≤ 126)
def PL (s : ByteArray) : Prop := ∀ b,b ∈ s.data.toList → plainC b = true
theorem byteAt_at {s : ByteArray} {j : Nat} (h : j < s.size) : ∃ b,s.data.toList[j]? = some b ∧ byteAt s j = b.toNat := by
  have h' : j < s.data.size := h
  refine ⟨s.data[j],by simp [h'],?_⟩
  exact (byteAt_get h).symm
theorem PL.plain {s : ByteArray} (h : PL s) : plainB s = true := by
  simp only [plainB,decide_eq_true_eq]
  intro j hj
  obtain ⟨b,hb,e⟩ := byteAt_at hj
  have := h b (List.mem_of_getElem? hb)
  simp only [plainC,decide_eq_true_eq] at this
  omega
theorem PL.app {a b : ByteArray} (ha : PL a) (hb : PL b) : PL (a ++ b) := by
  intro c hc
  have e : (a ++ b).data.toList = a.data.toList ++ b.data.toList := by simp
  rw [e,List.mem_append] at hc
  exact hc.elim (ha c) (hb c)
theorem PL.of {l : List UInt8} (h : l.all plainC = true) : PL ⟨l.toArray⟩ := by
  intro c hc
  have : c ∈ l := by simpa using hc
  exact List.all_eq_true.1 h c this
theorem letter_plain {b : UInt8} (h : letterB (b.toNat : Int) = true) : plainC b = true := by
  simp only [letterB,decide_eq_true_eq] at h
  simp only [plainC,decide_eq_true_eq]
  omega
theorem word_letters {s : ByteArray} {lo hi : Int} (h : wordB s lo hi = true) : ∀ b,b ∈ s.data.toList → letterB (b.toNat : Int) = true := by
  intro b hb
  simp only [wordB,decide_eq_true_eq] at h
  obtain ⟨j,hj⟩ := List.mem_iff_getElem?.1 hb
  have hlt : j < s.data.toList.length := (List.getElem?_eq_some_iff.1 hj).1
  have hlt' : j < s.size := by simpa using hlt
  obtain ⟨c,hc,e⟩ := byteAt_at hlt'
  have : c = b := by rw [hc] at hj; exact Option.some.inj hj
  subst this
  rw [← e]; exact h.2.2.2.2 j hlt'
theorem PL.word {s : ByteArray} {lo hi : Int} (h : wordB s lo hi = true) : PL s := fun b hb => letter_plain (word_letters h b hb)
theorem PL.name {s : ByteArray} (h : nameB s = true) : PL s := by
  simp only [nameB,Bool.and_eq_true] at h; exact PL.word h.1
def digitC (b : UInt8) : Bool := decide (48 ≤ b.toNat ∧ b.toNat ≤ 57)
theorem digit_digit {k : Nat} (h : k < 10) : digitC (UInt8.ofNat (48 + k)) = true := by
  have : k = 0 ∨ k = 1 ∨ k = 2 ∨ k = 3 ∨ k = 4 ∨ k = 5 ∨ k = 6 ∨ k = 7 ∨ k = 8 ∨ k = 9 := by omega
  rcases this with rfl | rfl | rfl | rfl | rfl | rfl | rfl | rfl | rfl | rfl <;> decide
theorem decDigits_digit (u : Nat) : ∀ c,c ∈ decDigits u → digitC c = true := by
  induction u using Nat.strongRecOn with
  | ind u ih =>
    intro c hc
    rw [decDigits] at hc
    split at hc
    · rename_i h
      simp only [List.mem_singleton] at hc
      subst hc; exact digit_digit h
    · rename_i h
      simp only [List.mem_append,List.mem_singleton] at hc
      rcases hc with hc | rfl
      · exact ih (u / 10) (by omega) c hc
      · exact digit_digit (by omega)
theorem digitC_plain {b : UInt8} (h : digitC b = true) : plainC b = true := by
  simp only [digitC,decide_eq_true_eq] at h; simp only [plainC,decide_eq_true_eq]; omega
theorem PL.num (n : Int) : PL (itoaB n) := by
  intro b hb
  have hb : b ∈ itoa n := by simpa [itoaB] using hb
  unfold itoa at hb
  split at hb
  · rcases List.mem_cons.1 hb with rfl | hb
    · decide
    · exact digitC_plain (decDigits_digit _ b hb)
  · exact digitC_plain (decDigits_digit _ b hb)
theorem hex_plain {k : Nat} (h : k < 16) : plainC (hexS.data.getD k 0) = true := by
  have : ∀ k : Fin 16,plainC (hexS.data.getD k.1 0) = true := by decide
  exact this ⟨k,h⟩
theorem enc_plain (b : UInt8) : ∀ c,c ∈ encB b → plainC c = true := by
  intro c hc
  have hb : b.toNat < 256 := UInt8.toNat_lt b
  unfold encB at hc
  split at hc
  · simp only [List.mem_cons,List.not_mem_nil,or_false] at hc
    rcases hc with rfl | rfl <;> decide
  · split at hc
    · rename_i h0 h1
      simp only [List.mem_cons,List.not_mem_nil,or_false] at hc
      rcases hc with rfl | rfl
      · decide
      · simp only [plainC,decide_eq_true_eq]; omega
    · split at hc
      · rename_i h0 h1 h2
        simp only [List.mem_singleton] at hc
        subst hc
        simp only [plainC,decide_eq_true_eq]; omega
      · simp only [List.mem_cons,List.not_mem_nil,or_false] at hc
        rcases hc with rfl | rfl | rfl | rfl
        · decide
        · decide
        · exact hex_plain (by omega)
        · exact hex_plain (by omega)
theorem PL.quot (s : ByteArray) : PL (quotB s) := by
  intro b hb
  have hb : b ∈ quotL s s.size ++ [34] := by simpa [quotB] using hb
  rcases List.mem_append.1 hb with hb | hb
  · unfold quotL at hb
    rcases List.mem_cons.1 hb with rfl | hb
    · decide
    · obtain ⟨c,_,hc⟩ := List.mem_flatMap.1 hb
      exact enc_plain c b hc
  · simp only [List.mem_singleton] at hb; subst hb; decide
theorem PL.show_ (x : Vl) : PL (showB x) := by
  unfold showB
  split
  · exact PL.num _
  · split
    · exact PL.name (by assumption)
    · exact PL.quot _
theorem PL.term {t : Tm} (h : tmB t = true) : PL (termW t) := by
  unfold termW
  unfold tmB at h
  split
  · rename_i h0
    rw [if_pos h0] at h
    rw [if_pos h]
    exact PL.show_ _
  · rename_i h0
    rw [if_neg h0] at h
    split at h
    · rename_i h1; rw [h1]; exact PL.of (by decide)
    · simp only [Bool.and_eq_true,varB] at h
      exact PL.word h.1
theorem PL.in_ {b : Bool} {s : ByteArray} (h : PL s) : PL (inB b s) := by
  unfold inB
  split
  · exact ((PL.of (l := [40]) (by decide)).app h).app (PL.of (l := [41]) (by decide))
  · exact h
theorem PL.sign (op : Int) : PL (signW op) := by
  unfold signW
  repeat' split
  all_goals exact PL.of (by decide)
theorem PL.wordW (op : Int) : PL (wordW op) := by
  unfold Go.Wk.wordW
  repeat' split
  all_goals exact PL.of (by decide)
theorem PL.rel (r : Int) : PL (relW r) := by
  unfold relW
  repeat' split
  all_goals exact PL.of (by decide)
theorem PL.fold (k : Int) : PL (foldB k) := by
  unfold foldB
  repeat' split
  all_goals exact PL.of (by decide)
theorem PL.ex : ∀ (d : Nat) (x : Ex),exB d x = true → PL (exW d x)
  | 0,x,h => by simp [exB] at h
  | d + 1,x,h => by
    rw [exW_pos (by omega)]
    simp only [Nat.add_sub_cancel]
    split
    · rename_i h0
      exact PL.term ((exB_parts h).2.1 h0).2.2
    · rename_i h0
      split
      · rename_i h1
        obtain ⟨h2,h3⟩ := ex_one h (.inr h1)
        exact (((PL.wordW _).app (PL.of (l := [40]) (by decide))).app (PL.ex d _ h3)).app (PL.of (l := [41]) (by decide))
      · rename_i h1
        split
        · rename_i h2
          obtain ⟨h2,h3⟩ := ex_one h (.inl h2)
          exact (PL.of (l := [45]) (by decide)).app (PL.in_ (PL.ex d _ h3))
        · rename_i h2
          obtain ⟨h3,h4,h5⟩ := ex_two h h0 h2 h1
          exact ((((PL.in_ (PL.ex d _ h4)).app (PL.of (l := [32]) (by decide))).app (PL.sign _)).app (PL.of (l := [32]) (by decide))).app (PL.in_ (PL.ex d _ h5))
theorem PL.nil : PL ⟨#[]⟩ := PL.of (l := []) rfl
theorem PL.colP {l : List ByteArray} (h : ∀ i,i < l.length → PL (l.getD i ⟨#[]⟩)) : ∀ i,i ≤ l.length → PL (colP l i)
  | 0,_ => PL.nil
  | i + 1,hi => by
    refine ((PL.colP h i (by omega)).app ?_).app (h i (by omega))
    split
    · exact PL.of (by decide)
    · exact PL.of (by decide)
theorem PL.col {nm : ByteArray} {l : List ByteArray} (hn : PL nm) (h : ∀ i,i < l.length → PL (l.getD i ⟨#[]⟩)) : PL (colW nm l) := by
  unfold colW
  split
  · exact hn
  · exact (hn.app (PL.colP h _ (Nat.le_refl _))).app (PL.of (l := [41]) (by decide))
theorem PL.at_ {x : At} (h : atB x = true) : PL (atW x) := by
  simp only [atB,Bool.and_eq_true,decide_eq_true_eq] at h
  refine PL.col (PL.name h.1.1) (fun i hi => ?_)
  rw [List.length_map] at hi
  rw [termW_at hi]
  exact PL.term (all_kid h.2 (tmAt_there hi))
theorem PL.lt {x : Lt} (h : ltB x = true) : PL (ltW x) := by
  unfold ltW
  split
  · rename_i hk; exact PL.at_ (lt_at h (.inl hk))
  · split
    · rename_i hk; exact (PL.of (l := [110,111,116,32]) (by decide)).app (PL.at_ (lt_at h (.inr hk)))
    · rename_i h1 h2
      obtain ⟨_,_,_,he1,he2⟩ := lt_cmp h h1 h2
      exact ((((PL.ex 8 _ he1).app (PL.of (l := [32]) (by decide))).app (PL.rel _)).app (PL.of (l := [32]) (by decide))).app (PL.ex 8 _ he2)
theorem PL.ruP {l : List Lt} (hb : ∀ i,i < l.length → ltB (ltAt l i) = true) : ∀ i,i ≤ l.length → PL (ruP l i)
  | 0,_ => PL.nil
  | i + 1,hi => by
    refine ((PL.ruP hb i (by omega)).app ?_).app (PL.lt (hb i (by omega)))
    split
    · exact PL.of (by decide)
    · exact PL.of (by decide)
theorem fc_head_at {x : Fc} {j : Nat} (h : j < x.args.length) : agAt (ruOf x).head j = ⟨0,vT (vlAt x.args j)⟩ := by
  simp [agAt,ruOf,vlAt,List.getD_eq_getElem?_getD,h]
theorem fc_texts (x : Fc) : (ruOf x).head.map argW = x.args.map (fun v => termW (vT v)) := by
  simp only [ruOf,List.map_map]
  apply List.map_congr_left
  intro v _
  simp [argW]
theorem ruW_fc (x : Fc) : ruW (ruOf x) = fcW x ++ ⟨#[46]⟩ := by
  unfold ruW fcW
  rw [fc_texts]
  show colW x.p _ ++ (⟨#[]⟩ : ByteArray) ++ _ = _
  rw [app_nil]
theorem argB_vT (v : Vl) : argB ⟨0,vT v⟩ = okV v := by
  unfold argB
  rw [if_pos rfl]
  have e1 : (!decide ((vT v).v = (⟨#[95]⟩ : ByteArray))) = true := (by decide : (!decide ((⟨#[]⟩ : ByteArray) = ⟨#[95]⟩)) = true)
  show ((!decide ((vT v).v = (⟨#[95]⟩ : ByteArray))) && tmB (vT v)) = okV v
  rw [e1,Bool.true_and]
  unfold tmB
  rw [if_pos (show (vT v).v = ⟨#[]⟩ from rfl)]; rfl
theorem colL_nil (S : List ByteArray) : ∀ ts : List Tm,(∀ t,t ∈ ts → t.v = ⟨#[]⟩) → colL S ts = S
  | [],_ => rfl
  | t :: ts,h => by
    have e : colL S (t :: ts) = colL (colT S t.v) ts := rfl
    rw [e,show colT S t.v = S from if_pos (.inl (h t (by simp)))]
    exact colL_nil S ts (fun u hu => h u (by simp [hu]))
theorem rvL_fc (x : Fc) : rvL (ruOf x) = [] := by
  unfold rvL
  refine colL_nil [] _ (fun t ht => ?_)
  simp only [ruTs,ruOf,List.flatMap_nil,List.append_nil,List.mem_map] at ht
  obtain ⟨a,⟨v,_,rfl⟩,rfl⟩ := ht
  rfl
theorem ruB_fc (x : Fc) : ruB (ruOf x) = mayB x := by
  have e1 : (ruOf x).head.all argB = x.args.all okV := by
    show (x.args.map (fun v => (⟨0,vT v⟩ : Ag))).all argB = _
    rw [List.all_map]
    exact congrArg (fun f => x.args.all f) (funext argB_vT)
  have e2 : (ruOf x).head.length = x.args.length := by simp [ruOf]
  have e3 : (ruOf x).body = [] := rfl
  have e4 : (ruOf x).p = x.p := rfl
  unfold ruB mayB
  rw [e1,e2,e3,e4,rvL_fc]
  simp only [List.all_nil,List.length_nil]
  cases x.args.all okV <;> cases nameB x.p <;> simp
/-! ### the fact's arguments, laid -/
def agCs (x : Ag) : List Value := [.int .i8 x.k,.string x.t.v,.int .i8 x.t.l.k,.int .i64 x.t.l.n,.string x.t.l.s]
def fcC (x : Fc) (k : Nat) : List Value := ((ruOf x).head.take k).flatMap agCs
theorem fcC_zero (x : Fc) : fcC x 0 = [] := by simp [fcC]
theorem fcC_succ {x : Fc} {k : Nat} (h : k < x.args.length) : fcC x (k + 1) = fcC x k ++ [.int .i8 0,.string ⟨#[]⟩,.int .i8 (vlAt x.args k).k,.int .i64 (vlAt x.args k).n,.string (vlAt x.args k).s] := by
  have hk : k < (ruOf x).head.length := by simpa [ruOf] using h
  have e : (ruOf x).head[k] = ⟨0,vT (vlAt x.args k)⟩ := by
    rw [← fc_head_at h]
    exact Option.some.inj ((List.getElem?_eq_getElem hk).symm.trans (agAt_there hk))
  unfold fcC
  rw [List.take_succ_eq_append_getElem hk,List.flatMap_append,e]
  simp [agCs,vT]
def OF (e B : Nat) (w : World) (A : Option Addr) (c : Nat) (x : Fc) (k : Nat) : Prop := w.ownsRow B e 5 (.slice A k c) k (fcC x k)
theorem OF.nil {e B : Nat} {w : World} {x : Fc} : OF e B w none 0 x 0 := by unfold OF; rw [fcC_zero]; exact own_nil _ _ _
theorem OF.own {e B : Nat} {w : World} {A : Option Addr} {c : Nat} {x : Fc} {k : Nat} (h : OF e B w A c x k) : w.ownsRow B e 5 (.slice A k c) k (fcC x k) := h
theorem OF.snoc {e B : Nat} {w : World} {A : Option Addr} {c : Nat} {x : Fc} {k : Nat} (hk : k < x.args.length) (h : w.ownsRow B e 5 (.slice A (k + 1) c) (k + 1) (fcC x k ++ [.int .i8 0,.string ⟨#[]⟩,.int .i8 (vlAt x.args k).k,.int .i64 (vlAt x.args k).n,.string (vlAt x.args k).s])) : OF e B w A c x (k + 1) := by
  unfold OF; rw [fcC_succ hk]; exact h
theorem agsC_at : ∀ (ts : List Ag) (j i : Nat) (y : Ag) (u : Value),ts[j]? = some y → (agCs y)[i]? = some u → (ts.flatMap agCs)[j * 5 + i]? = some u
  | [],j,i,y,u,h,_ => by simp at h
  | t :: ts,0,i,y,u,h,hu => by
    have : t = y := by simpa using h
    subst this
    have hi : i < (agCs t).length := (List.getElem?_eq_some_iff.1 hu).1
    simp only [List.flatMap_cons,Nat.zero_mul,Nat.zero_add]
    rw [List.getElem?_append_left hi]; exact hu
  | t :: ts,j + 1,i,y,u,h,hu => by
    have h' : ts[j]? = some y := by simpa using h
    have := agsC_at ts j i y u h' hu
    simp only [List.flatMap_cons]
    have hl : (agCs t).length = 5 := rfl
    rw [List.getElem?_append_right (by rw [hl]; omega),hl,show (j + 1) * 5 + i - 5 = j * 5 + i by omega]
    exact this
theorem OF.row {e B : Nat} {w : World} {A : Option Addr} {c : Nat} {x : Fc} (h : OF e B w A c x x.args.length) (hw : ∀ i,i < x.args.length → (vlAt x.args i).wf) : Row RG 5 w A (ruOf x).head := by
  by_cases h0 : (ruOf x).head = []
  · exact .inl h0
  · have hpos : 0 < (ruOf x).head.length := List.length_pos_iff.2 h0
    have el : (ruOf x).head.length = x.args.length := by simp [ruOf]
    obtain ⟨b,hA,hc⟩ := own_cells h (by omega)
    refine .inr ⟨b,0,hA,fun j y hy => ⟨agCs y,⟨rfl,?_⟩,fun i u hu => ?_⟩⟩
    · have hj : j < x.args.length := by have := (List.getElem?_eq_some_iff.1 hy).1; omega
      rw [← agAt_of hy,fc_head_at hj]
      exact ⟨⟨(show (-128 : Int) ≤ 0 by decide),(show (0 : Int) ≤ 127 by decide)⟩,vT_wf (hw j hj)⟩
    · rw [Nat.zero_add]
      have e2 : fcC x x.args.length = (ruOf x).head.flatMap agCs := by unfold fcC; rw [← el,List.take_length]
      exact hc _ _ (by rw [e2]; exact agsC_at _ j i y u hy hu)
theorem OF.okc {e B : Nat} {w : World} {A : Option Addr} {c : Nat} {x : Fc} (h : OF e B w A c x x.args.length) (hp : x.p.size ≤ 140737488351232) (hl : x.args.length ≤ 1048576) : (ruOf x).okc c 0 := by
  have el : (ruOf x).head.length = x.args.length := by simp [ruOf]
  have hc : x.args.length ≤ c := by
    rcases h.2 with ⟨h1,h2⟩ | ⟨g,cap,cur,h1,_,_,h2,_⟩
    · omega
    · injection h1 with _ _ h1; omega
  exact ⟨hp,by omega,by omega,Nat.le_refl 0,(show 0 ≤ 140737488351232 by decide)⟩
theorem OF.keep {e B : Nat} {w w' : World} {A : Option Addr} {c : Nat} {x : Fc} {k g t : Nat} {cs : Array Value} {fz : Nat × Nat} (h : OF e B w A c x k) (kp : Keep (fun j => j = g) w w') (hb : w.heap[g]? = some (.cells cs t fz)) (ht : e ≠ t) : OF e B w' A c x k :=
  own_move h fun i hi => kp.block i (own_lt h i hi) (fun ig => own_ne h (ig ▸ hb) ht hi)
theorem OF.ext {e B : Nat} {w w' : World} {A : Option Addr} {c : Nat} {x : Fc} {k : Nat} (h : OF e B w A c x k) (k2 : Ext w w') : OF e B w' A c x k := own_ext k2 h
end Go.Wk

set_option linter.unusedVariables false
set_option linter.unusedSimpArgs false
set_option maxRecDepth 10000
namespace Go.Proofs.Dw
open Go Go.Wk Go.Proofs Go.Lib
attribute [local irreducible] Go.wpList Go.wpStill Go.wpQuiet Go.Code.wp Go.Calls
theorem F_e15 : enterable Tryd.prog 15 = true := by kernel_rfl
theorem F_e17 : enterable Tryd.prog 17 = true := by kernel_rfl
end Go.Proofs.Dw

set_option linter.unusedVariables false
set_option linter.unusedSimpArgs false
namespace Go.Wk
open Go Go.RowKit Go.Lib Go.Sort
/-! ### texts as lists of bytes -/
def bl (s : ByteArray) : List UInt8 := s.data.toList
theorem bl_app (a b : ByteArray) : bl (a ++ b) = bl a ++ bl b := by simp [bl]
theorem bl_inj {a b : ByteArray} (h : bl a = bl b) : a = b := by
  obtain ⟨x⟩ := a
  obtain ⟨y⟩ := b
  have : x = y := Array.ext' h
  rw [this]
theorem bl_mk (l : List UInt8) : bl ⟨l.toArray⟩ = l := by simp [bl]
def letC (b : UInt8) : Bool := letterB (b.toNat : Int)
def NL (r : List UInt8) : Prop := ∀ c cs,r = c :: cs → letC c = false
theorem span {p : UInt8 → Bool} : ∀ {a b r r' : List UInt8},(∀ c,c ∈ a → p c = true) → (∀ c,c ∈ b → p c = true) → (∀ c cs,r = c :: cs → p c = false) → (∀ c cs,r' = c :: cs → p c = false) → a ++ r = b ++ r' → a = b ∧ r = r'
  | [],[],r,r',_,_,_,_,h => ⟨rfl,h⟩
  | [],c :: b,r,r',_,hb,hr,_,h => by
    have h1 := hr c (b ++ r') h
    rw [hb c (by simp)] at h1; cases h1
  | c :: a,[],r,r',ha,_,_,hr',h => by
    have h1 := hr' c (a ++ r) h.symm
    rw [ha c (by simp)] at h1; cases h1
  | c :: a,d :: b,r,r',ha,hb,hr,hr',h => by
    simp only [List.cons_append,List.cons.injEq] at h
    obtain ⟨rfl,h⟩ := h
    obtain ⟨rfl,rfl⟩ := span (fun c hc => ha c (by simp [hc])) (fun c hc => hb c (by simp [hc])) hr hr' h
    exact ⟨rfl,rfl⟩
/-! numerals -/
def dv (l : List UInt8) : Nat := l.foldl (fun a c => 10 * a + (c.toNat - 48)) 0
theorem dv_snoc (l : List UInt8) (c : UInt8) : dv (l ++ [c]) = 10 * dv l + (c.toNat - 48) := by simp [dv,List.foldl_append]
theorem dig_val {k : Nat} (h : k < 10) : (UInt8.ofNat (48 + k)).toNat - 48 = k := by
  have : k = 0 ∨ k = 1 ∨ k = 2 ∨ k = 3 ∨ k = 4 ∨ k = 5 ∨ k = 6 ∨ k = 7 ∨ k = 8 ∨ k = 9 := by omega
  rcases this with rfl | rfl | rfl | rfl | rfl | rfl | rfl | rfl | rfl | rfl <;> rfl
theorem dv_dec (u : Nat) : dv (decDigits u) = u := by
  induction u using Nat.strongRecOn with
  | ind u ih =>
    rw [decDigits]
    split
    · rename_i h
      show 10 * 0 + _ = u
      rw [dig_val h]; omega
    · rename_i h
      rw [dv_snoc,ih (u / 10) (by omega),dig_val (by omega)]; omega
theorem dec_inj {u v : Nat} (h : decDigits u = decDigits v) : u = v := by rw [← dv_dec u,← dv_dec v,h]
theorem dec_cons (u : Nat) : ∃ c cs,decDigits u = c :: cs ∧ digitC c = true := by
  cases h : decDigits u with
  | nil =>
    rw [decDigits] at h
    split at h
    · cases h
    · simp at h
  | cons c cs => exact ⟨c,cs,rfl,decDigits_digit u c (by rw [h]; simp)⟩
theorem digit_let {c : UInt8} (h : digitC c = true) : letC c = true := by
  simp only [digitC,decide_eq_true_eq] at h
  simp only [letC,letterB,decide_eq_true_eq]; omega
theorem NL.digit {r : List UInt8} (h : NL r) : ∀ c cs,r = c :: cs → digitC c = false := fun c cs e => by
  cases hd : digitC c with
  | false => rfl
  | true => have := h c cs e; rw [digit_let hd] at this; cases this
theorem itoa_inj {n m : Int} {r r' : List UInt8} (hr : NL r) (hr' : NL r') (h : itoa n ++ r = itoa m ++ r') : n = m ∧ r = r' := by
  unfold itoa at h
  split at h <;> split at h
  · rename_i h1 h2
    simp only [List.cons_append,List.cons.injEq,true_and] at h
    obtain ⟨e,e2⟩ := span (decDigits_digit _) (decDigits_digit _) hr.digit hr'.digit h
    have := dec_inj e
    exact ⟨by omega,e2⟩
  · rename_i h1 h2
    obtain ⟨c,cs,e,hc⟩ := dec_cons m.toNat
    rw [e] at h
    simp only [List.cons_append,List.cons.injEq] at h
    rw [← h.1] at hc; exact absurd hc (by decide)
  · rename_i h1 h2
    obtain ⟨c,cs,e,hc⟩ := dec_cons n.toNat
    rw [e] at h
    simp only [List.cons_append,List.cons.injEq] at h
    rw [h.1] at hc; exact absurd hc (by decide)
  · rename_i h1 h2
    obtain ⟨e,e2⟩ := span (decDigits_digit _) (decDigits_digit _) hr.digit hr'.digit h
    have := dec_inj e
    exact ⟨by omega,e2⟩
/-! quoted texts -/
theorem hex_inj {k j : Nat} (hk : k < 16) (hj : j < 16) (h : hexS.data.getD k 0 = hexS.data.getD j 0) : k = j := by
  have : ∀ k j : Fin 16,hexS.data.getD k.1 0 = hexS.data.getD j.1 0 → k = j := by decide
  have := this ⟨k,hk⟩ ⟨j,hj⟩ h
  simpa using this
theorem u8_of {a b : UInt8} (h : a.toNat = b.toNat) : a = b := UInt8.toNat_inj.1 h
inductive EN (b : UInt8) : List UInt8 → Prop
  | nl (h : b.toNat = 10) : EN b [92,110]
  | esc (h : b.toNat = 34 ∨ b.toNat = 92) : EN b [92,b]
  | raw (h : b.toNat ≠ 10 ∧ ¬ (b.toNat = 34 ∨ b.toNat = 92) ∧ 32 ≤ b.toNat ∧ b.toNat ≤ 126) : EN b [b]
  | hex (h : b.toNat ≠ 10 ∧ ¬ (b.toNat = 34 ∨ b.toNat = 92)) : EN b [92,120,hexS.data.getD (b.toNat / 16) 0,hexS.data.getD (b.toNat % 16) 0]
theorem EN.of (b : UInt8) : EN b (encB b) := by
  unfold encB
  split
  · exact .nl (by assumption)
  · split
    · exact .esc (by assumption)
    · split
      · exact .raw ⟨by assumption,by assumption,by assumption⟩
      · exact .hex ⟨by assumption,by assumption⟩
theorem u92 : (92 : UInt8).toNat = 92 := rfl
theorem u34 : (34 : UInt8).toNat = 34 := rfl
theorem u110 : (110 : UInt8).toNat = 110 := rfl
theorem u120 : (120 : UInt8).toNat = 120 := rfl
theorem EN.inj {a b : UInt8} {x y r r' : List UInt8} (ha : EN a x) (hb : EN b y) (h : x ++ r = y ++ r') : a = b ∧ r = r' := by
  have la := UInt8.toNat_lt a
  have lb := UInt8.toNat_lt b
  cases ha <;> cases hb <;> simp only [List.cons_append,List.nil_append,List.cons.injEq] at h <;>
    (try (obtain ⟨h1,h2⟩ := h))
  · exact ⟨u8_of (by omega),h2.2⟩
  · have := h2.1; subst this; rw [u110] at *; omega
  · subst h1; rw [u92] at *; omega
  · exact absurd h2.1 (by decide)
  · have := h2.1; subst this; rw [u110] at *; omega
  · exact ⟨h2.1,h2.2⟩
  · subst h1; rw [u92] at *; omega
  · have := h2.1; subst this; rw [u120] at *; omega
  · subst h1; rw [u92] at *; omega
  · subst h1; rw [u92] at *; omega
  · exact ⟨h1,h2⟩
  · subst h1; rw [u92] at *; omega
  · exact absurd h2.1 (by decide)
  · have := h2.1; subst this; rw [u120] at *; omega
  · subst h1; rw [u92] at *; omega
  · obtain ⟨_,h3,h4,h5⟩ := h2
    have e1 := hex_inj (by omega) (by omega) h3
    have e2 := hex_inj (by omega) (by omega) h4
    exact ⟨u8_of (by omega),h5⟩
theorem EN.head {a : UInt8} {x : List UInt8} (ha : EN a x) : ∃ c cs,x = c :: cs ∧ c ≠ 34 := by
  cases ha
  · exact ⟨_,_,rfl,by decide⟩
  · exact ⟨_,_,rfl,by decide⟩
  · rename_i h
    refine ⟨_,_,rfl,fun e => ?_⟩
    subst e; rw [u34] at h; omega
  · exact ⟨_,_,rfl,by decide⟩
theorem quo_inj : ∀ {a b r r' : List UInt8},a.flatMap encB ++ 34 :: r = b.flatMap encB ++ 34 :: r' → a = b ∧ r = r'
  | [],[],r,r',h => by simpa using h
  | [],c :: b,r,r',h => by
    obtain ⟨d,ds,e,hd⟩ := (EN.of c).head
    simp only [List.flatMap_nil,List.nil_append,List.flatMap_cons,e,List.cons_append,List.cons.injEq] at h
    exact absurd h.1.symm hd
  | c :: a,[],r,r',h => by
    obtain ⟨d,ds,e,hd⟩ := (EN.of c).head
    simp only [List.flatMap_nil,List.nil_append,List.flatMap_cons,e,List.cons_append,List.cons.injEq] at h
    exact absurd h.1 hd
  | c :: a,d :: b,r,r',h => by
    simp only [List.flatMap_cons,List.append_assoc] at h
    obtain ⟨rfl,h2⟩ := EN.inj (EN.of c) (EN.of d) h
    obtain ⟨rfl,rfl⟩ := quo_inj h2
    exact ⟨rfl,rfl⟩
/-! terms -/
def cls (c : UInt8) : Nat := if 97 ≤ c.toNat ∧ c.toNat ≤ 122 then 2 else if c.toNat = 34 then 3 else if c.toNat = 95 then 4 else if 65 ≤ c.toNat ∧ c.toNat ≤ 90 then 5 else if c.toNat = 45 ∨ digitC c = true then 1 else 0
inductive TK : Tm → List UInt8 → Nat → Prop
  | num (n : Int) : TK ⟨⟨#[]⟩,⟨1,n,⟨#[]⟩⟩⟩ (itoa n) 1
  | name (s : ByteArray) (h : nameB s = true) : TK ⟨⟨#[]⟩,⟨2,0,s⟩⟩ (bl s) 2
  | quo (s : ByteArray) : TK ⟨⟨#[]⟩,⟨2,0,s⟩⟩ (34 :: ((bl s).flatMap encB ++ [34])) 3
  | und : TK ⟨⟨#[95]⟩,⟨0,0,⟨#[]⟩⟩⟩ [95] 4
  | var (v : ByteArray) (h : varB v = true) : TK ⟨v,⟨0,0,⟨#[]⟩⟩⟩ (bl v) 5
theorem vl_kinds {x : Vl} (h : okV x = true) : (∃ n,x = ⟨1,n,⟨#[]⟩⟩) ∨ ∃ s,x = ⟨2,0,s⟩ := by
  obtain ⟨k,n,s⟩ := x
  simp only [okV,decide_eq_true_eq] at h
  rcases h with ⟨rfl,rfl⟩ | ⟨rfl,rfl,_⟩
  · exact .inl ⟨_,rfl⟩
  · exact .inr ⟨_,rfl⟩
theorem zV_is {x : Vl} (h : zV x = true) : x = ⟨0,0,⟨#[]⟩⟩ := by
  obtain ⟨k,n,s⟩ := x
  simp only [zV,decide_eq_true_eq] at h
  obtain ⟨rfl,rfl,rfl⟩ := h; rfl
theorem TK.of {t : Tm} (h : tmB t = true) : ∃ k,TK t (bl (termW t)) k := by
  obtain ⟨v,l⟩ := t
  unfold tmB at h
  unfold termW
  simp only at h ⊢
  by_cases h0 : v = ⟨#[]⟩
  · subst h0
    rw [if_pos rfl] at h ⊢
    rw [if_pos h]
    rcases vl_kinds h with ⟨n,rfl⟩ | ⟨s,rfl⟩
    · refine ⟨1,?_⟩
      have e : bl (showB ⟨1,n,⟨#[]⟩⟩) = itoa n := by
        unfold showB; rw [if_pos rfl]; exact bl_mk _
      rw [e]; exact .num n
    · unfold showB
      rw [if_neg (show ¬ (2 : Int) = 1 by decide)]
      split
      · exact ⟨2,.name s (by assumption)⟩
      · refine ⟨3,?_⟩
        have e : bl (quotB s) = 34 :: ((bl s).flatMap encB ++ [34]) := by
          unfold quotB quotL
          rw [bl_mk]
          have : s.data.toList.take s.size = bl s := by
            unfold bl; exact List.take_of_length_le (by rw [Array.length_toList]; exact Nat.le_refl _)
          rw [this]; rfl
        rw [e]; exact .quo s
  · rw [if_neg h0] at h ⊢
    by_cases h1 : v = ⟨#[95]⟩
    · subst h1
      rw [if_pos rfl] at h
      rw [zV_is h]; exact ⟨4,.und⟩
    · rw [if_neg h1] at h
      simp only [Bool.and_eq_true] at h
      rw [zV_is h.2]; exact ⟨5,.var v h.1⟩
theorem word_cons {s : ByteArray} {lo hi : Int} (h : wordB s lo hi = true) : ∃ c cs,bl s = c :: cs ∧ lo ≤ (c.toNat : Int) ∧ (c.toNat : Int) ≤ hi := by
  simp only [wordB,decide_eq_true_eq] at h
  obtain ⟨h1,_,h2,h3,_⟩ := h
  obtain ⟨b,hb,e⟩ := byteAt_at (s := s) (j := 0) (by omega)
  cases hc : bl s with
  | nil => unfold bl at hc; rw [hc] at hb; simp at hb
  | cons c cs =>
    unfold bl at hc; rw [hc] at hb
    have : c = b := by simpa using hb
    subst this
    exact ⟨c,cs,rfl,by rw [← e]; exact h2,by rw [← e]; exact h3⟩
theorem name_word {s : ByteArray} (h : nameB s = true) : wordB s 97 122 = true ∧ kwB s = false := by
  simp only [nameB,Bool.and_eq_true,Bool.not_eq_true'] at h; exact h
theorem TK.head {t : Tm} {x : List UInt8} {k : Nat} (h : TK t x k) : ∃ c cs,x = c :: cs ∧ cls c = k := by
  cases h
  · rename_i n
    unfold itoa
    split
    · exact ⟨_,_,rfl,by decide⟩
    · obtain ⟨c,cs,e,hc⟩ := dec_cons n.toNat
      refine ⟨c,cs,e,?_⟩
      have hc2 := hc
      simp only [digitC,decide_eq_true_eq] at hc2
      unfold cls
      rw [if_neg (by omega),if_neg (by omega),if_neg (by omega),if_neg (by omega),if_pos (.inr hc)]
  · rename_i s h
    obtain ⟨c,cs,e,h1,h2⟩ := word_cons (name_word h).1
    exact ⟨c,cs,e,by unfold cls; rw [if_pos (by omega)]⟩
  · exact ⟨_,_,rfl,by decide⟩
  · exact ⟨_,_,rfl,by decide⟩
  · rename_i h
    obtain ⟨c,cs,e,h1,h2⟩ := word_cons h
    exact ⟨c,cs,e,by unfold cls; rw [if_neg (by omega),if_neg (by omega),if_neg (by omega),if_pos (by omega)]⟩
theorem TK.inj {a b : Tm} {x y r r' : List UInt8} {k j : Nat} (ha : TK a x k) (hb : TK b y j) (hr : NL r) (hr' : NL r') (h : x ++ r = y ++ r') : a = b ∧ r = r' := by
  obtain ⟨c,cs,ex,hc⟩ := ha.head
  obtain ⟨d,ds,ey,hd⟩ := hb.head
  have hcd : c = d := by rw [ex,ey] at h; simp only [List.cons_append,List.cons.injEq] at h; exact h.1
  have hkj : k = j := by rw [← hc,← hd,hcd]
  cases ha <;> cases hb <;> first | (exfalso; exact absurd hkj (by decide)) | skip
  · obtain ⟨rfl,rfl⟩ := itoa_inj hr hr' h; exact ⟨rfl,rfl⟩
  · rename_i s hs u hu
    obtain ⟨e,rfl⟩ := span (word_letters (name_word hs).1) (word_letters (name_word hu).1) hr hr' h
    exact ⟨by rw [bl_inj e],rfl⟩
  · rename_i s u
    simp only [List.cons_append,List.cons.injEq,true_and,List.append_assoc,List.nil_append] at h
    obtain ⟨e,rfl⟩ := quo_inj h
    exact ⟨by rw [bl_inj e],rfl⟩
  · simp only [List.cons_append,List.cons.injEq,true_and,List.nil_append] at h
    exact ⟨rfl,h⟩
  · rename_i s hs u hu
    obtain ⟨e,rfl⟩ := span (word_letters hs) (word_letters hu) hr hr' h
    exact ⟨by rw [bl_inj e],rfl⟩
theorem term_inj {a b : Tm} (ha : tmB a = true) (hb : tmB b = true) {r r' : List UInt8} (hr : NL r) (hr' : NL r') (h : bl (termW a) ++ r = bl (termW b) ++ r') : a = b ∧ r = r' := by
  obtain ⟨k,ta⟩ := TK.of ha
  obtain ⟨j,tb⟩ := TK.of hb
  exact ta.inj tb hr hr' h
end Go.Wk

set_option linter.unusedVariables false
set_option linter.unusedSimpArgs false
namespace Go.Wk
open Go Go.RowKit Go.Lib Go.Sort
/-! ### expressions: the text tells the expression -/
inductive X where
  | tm (t : Tm)
  | call (op : Int) (k : X)
  | neg (k : X)
  | bin (op : Int) (a b : X)
def fop (op : Int) : Nat := if op = 2 ∨ op = 3 ∨ op = 7 then 1 else 2
def sgn (op : Int) : UInt8 := if op = 2 then 43 else if op = 3 then 45 else if op = 4 then 42 else if op = 5 then 47 else if op = 6 then 37 else 38
def X.f : X → Nat
  | .tm _ => 4
  | .call _ _ => 4
  | .neg _ => 3
  | .bin op _ _ => fop op
def X.num : X → Bool
  | .tm t => decide (t.v = ⟨#[]⟩) && decide (t.l.k = 1) && decide (0 ≤ t.l.n)
  | _ => false
def brk (b : Bool) (l : List UInt8) : List UInt8 := if b then 40 :: (l ++ [41]) else l
def X.w : X → List UInt8
  | .tm t => bl (termW t)
  | .call op k => bl (wordW op) ++ 40 :: (k.w ++ [41])
  | .neg k => 45 :: brk (decide (k.f < 3) || k.num) k.w
  | .bin op a b => brk (decide (a.f < fop op)) a.w ++ 32 :: sgn op :: 32 :: brk (decide (b.f < fop op + 1)) b.w
def X.ok : X → Prop
  | .tm t => tmB t = true
  | .call op k => 8 ≤ op ∧ op ≤ 10 ∧ k.ok
  | .neg k => k.ok
  | .bin op a b => 2 ≤ op ∧ op ≤ 7 ∧ a.ok ∧ b.ok
def X.ex : X → Ex
  | .tm t => .mk 0 t []
  | .call op k => .mk op Tm.none [k.ex]
  | .neg k => .mk 1 Tm.none [k.ex]
  | .bin op a b => .mk op Tm.none [a.ex,b.ex]
def U (p : Nat) (x : X) : List UInt8 := brk (decide (x.f < p)) x.w
def Stop (p : Nat) (r : List UInt8) : Prop := (∀ c cs,r = c :: cs → letC c = false ∧ c ≠ 40) ∧ ∀ op cs,2 ≤ op → op ≤ 7 → p ≤ fop op → r ≠ 32 :: sgn op :: 32 :: cs
theorem Stop.mono {p q : Nat} {r : List UInt8} (h : Stop p r) (hq : p ≤ q) : Stop q r := ⟨h.1,fun op cs h1 h2 h3 => h.2 op cs h1 h2 (by omega)⟩
theorem Stop.nl {p : Nat} {r : List UInt8} (h : Stop p r) : NL r := fun c cs e => (h.1 c cs e).1
theorem Stop.close (p : Nat) (r : List UInt8) : Stop p (41 :: r) := ⟨fun c cs e => by
  simp only [List.cons.injEq] at e; rw [← e.1]; decide,fun op cs _ _ _ e => by simp only [List.cons.injEq] at e; exact absurd e.1 (by decide)⟩
theorem fop_two (op : Int) : fop op = 1 ∨ fop op = 2 := by unfold fop; split <;> simp
theorem sgn_inj {a b : Int} (ha : 2 ≤ a ∧ a ≤ 7) (hb : 2 ≤ b ∧ b ≤ 7) (h : sgn a = sgn b) : a = b := by
  have : a = 2 ∨ a = 3 ∨ a = 4 ∨ a = 5 ∨ a = 6 ∨ a = 7 := by omega
  have : b = 2 ∨ b = 3 ∨ b = 4 ∨ b = 5 ∨ b = 6 ∨ b = 7 := by omega
  rcases ‹a = 2 ∨ _› with rfl | rfl | rfl | rfl | rfl | rfl <;> rcases ‹b = 2 ∨ _› with rfl | rfl | rfl | rfl | rfl | rfl <;> first | rfl | exact absurd h (by decide)
theorem Stop.op {p : Nat} {op : Int} (ho : 2 ≤ op ∧ op ≤ 7) (hp : fop op < p) (r : List UInt8) : Stop p (32 :: sgn op :: 32 :: r) :=
  ⟨fun c cs e => by simp only [List.cons.injEq] at e; rw [← e.1]; decide,fun op' cs h1 h2 h3 e => by
    simp only [List.cons.injEq,true_and] at e
    have := sgn_inj ho ⟨h1,h2⟩ e.1
    subst this; omega⟩
theorem ww_letters {op : Int} (h : 8 ≤ op ∧ op ≤ 10) : ∀ c,c ∈ bl (wordW op) → letC c = true := by
  have : op = 8 ∨ op = 9 ∨ op = 10 := by omega
  rcases this with rfl | rfl | rfl <;> (intro c hc; revert c; decide)
theorem ww_kw {op : Int} (h : 8 ≤ op ∧ op ≤ 10) : kwB (wordW op) = true := by
  have : op = 8 ∨ op = 9 ∨ op = 10 := by omega
  rcases this with rfl | rfl | rfl <;> decide
theorem ww_inj {a b : Int} (ha : 8 ≤ a ∧ a ≤ 10) (hb : 8 ≤ b ∧ b ≤ 10) (h : wordW a = wordW b) : a = b := by
  have : a = 8 ∨ a = 9 ∨ a = 10 := by omega
  have : b = 8 ∨ b = 9 ∨ b = 10 := by omega
  rcases ‹a = 8 ∨ _› with rfl | rfl | rfl <;> rcases ‹b = 8 ∨ _› with rfl | rfl | rfl <;> first | rfl | exact absurd h (by decide)
theorem ww_cons {op : Int} (h : 8 ≤ op ∧ op ≤ 10) : ∃ c cs,bl (wordW op) = c :: cs ∧ cls c = 2 := by
  have : op = 8 ∨ op = 9 ∨ op = 10 := by omega
  rcases this with rfl | rfl | rfl <;> exact ⟨_,_,rfl,by decide⟩
theorem TK.tag {t : Tm} {x : List UInt8} {k : Nat} (h : TK t x k) : 1 ≤ k := by cases h <;> omega
/-! heads -/
theorem X.head3 {x : X} (h : x.ok) (h3 : 3 ≤ x.f) : ∃ c cs,x.w = c :: cs ∧ c ≠ 40 := by
  cases x with
  | tm t =>
    obtain ⟨k,hk⟩ := TK.of h
    obtain ⟨c,cs,e,hc⟩ := hk.head
    refine ⟨c,cs,e,fun e4 => ?_⟩
    subst e4
    have : k = 0 := by rw [← hc]; decide
    have := hk.tag; omega
  | call op k =>
    obtain ⟨c,cs,e,hc⟩ := ww_cons ⟨h.1,h.2.1⟩
    refine ⟨c,cs ++ 40 :: (k.w ++ [41]),by simp [X.w,e],fun e4 => ?_⟩
    subst e4; exact absurd hc (by decide)
  | neg k => exact ⟨45,_,rfl,by decide⟩
  | bin op a b => have := fop_two op; simp only [X.f] at h3; omega
theorem X.headN {x : X} (h : x.ok) : ∃ c cs,brk (decide (x.f < 3) || x.num) x.w = c :: cs ∧ digitC c = false := by
  cases hb : (decide (x.f < 3) || x.num) with
  | true => exact ⟨40,_,rfl,by decide⟩
  | false =>
    simp only [Bool.or_eq_false_iff,decide_eq_false_iff_not] at hb
    show ∃ c cs,x.w = c :: cs ∧ digitC c = false
    cases x with
    | tm t =>
      obtain ⟨k,hk⟩ := TK.of h
      show ∃ c cs,bl (termW t) = c :: cs ∧ digitC c = false
      obtain ⟨c,cs,e,hc⟩ := hk.head
      refine ⟨c,cs,e,?_⟩
      cases hd : digitC c with
      | false => rfl
      | true =>
        exfalso
        have hd2 := hd
        simp only [digitC,decide_eq_true_eq] at hd2
        have hk1 : k = 1 := by
          rw [← hc]; unfold cls
          rw [if_neg (by omega),if_neg (by omega),if_neg (by omega),if_neg (by omega),if_pos (.inr hd)]
        generalize hx : bl (termW t) = y at hk e
        cases hk with
        | num n =>
          simp only [X.num,decide_true,Bool.true_and,decide_eq_false_iff_not] at hb
          unfold itoa at e
          rw [if_pos (by omega)] at e
          simp only [List.cons.injEq] at e
          rw [← e.1] at hd; exact absurd hd (by decide)
        | name s h => cases hk1
        | quo s => cases hk1
        | und => cases hk1
        | var v h => cases hk1
    | call op k =>
      obtain ⟨c,cs,e,hc⟩ := ww_cons ⟨h.1,h.2.1⟩
      refine ⟨c,cs ++ 40 :: (k.w ++ [41]),by simp [X.w,e],?_⟩
      cases hd : digitC c with
      | false => rfl
      | true =>
        exfalso
        simp only [digitC,decide_eq_true_eq] at hd
        unfold cls at hc
        rw [if_neg (by omega),if_neg (by omega),if_neg (by omega),if_neg (by omega)] at hc
        split at hc <;> omega
    | neg k => exact ⟨45,_,rfl,by decide⟩
    | bin op a b => have := fop_two op; simp only [X.f] at hb; omega
/-! chains of one level -/
def X.spine (p : Nat) : X → X × List (Int × X)
  | .bin op a b => if fop op = p then ((a.spine p).1,(a.spine p).2 ++ [(op,b)]) else (.bin op a b,[])
  | .tm t => (.tm t,[])
  | .call op k => (.call op k,[])
  | .neg k => (.neg k,[])
def seg (q : Nat) (e : Int × X) : List UInt8 := 32 :: sgn e.1 :: 32 :: U q e.2
theorem U_next {p : Nat} {x : X} (h : x.f ≠ p) : U p x = U (p + 1) x := by
  unfold U
  have : decide (x.f < p) = decide (x.f < p + 1) := by
    congr 1; apply propext; omega
  rw [this]
theorem spine_text {p : Nat} (hp : p ≤ 2) : ∀ x : X,U p x = U (p + 1) (x.spine p).1 ++ (x.spine p).2.flatMap (seg (p + 1))
  | .tm t => by simp only [X.spine,List.flatMap_nil,List.append_nil]; exact U_next (by simp only [X.f]; omega)
  | .call op k => by simp only [X.spine,List.flatMap_nil,List.append_nil]; exact U_next (by simp only [X.f]; omega)
  | .neg k => by simp only [X.spine,List.flatMap_nil,List.append_nil]; exact U_next (by simp only [X.f]; omega)
  | .bin op a b => by
    unfold X.spine
    split
    · rename_i h
      have ih := spine_text hp a
      simp only [List.flatMap_append,List.flatMap_cons,List.flatMap_nil,List.append_nil,← List.append_assoc]
      rw [← ih]
      have e1 : U p (.bin op a b) = (X.bin op a b).w := by
        unfold U; rw [show decide ((X.bin op a b).f < p) = false from decide_eq_false (by simp only [X.f]; omega)]; rfl
      rw [e1]
      simp only [X.w,seg,U,h]
    · rename_i h
      simp only [List.flatMap_nil,List.append_nil]
      exact U_next (by simp only [X.f]; omega)
theorem spine_ok {p : Nat} : ∀ x : X,x.ok → (x.spine p).1.ok ∧ ∀ e,e ∈ (x.spine p).2 → (2 ≤ e.1 ∧ e.1 ≤ 7) ∧ fop e.1 = p ∧ e.2.ok
  | .tm t,h => ⟨h,fun e he => by simp [X.spine] at he⟩
  | .call op k,h => ⟨h,fun e he => by simp [X.spine] at he⟩
  | .neg k,h => ⟨h,fun e he => by simp [X.spine] at he⟩
  | .bin op a b,h => by
    unfold X.spine
    split
    · rename_i hf
      have ih := spine_ok (p := p) a h.2.2.1
      refine ⟨ih.1,fun e he => ?_⟩
      rcases List.mem_append.1 he with he | he
      · exact ih.2 e he
      · simp only [List.mem_singleton] at he; subst he; exact ⟨⟨h.1,h.2.1⟩,hf,h.2.2.2⟩
    · exact ⟨h,fun e he => by simp at he⟩
theorem spine_build (p : Nat) : ∀ x : X,(x.spine p).2.foldl (fun a e => X.bin e.1 a e.2) (x.spine p).1 = x
  | .tm t => rfl
  | .call op k => rfl
  | .neg k => rfl
  | .bin op a b => by
    unfold X.spine
    split
    · simp only [List.foldl_append,List.foldl_cons,List.foldl_nil,spine_build p a]
    · rfl
def Rd_ (n p : Nat) : Prop := ∀ (x y : X) (r r' : List UInt8),x.ok → y.ok → (U p x).length ≤ n → Stop p r → Stop p r' → U p x ++ r = U p y ++ r' → x = y ∧ r = r'
theorem chain_stop {p : Nat} {l : List (Int × X)} {r : List UInt8} (hl : ∀ e,e ∈ l → (2 ≤ e.1 ∧ e.1 ≤ 7) ∧ fop e.1 = p ∧ e.2.ok) (hr : Stop p r) : Stop (p + 1) (l.flatMap (seg (p + 1)) ++ r) := by
  cases l with
  | nil => exact hr.mono (by omega)
  | cons e l =>
    have := hl e (by simp)
    simp only [List.flatMap_cons,seg,List.cons_append]
    exact Stop.op this.1 (by omega) _
theorem chain_inj {n p : Nat} (R : Rd_ n (p + 1)) : ∀ (l l' : List (Int × X)) (r r' : List UInt8),(∀ e,e ∈ l → (2 ≤ e.1 ∧ e.1 ≤ 7) ∧ fop e.1 = p ∧ e.2.ok) → (∀ e,e ∈ l' → (2 ≤ e.1 ∧ e.1 ≤ 7) ∧ fop e.1 = p ∧ e.2.ok) → (l.flatMap (seg (p + 1))).length ≤ n →
    Stop p r → Stop p r' → l.flatMap (seg (p + 1)) ++ r = l'.flatMap (seg (p + 1)) ++ r' → l = l' ∧ r = r'
  | [],[],r,r',_,_,_,_,_,h => ⟨rfl,by simpa using h⟩
  | [],e :: l',r,r',_,hl',_,hr,_,h => by
    obtain ⟨h1,h2,_⟩ := hl' e (by simp)
    simp only [List.flatMap_nil,List.nil_append,List.flatMap_cons,seg,List.cons_append,List.append_assoc] at h
    exact absurd h (hr.2 e.1 _ h1.1 h1.2 (by omega))
  | e :: l,[],r,r',hl,_,_,_,hr',h => by
    obtain ⟨h1,h2,_⟩ := hl e (by simp)
    simp only [List.flatMap_nil,List.nil_append,List.flatMap_cons,seg,List.cons_append,List.append_assoc] at h
    exact absurd h.symm (hr'.2 e.1 _ h1.1 h1.2 (by omega))
  | e :: l,e' :: l',r,r',hl,hl',hn,hr,hr',h => by
    obtain ⟨h1,h2,h3⟩ := hl e (by simp)
    obtain ⟨h1',h2',h3'⟩ := hl' e' (by simp)
    simp only [List.flatMap_cons,seg,List.cons_append,List.append_assoc,List.cons.injEq,true_and] at h
    simp only [List.flatMap_cons,seg,List.length_append,List.length_cons] at hn
    have eo := sgn_inj h1 h1' h.1
    obtain ⟨ex,hrest⟩ := R e.2 e'.2 _ _ h3 h3' (by omega) (chain_stop (fun e he => hl e (by simp [he])) hr) (chain_stop (fun e he => hl' e (by simp [he])) hr') h.2
    obtain ⟨rfl,rfl⟩ := chain_inj R l l' r r' (fun e he => hl e (by simp [he])) (fun e he => hl' e (by simp [he])) (by omega) hr hr' hrest
    refine ⟨?_,rfl⟩
    obtain ⟨o,a⟩ := e
    obtain ⟨o',a'⟩ := e'
    simp only at eo ex
    rw [eo,ex]
theorem Rd_.down {n p : Nat} (hp : p ≤ 2) (R : Rd_ n (p + 1)) : Rd_ n p := by
  intro x y r r' hx hy hn hr hr' h
  have sx := spine_ok (p := p) x hx
  have sy := spine_ok (p := p) y hy
  rw [spine_text hp x,spine_text hp y,List.append_assoc,List.append_assoc] at h
  rw [spine_text hp x,List.length_append] at hn
  obtain ⟨e1,h2⟩ := R _ _ _ _ sx.1 sy.1 (by omega) (chain_stop sx.2 hr) (chain_stop sy.2 hr') h
  obtain ⟨e2,h3⟩ := chain_inj R _ _ _ _ sx.2 sy.2 (by omega) hr hr' h2
  refine ⟨?_,h3⟩
  rw [← spine_build p x,← spine_build p y,e1,e2]
theorem U1 (x : X) : U 1 x = x.w := by
  unfold U
  have : decide (x.f < 1) = false := decide_eq_false (by cases x <;> simp only [X.f] <;> first | omega | (have := fop_two ‹Int›; omega))
  rw [this]; rfl
theorem U3 {x : X} (h : 3 ≤ x.f) : U 3 x = x.w := by
  unfold U; rw [decide_eq_false (by omega)]; rfl
theorem U3b {x : X} (h : ¬ 3 ≤ x.f) : U 3 x = 40 :: (x.w ++ [41]) := by
  unfold U; rw [decide_eq_true (by omega)]; rfl
theorem name_call {s : ByteArray} {op : Int} {r r' : List UInt8} (hs : nameB s = true) (ho : 8 ≤ op ∧ op ≤ 10) (hr : NL r) (h : bl s ++ r = bl (wordW op) ++ 40 :: r') : False := by
  obtain ⟨e,_⟩ := span (word_letters (name_word hs).1) (ww_letters ho) hr (fun c cs e => by simp only [List.cons.injEq] at e; rw [← e.1]; decide) h
  have h1 := (name_word hs).2
  rw [bl_inj e,ww_kw ho] at h1; cases h1
theorem tm_call {t : Tm} {op : Int} {r r' : List UInt8} (ht : tmB t = true) (ho : 8 ≤ op ∧ op ≤ 10) (hr : NL r) (h : bl (termW t) ++ r = bl (wordW op) ++ 40 :: r') : False := by
  obtain ⟨k,hk⟩ := TK.of ht
  obtain ⟨c,cs,e,hc⟩ := hk.head
  obtain ⟨d,ds,e2,hd⟩ := ww_cons ho
  have hcd : c = d := by rw [e,e2] at h; simp only [List.cons_append,List.cons.injEq] at h; exact h.1
  have : k = 2 := by rw [← hc,hcd,hd]
  subst this
  generalize bl (termW t) = y at hk e h
  cases hk
  exact name_call (by assumption) ho hr h
theorem tm_neg {t : Tm} {k : X} {r r' : List UInt8} (ht : tmB t = true) (hk : k.ok) (h : bl (termW t) ++ r = 45 :: (brk (decide (k.f < 3) || k.num) k.w ++ r')) : False := by
  obtain ⟨j,hj⟩ := TK.of ht
  obtain ⟨c,cs,e,hc⟩ := hj.head
  obtain ⟨d,ds,e2,hd⟩ := X.headN hk
  have hcd : c = 45 := by rw [e] at h; simp only [List.cons_append,List.cons.injEq] at h; exact h.1
  have : j = 1 := by rw [← hc,hcd]; decide
  subst this
  generalize bl (termW t) = y at hj e h
  cases hj
  rename_i n
  unfold itoa at h
  split at h
  · rw [e2] at h
    simp only [List.cons_append,List.cons.injEq,true_and] at h
    obtain ⟨c',cs',e3,h3⟩ := dec_cons n.natAbs
    rw [e3] at h
    simp only [List.cons_append,List.cons.injEq] at h
    rw [h.1,hd] at h3; cases h3
  · obtain ⟨c',cs',e3,h3⟩ := dec_cons n.toNat
    rw [e3] at h
    simp only [List.cons_append,List.cons.injEq] at h
    rw [h.1] at h3; exact absurd h3 (by decide)
theorem brk_len {b : Bool} {l : List UInt8} : l.length ≤ (brk b l).length := by unfold brk; split <;> simp <;> omega
theorem call_neg {op : Int} {r r' : List UInt8} (ho : 8 ≤ op ∧ op ≤ 10) (h : bl (wordW op) ++ r = 45 :: r') : False := by
  obtain ⟨c,cs,e,hc⟩ := ww_cons ho
  rw [e] at h
  simp only [List.cons_append,List.cons.injEq] at h
  rw [h.1] at hc; exact absurd hc (by decide)
theorem Rd_.three {n : Nat} (ih : ∀ m,m < n → Rd_ m 1 ∧ Rd_ m 3) : Rd_ n 3 := by
  intro x y r r' hx hy hn hr hr' h
  have par : ∀ (a b : X),a.ok → b.ok → a.w.length < n → ∀ s s',a.w ++ 41 :: s = b.w ++ 41 :: s' → a = b ∧ s = s' := fun a b ha hb hl s s' e => by
    have := (ih a.w.length hl).1 a b (41 :: s) (41 :: s') ha hb (by rw [U1]; exact Nat.le_refl _) (Stop.close _ _) (Stop.close _ _) (by rw [U1,U1]; exact e)
    refine ⟨this.1,?_⟩
    have := this.2
    simpa using this
  by_cases h3 : 3 ≤ x.f <;> by_cases h3' : 3 ≤ y.f
  · rw [U3 h3,U3 h3'] at h
    rw [U3 h3] at hn
    cases x with
    | tm t =>
      cases y with
      | tm u => obtain ⟨rfl,rfl⟩ := term_inj hx hy hr.nl hr'.nl h; exact ⟨rfl,rfl⟩
      | call op k =>
        simp only [X.w,List.append_assoc,List.cons_append] at h
        exact (tm_call hx ⟨hy.1,hy.2.1⟩ hr.nl h).elim
      | neg k =>
        simp only [X.w,List.cons_append] at h
        exact (tm_neg hx (show k.ok from hy) h).elim
      | bin op a b => have := fop_two op; simp only [X.f] at h3'; omega
    | call op k =>
      cases y with
      | tm t =>
        simp only [X.w,List.append_assoc,List.cons_append] at h
        exact (tm_call hy ⟨hx.1,hx.2.1⟩ hr'.nl h.symm).elim
      | call op' k' =>
        simp only [X.w,List.append_assoc,List.cons_append,List.nil_append] at h
        obtain ⟨e,h2⟩ := span (ww_letters ⟨hx.1,hx.2.1⟩) (ww_letters ⟨hy.1,hy.2.1⟩) (fun c cs e => by simp only [List.cons.injEq] at e; rw [← e.1]; decide) (fun c cs e => by simp only [List.cons.injEq] at e; rw [← e.1]; decide) h
        have eo := ww_inj ⟨hx.1,hx.2.1⟩ ⟨hy.1,hy.2.1⟩ (bl_inj e)
        simp only [List.cons.injEq,true_and] at h2
        simp only [X.w,List.length_append,List.length_cons] at hn
        obtain ⟨rfl,rfl⟩ := par k k' hx.2.2 hy.2.2 (by omega) r r' h2
        exact ⟨by rw [eo],rfl⟩
      | neg k' =>
        simp only [X.w,List.append_assoc,List.cons_append] at h
        exact (call_neg ⟨hx.1,hx.2.1⟩ h).elim
      | bin op a b => have := fop_two op; simp only [X.f] at h3'; omega
    | neg k =>
      cases y with
      | tm t =>
        simp only [X.w,List.cons_append] at h
        exact (tm_neg hy (show k.ok from hx) h.symm).elim
      | call op k' =>
        simp only [X.w,List.append_assoc,List.cons_append] at h
        exact (call_neg ⟨hy.1,hy.2.1⟩ h.symm).elim
      | neg k' =>
        simp only [X.w,List.cons_append,List.cons.injEq,true_and] at h
        simp only [X.w,List.length_cons] at hn
        have hx : k.ok := hx
        have hy : k'.ok := hy
        have hl : k.w.length < n := by have := brk_len (b := decide (k.f < 3) || k.num) (l := k.w); omega
        cases hb : (decide (k.f < 3) || k.num) <;> cases hb' : (decide (k'.f < 3) || k'.num) <;> rw [hb,hb'] at h
        · simp only [Bool.or_eq_false_iff,decide_eq_false_iff_not] at hb hb'
          have h : k.w ++ r = k'.w ++ r' := h
          obtain ⟨rfl,rfl⟩ := (ih k.w.length hl).2 k k' r r' hx hy (by rw [U3 (by omega)]; exact Nat.le_refl _) hr hr' (by rw [U3 (by omega),U3 (by omega)]; exact h)
          exact ⟨rfl,rfl⟩
        · simp only [Bool.or_eq_false_iff,decide_eq_false_iff_not] at hb
          obtain ⟨c,cs,e,hc⟩ := X.head3 hx (by omega)
          have h : k.w ++ r = 40 :: (k'.w ++ [41]) ++ r' := h
          rw [e] at h
          simp only [List.cons_append,List.cons.injEq] at h
          exact absurd h.1 hc
        · simp only [Bool.or_eq_false_iff,decide_eq_false_iff_not] at hb'
          obtain ⟨c,cs,e,hc⟩ := X.head3 hy (by omega)
          have h : 40 :: (k.w ++ [41]) ++ r = k'.w ++ r' := h
          rw [e] at h
          simp only [List.cons_append,List.cons.injEq] at h
          exact absurd h.1.symm hc
        · have h : 40 :: (k.w ++ [41]) ++ r = 40 :: (k'.w ++ [41]) ++ r' := h
          simp only [List.cons_append,List.append_assoc,List.cons.injEq,true_and,List.nil_append] at h
          obtain ⟨rfl,rfl⟩ := par k k' hx hy hl r r' h
          exact ⟨rfl,rfl⟩
      | bin op a b => have := fop_two op; simp only [X.f] at h3'; omega
    | bin op a b => have := fop_two op; simp only [X.f] at h3; omega
  · rw [U3 h3,U3b h3'] at h
    obtain ⟨c,cs,e,hc⟩ := X.head3 hx h3
    rw [e] at h
    simp only [List.cons_append,List.cons.injEq] at h
    exact absurd h.1 hc
  · rw [U3b h3,U3 h3'] at h
    obtain ⟨c,cs,e,hc⟩ := X.head3 hy h3'
    rw [e] at h
    simp only [List.cons_append,List.cons.injEq] at h
    exact absurd h.1.symm hc
  · rw [U3b h3,U3b h3'] at h
    rw [U3b h3] at hn
    simp only [List.length_cons,List.length_append] at hn
    simp only [List.cons_append,List.append_assoc,List.cons.injEq,true_and,List.nil_append] at h
    exact par x y hx hy (by omega) r r' h
theorem Rd_.all (n : Nat) : Rd_ n 1 ∧ Rd_ n 3 := by
  induction n using Nat.strongRecOn with
  | ind n ih =>
    have h3 := Rd_.three ih
    exact ⟨Rd_.down (by omega) (Rd_.down (by omega) h3),h3⟩
theorem X.inj {x y : X} {r r' : List UInt8} (hx : x.ok) (hy : y.ok) (hr : Stop 1 r) (hr' : Stop 1 r') (h : x.w ++ r = y.w ++ r') : x = y ∧ r = r' :=
  (Rd_.all (x.w.length)).1 x y r r' hx hy (by rw [U1]; exact Nat.le_refl _) hr hr' (by rw [U1,U1]; exact h)
end Go.Wk

set_option linter.unusedVariables false
set_option linter.unusedSimpArgs false
namespace Go.Wk
open Go Go.RowKit Go.Lib Go.Sort
theorem bl_in (b : Bool) (s : ByteArray) : bl (inB b s) = brk b (bl s) := by
  unfold inB brk
  cases b
  · rfl
  · simp only [if_true,bl_app]; rfl
theorem zT_is {t : Tm} (h : zT t = true) : t = Tm.none := by
  obtain ⟨v,l⟩ := t
  simp only [zT,Bool.and_eq_true,decide_eq_true_eq] at h
  obtain ⟨rfl,h⟩ := h
  rw [zV_is h]; rfl
theorem kids_is1 {x : Ex} (h : x.kids.length = 1) : x.kids = [x.kid 0] := by
  obtain ⟨o,t,l⟩ := x
  match l,h with
  | [a],_ => rfl
theorem kids_is2 {x : Ex} (h : x.kids.length = 2) : x.kids = [x.kid 0,x.kid 1] := by
  obtain ⟨o,t,l⟩ := x
  match l,h with
  | [a,b],_ => rfl
theorem ex_is {x : Ex} {o : Int} {t : Tm} {l : List Ex} (h1 : x.op = o) (h2 : x.t = t) (h3 : x.kids = l) : Ex.mk o t l = x := by
  obtain ⟨o',t',l'⟩ := x
  simp only [Ex.op,Ex.t,Ex.kids] at h1 h2 h3
  rw [h1,h2,h3]
theorem sgn_is {op : Int} (h : 2 ≤ op ∧ op ≤ 7) : bl (signW op) = [sgn op] := by
  have : op = 2 ∨ op = 3 ∨ op = 4 ∨ op = 5 ∨ op = 6 ∨ op = 7 := by omega
  rcases this with rfl | rfl | rfl | rfl | rfl | rfl <;> rfl
theorem fast_bin {x : Ex} (h : 2 ≤ x.op ∧ x.op ≤ 7) : fast x = (fop x.op : Int) := by
  unfold fast fop
  by_cases h1 : x.op = 2 ∨ x.op = 3 ∨ x.op = 7
  · rw [if_pos h1,if_pos h1]; rfl
  · rw [if_neg h1,if_neg h1,if_pos (by omega)]; rfl
theorem X.of : ∀ (d : Nat) (x : Ex),exB d x = true → ∃ e : X,e.ok ∧ e.ex = x ∧ bl (exW d x) = e.w ∧ fast x = (e.f : Int) ∧ numB x = e.num
  | 0,x,h => by simp [exB] at h
  | d + 1,x,h => by
    obtain ⟨_,h0,h1⟩ := exB_parts h
    rw [exW_pos (by omega)]
    simp only [Nat.add_sub_cancel]
    by_cases e0 : x.op = 0
    · obtain ⟨hk,_,ht⟩ := h0 e0
      rw [if_pos e0]
      refine ⟨.tm x.t,ht,ex_is e0 rfl hk,rfl,?_,?_⟩
      · unfold fast; rw [if_neg (by omega),if_neg (by omega),if_neg (by omega)]; rfl
      · unfold numB; rw [decide_eq_true e0]; rfl
    · obtain ⟨hz,hl,hh⟩ := h1 e0
      have hnum : numB x = false := by unfold numB; rw [decide_eq_false e0]; rfl
      rw [if_neg e0]
      by_cases e8 : 8 ≤ x.op ∧ x.op ≤ 10
      · rw [if_pos e8]
        have e : kidsN x.op = 1 := by simp [kidsN]; omega
        obtain ⟨_,hb⟩ := ex_one h (.inr e8)
        obtain ⟨k,ko,ke,kw,kf,kn⟩ := X.of d _ hb
        refine ⟨.call x.op k,⟨e8.1,e8.2,ko⟩,?_,?_,?_,hnum⟩
        · exact ex_is rfl (zT_is hz) (by rw [ke]; exact kids_is1 (by omega))
        · simp only [bl_app,kw,X.w,List.append_assoc]; rfl
        · unfold fast; rw [if_neg (by omega),if_neg (by omega),if_neg (by omega)]; rfl
      · rw [if_neg e8]
        by_cases e1 : x.op = 1
        · rw [if_pos e1]
          have e : kidsN x.op = 1 := by simp [kidsN]; omega
          obtain ⟨_,hb⟩ := ex_one h (.inl e1)
          obtain ⟨k,ko,ke,kw,kf,kn⟩ := X.of d _ hb
          refine ⟨.neg k,ko,?_,?_,?_,hnum⟩
          · exact ex_is e1 (zT_is hz) (by rw [ke]; exact kids_is1 (by omega))
          · rw [bl_app,bl_in,kw,kf,kn]
            have : decide ((k.f : Int) < 3) = decide (k.f < 3) := by congr 1; apply propext; omega
            rw [this]; rfl
          · unfold fast; rw [if_neg (by omega),if_neg (by omega),if_pos e1]; rfl
        · rw [if_neg e1]
          obtain ⟨hlen,hb0,hb1⟩ := ex_two h e0 e1 e8
          have ho := ex_ops h
          have e : kidsN x.op = 2 := by unfold kidsN; rw [if_neg (by omega),if_pos (by omega)]
          obtain ⟨a,ao,ae,aw,af,an⟩ := X.of d _ hb0
          obtain ⟨b,bo,be,bw,bf,bn⟩ := X.of d _ hb1
          refine ⟨.bin x.op a b,⟨by omega,by omega,ao,bo⟩,?_,?_,fast_bin (by omega),hnum⟩
          · exact ex_is rfl (zT_is hz) (by rw [ae,be]; exact kids_is2 (by omega))
          · simp only [bl_app,bl_in,aw,bw,af,bf,fast_bin (x := x) (by omega),sgn_is (op := x.op) (by omega),List.append_assoc]
            have e1 : decide ((a.f : Int) < (fop x.op : Int)) = decide (a.f < fop x.op) := by congr 1; apply propext; omega
            have e2 : decide ((b.f : Int) ≤ (fop x.op : Int)) = decide (b.f < fop x.op + 1) := by congr 1; apply propext; omega
            rw [e1,e2]; rfl
theorem ex_inj {x y : Ex} (hx : exB 8 x = true) (hy : exB 8 y = true) {r r' : List UInt8} (hr : Stop 1 r) (hr' : Stop 1 r') (h : bl (exW 8 x) ++ r = bl (exW 8 y) ++ r') : x = y ∧ r = r' := by
  obtain ⟨a,ao,ae,aw,_⟩ := X.of 8 x hx
  obtain ⟨b,bo,be,bw,_⟩ := X.of 8 y hy
  rw [aw,bw] at h
  obtain ⟨e,e2⟩ := X.inj ao bo hr hr' h
  exact ⟨by rw [← ae,← be,e],e2⟩
/-! how an expression ahead of a blank begins -/
def Lead (t : List UInt8) : Prop := (∃ c cs,t = c :: cs ∧ cls c ≠ 2) ∨ (∃ op rest,(8 ≤ op ∧ op ≤ 10) ∧ t = bl (wordW op) ++ 40 :: rest) ∨ ∃ s rest,nameB s = true ∧ t = bl s ++ 32 :: rest
theorem X.lead : ∀ (x : X) (r : List UInt8),x.ok → Lead (x.w ++ 32 :: r)
  | .tm t,r,h => by
    obtain ⟨k,hk⟩ := TK.of h
    show Lead (bl (termW t) ++ 32 :: r)
    obtain ⟨c,cs,e,hc⟩ := hk.head
    by_cases h2 : k = 2
    · subst h2
      generalize bl (termW t) = y at hk e
      cases hk
      exact .inr (.inr ⟨_,r,by assumption,rfl⟩)
    · rw [e]; exact .inl ⟨c,cs ++ 32 :: r,rfl,by omega⟩
  | .call op k,r,h => .inr (.inl ⟨op,k.w ++ [41] ++ 32 :: r,⟨h.1,h.2.1⟩,by simp [X.w]⟩)
  | .neg k,r,h => .inl ⟨45,_,rfl,by decide⟩
  | .bin op a b,r,h => by
    simp only [X.w,List.append_assoc,List.cons_append]
    cases hb : decide (a.f < fop op) with
    | true => exact .inl ⟨40,_,rfl,by decide⟩
    | false => exact X.lead a _ h.2.2.1
theorem Lead.name {s : ByteArray} {t r : List UInt8} (h : Lead t) (hs : nameB s = true) (hr : ∀ c cs,r = c :: cs → letC c = false ∧ c ≠ 32) (e : bl s ++ r = t) : False := by
  obtain ⟨c,cs,e1,h1,h2⟩ := word_cons (name_word hs).1
  rcases h with ⟨d,ds,rfl,hd⟩ | ⟨op,rest,ho,rfl⟩ | ⟨u,rest,hu,rfl⟩
  · rw [e1] at e
    simp only [List.cons_append,List.cons.injEq] at e
    rw [← e.1] at hd
    unfold cls at hd; rw [if_pos (by omega)] at hd; exact hd rfl
  · exact name_call hs ho (fun c cs e => (hr c cs e).1) e
  · obtain ⟨_,e3⟩ := span (word_letters (name_word hs).1) (word_letters (name_word hu).1) (fun c cs e => (hr c cs e).1) (fun c cs e => by simp only [List.cons.injEq] at e; rw [← e.1]; decide) e
    exact (hr _ _ e3).2 rfl
def notL : List UInt8 := [110,111,116,32]
theorem name_not {s : ByteArray} {r r' : List UInt8} (hs : nameB s = true) (hr : NL r) (e : bl s ++ r = notL ++ r') : False := by
  have e' : bl s ++ r = bl ⟨#[110,111,116]⟩ ++ 32 :: r' := e
  obtain ⟨e2,_⟩ := span (word_letters (name_word hs).1) (b := bl ⟨#[110,111,116]⟩) (by decide) hr (fun c cs e => by simp only [List.cons.injEq] at e; rw [← e.1]; decide) e'
  have h1 := (name_word hs).2
  rw [bl_inj e2] at h1; exact absurd h1 (by decide)
theorem Lead.not_ {t r : List UInt8} (h : Lead t) (e : notL ++ r = t) : False := by
  rcases h with ⟨d,ds,rfl,hd⟩ | ⟨op,rest,ho,rfl⟩ | ⟨u,rest,hu,rfl⟩
  · simp only [notL,List.cons_append,List.cons.injEq] at e
    rw [← e.1] at hd; exact absurd hd (by decide)
  · have : op = 8 ∨ op = 9 ∨ op = 10 := by omega
    have e' : (110 : UInt8) :: 111 :: 116 :: 32 :: r = bl (wordW op) ++ 40 :: rest := e
    rcases this with rfl | rfl | rfl
    · have : (110 : UInt8) = 108 := (List.cons.inj e').1
      exact absurd this (by decide)
    · have : (110 : UInt8) = 99 := (List.cons.inj e').1
      exact absurd this (by decide)
    · have : (110 : UInt8) = 98 := (List.cons.inj e').1
      exact absurd this (by decide)
  · exact name_not hu (fun c cs e => by simp only [List.cons.injEq] at e; rw [← e.1]; decide) e.symm
/-! columns -/
def sepC (l : List (List UInt8)) : List UInt8 := l.flatMap (fun a => 44 :: 32 :: a)
def colsC : List (List UInt8) → List UInt8
  | [] => []
  | a :: l => 40 :: (a ++ (sepC l ++ [41]))
theorem sepC_snoc (l : List (List UInt8)) (a : List UInt8) : sepC (l ++ [a]) = sepC l ++ 44 :: 32 :: a := by simp [sepC]
theorem getD_bl {l : List ByteArray} {i : Nat} (h : i < l.length) : (l.map bl)[i]? = some (bl (l.getD i ⟨#[]⟩)) := by simp [List.getD_eq_getElem?_getD,h]
theorem bl_colP {a : ByteArray} {l : List ByteArray} : ∀ i,i ≤ l.length → bl (colP (a :: l) (i + 1)) = 40 :: (bl a ++ sepC ((l.map bl).take i))
  | 0,_ => by
    show bl ((⟨#[]⟩ : ByteArray) ++ ⟨#[40]⟩ ++ a) = _
    simp only [bl_app,List.take_zero]
    show [] ++ [40] ++ bl a = 40 :: (bl a ++ sepC [])
    simp [sepC]
  | i + 1,hi => by
    have ih := bl_colP (a := a) (l := l) i (by omega)
    have e : colP (a :: l) (i + 1 + 1) = colP (a :: l) (i + 1) ++ (if i + 1 = 0 then ⟨#[40]⟩ else ⟨#[44,32]⟩) ++ (a :: l).getD (i + 1) ⟨#[]⟩ := rfl
    rw [e,if_neg (by omega),bl_app,bl_app,ih]
    have e2 : (a :: l).getD (i + 1) ⟨#[]⟩ = l.getD i ⟨#[]⟩ := by simp [List.getD_eq_getElem?_getD]
    rw [e2,List.take_add_one,getD_bl (by omega)]
    simp only [Option.toList,sepC_snoc]
    show 40 :: (bl a ++ sepC _) ++ [44,32] ++ _ = _
    simp
theorem bl_col (nm : ByteArray) (l : List ByteArray) : bl (colW nm l) = bl nm ++ colsC (l.map bl) := by
  unfold colW
  cases l with
  | nil => simp [colsC]
  | cons a l =>
    rw [if_neg (by simp)]
    simp only [bl_app,List.length_cons,bl_colP l.length (Nat.le_refl _),List.map_cons,colsC]
    rw [List.take_of_length_le (by simp)]
    show bl nm ++ _ ++ [41] = _
    simp
def CC (r : List UInt8) : Prop := ∃ c cs,r = c :: cs ∧ (c = 44 ∨ c = 41)
theorem CC.nl {r : List UInt8} (h : CC r) : NL r := by
  obtain ⟨c,cs,rfl,h⟩ := h
  intro d ds e
  simp only [List.cons.injEq] at e
  rw [← e.1]
  rcases h with rfl | rfl <;> decide
section
variable {α : Type} {f : α → List UInt8} {V : α → Prop}
theorem sep_cc (l : List α) (r : List UInt8) : CC (sepC (l.map f) ++ [41] ++ r) := by
  cases l with
  | nil => exact ⟨41,r,rfl,.inr rfl⟩
  | cons a l => exact ⟨44,_,rfl,.inl rfl⟩
theorem sep_inj (inj : ∀ a b r r',V a → V b → CC r → CC r' → f a ++ r = f b ++ r' → a = b ∧ r = r') : ∀ (l l' : List α) (r r' : List UInt8),(∀ a,a ∈ l → V a) → (∀ a,a ∈ l' → V a) → sepC (l.map f) ++ [41] ++ r = sepC (l'.map f) ++ [41] ++ r' → l = l' ∧ r = r'
  | [],[],r,r',_,_,h => by
    refine ⟨rfl,?_⟩
    simpa [sepC] using h
  | [],b :: l',r,r',_,_,h => by
    have : (41 : UInt8) = 44 := (List.cons.inj h).1
    exact absurd this (by decide)
  | a :: l,[],r,r',_,_,h => by
    have : (44 : UInt8) = 41 := (List.cons.inj h).1
    exact absurd this (by decide)
  | a :: l,b :: l',r,r',hl,hl',h => by
    have h : 44 :: 32 :: (f a ++ (sepC (l.map f) ++ [41] ++ r)) = 44 :: 32 :: (f b ++ (sepC (l'.map f) ++ [41] ++ r')) := by simpa [sepC] using h
    simp only [List.cons.injEq,true_and] at h
    obtain ⟨rfl,h2⟩ := inj a b _ _ (hl a (by simp)) (hl' b (by simp)) (sep_cc l r) (sep_cc l' r') h
    obtain ⟨rfl,rfl⟩ := sep_inj inj l l' r r' (fun a ha => hl a (by simp [ha])) (fun a ha => hl' a (by simp [ha])) h2
    exact ⟨rfl,rfl⟩
theorem cols_inj (inj : ∀ a b r r',V a → V b → CC r → CC r' → f a ++ r = f b ++ r' → a = b ∧ r = r') {l l' : List α} {r r' : List UInt8} (hl : ∀ a,a ∈ l → V a) (hl' : ∀ a,a ∈ l' → V a) (hr : ∀ c cs,r = c :: cs → c ≠ 40) (hr' : ∀ c cs,r' = c :: cs → c ≠ 40)
    (h : colsC (l.map f) ++ r = colsC (l'.map f) ++ r') : l = l' ∧ r = r' := by
  cases l with
  | nil =>
    cases l' with
    | nil => exact ⟨rfl,h⟩
    | cons b l' => exact absurd rfl (hr _ _ h)
  | cons a l =>
    cases l' with
    | nil => exact absurd rfl (hr' _ _ h.symm)
    | cons b l' =>
      have h : 40 :: (f a ++ (sepC (l.map f) ++ [41] ++ r)) = 40 :: (f b ++ (sepC (l'.map f) ++ [41] ++ r')) := by simpa [colsC] using h
      simp only [List.cons.injEq,true_and] at h
      obtain ⟨rfl,h2⟩ := inj a b _ _ (hl a (by simp)) (hl' b (by simp)) (sep_cc l r) (sep_cc l' r') h
      obtain ⟨rfl,rfl⟩ := sep_inj inj l l' r r' (fun a ha => hl a (by simp [ha])) (fun a ha => hl' a (by simp [ha])) h2
      exact ⟨rfl,rfl⟩
def End (r : List UInt8) : Prop := ∀ c cs,r = c :: cs → letC c = false ∧ c ≠ 40
theorem cols_nl (l : List (List UInt8)) {r : List UInt8} (hr : End r) : NL (colsC l ++ r) := by
  cases l with
  | nil => exact fun c cs e => (hr c cs e).1
  | cons a l =>
    intro c cs e
    have : (40 : UInt8) = c := (List.cons.inj e).1
    rw [← this]; decide
theorem col_inj (inj : ∀ a b r r',V a → V b → CC r → CC r' → f a ++ r = f b ++ r' → a = b ∧ r = r') {p q : ByteArray} (hp : nameB p = true) (hq : nameB q = true) {l l' : List α} {r r' : List UInt8} (hl : ∀ a,a ∈ l → V a) (hl' : ∀ a,a ∈ l' → V a) (hr : End r) (hr' : End r')
    (h : bl p ++ colsC (l.map f) ++ r = bl q ++ colsC (l'.map f) ++ r') : p = q ∧ l = l' ∧ r = r' := by
  rw [List.append_assoc,List.append_assoc] at h
  obtain ⟨e,h2⟩ := span (word_letters (name_word hp).1) (word_letters (name_word hq).1) (cols_nl _ hr) (cols_nl _ hr') h
  obtain ⟨e2,e3⟩ := cols_inj inj hl hl' (fun c cs e => (hr c cs e).2) (fun c cs e => (hr' c cs e).2) h2
  exact ⟨bl_inj e,e2,e3⟩
end
theorem atB_tells {x : At} (h : atB x = true) : nameB x.p = true ∧ ∀ t,t ∈ x.args → tmB t = true := by
  simp only [atB,Bool.and_eq_true] at h
  exact ⟨h.1.1,fun t ht => List.all_eq_true.1 h.2 t ht⟩
theorem bl_at (x : At) : bl (atW x) = bl x.p ++ colsC (x.args.map (fun t => bl (termW t))) := by
  unfold atW; rw [bl_col,List.map_map]; rfl
theorem at_inj {a b : At} (ha : atB a = true) (hb : atB b = true) {r r' : List UInt8} (hr : End r) (hr' : End r') (h : bl (atW a) ++ r = bl (atW b) ++ r') : a = b ∧ r = r' := by
  rw [bl_at,bl_at] at h
  obtain ⟨h1,h2⟩ := atB_tells ha
  obtain ⟨h3,h4⟩ := atB_tells hb
  obtain ⟨e1,e2,e3⟩ := col_inj (V := fun t => tmB t = true) (fun a b r r' ha hb hr hr' h => term_inj ha hb hr.nl hr'.nl h) h1 h3 h2 h4 hr hr' h
  obtain ⟨p,l⟩ := a
  obtain ⟨p',l'⟩ := b
  simp only at e1 e2
  exact ⟨by rw [e1,e2],e3⟩
/-! arguments -/
def kwd (k : Int) : ByteArray := if k = 1 then ⟨#[99,111,117,110,116]⟩ else foldB k
inductive AK : Ag → List UInt8 → Prop
  | term (t : Tm) (h : tmB t = true) : AK ⟨0,t⟩ (bl (termW t))
  | fold (k : Int) (v : ByteArray) (hk : 1 ≤ k ∧ k ≤ 4) (hv : ∀ c,c ∈ bl v → letC c = true) : AK ⟨k,⟨v,⟨0,0,⟨#[]⟩⟩⟩⟩ (bl (kwd k) ++ 40 :: (bl v ++ [41]))
theorem AK.of {x : Ag} (h : argB x = true) : AK x (bl (argW x)) := by
  obtain ⟨k,t⟩ := x
  have hk := arg_kinds h
  simp only at hk
  by_cases h0 : k = 0
  · subst h0
    have : argW ⟨0,t⟩ = termW t := by unfold argW; rw [if_neg (show ¬ (0 : Int) = 1 by decide),if_neg (show ¬ ((0 : Int) = 2 ∨ (0 : Int) = 3 ∨ (0 : Int) = 4) by decide)]
    rw [this]; exact .term t (arg_term h rfl)
  · by_cases h1 : k = 1
    · subst h1
      have hz : zT t = true := by unfold argB at h; rw [if_neg (show ¬ (1 : Int) = 0 by decide),if_pos rfl] at h; exact h
      rw [zT_is hz]
      exact .fold 1 ⟨#[]⟩ (by decide) (fun c hc => by simp [bl] at hc)
    · have h234 : k = 2 ∨ k = 3 ∨ k = 4 := by omega
      obtain ⟨hv,ht⟩ := arg_var h h234
      simp only at hv ht
      have h2 : ¬ t.v = ⟨#[95]⟩ := by
        unfold argB at h; rw [if_neg h0,if_neg h1,if_pos h234] at h
        simp only [Bool.and_eq_true,Bool.not_eq_true',decide_eq_false_iff_not] at h; exact h.2.1
      unfold tmB at ht
      rw [if_neg hv,if_neg h2] at ht
      simp only [Bool.and_eq_true] at ht
      have e : argW ⟨k,t⟩ = foldB k ++ ⟨#[40]⟩ ++ t.v ++ ⟨#[41]⟩ := by unfold argW; rw [if_neg h1,if_pos h234]
      obtain ⟨v,l⟩ := t
      simp only at ht e
      have ez := zV_is ht.2
      subst ez
      rw [e]
      have e2 : bl (foldB k ++ ⟨#[40]⟩ ++ v ++ ⟨#[41]⟩) = bl (kwd k) ++ 40 :: (bl v ++ [41]) := by
        unfold kwd; rw [if_neg h1]
        simp only [bl_app,List.append_assoc]; rfl
      rw [e2]
      exact .fold k v (by omega) (word_letters ht.1)
theorem kwd_letters {k : Int} (h : 1 ≤ k ∧ k ≤ 4) : (∀ c,c ∈ bl (kwd k) → letC c = true) ∧ kwB (kwd k) = true := by
  have : k = 1 ∨ k = 2 ∨ k = 3 ∨ k = 4 := by omega
  rcases this with rfl | rfl | rfl | rfl <;> exact ⟨by decide,by decide⟩
theorem kwd_inj {a b : Int} (ha : 1 ≤ a ∧ a ≤ 4) (hb : 1 ≤ b ∧ b ≤ 4) (h : kwd a = kwd b) : a = b := by
  have : a = 1 ∨ a = 2 ∨ a = 3 ∨ a = 4 := by omega
  have : b = 1 ∨ b = 2 ∨ b = 3 ∨ b = 4 := by omega
  rcases ‹a = 1 ∨ _› with rfl | rfl | rfl | rfl <;> rcases ‹b = 1 ∨ _› with rfl | rfl | rfl | rfl <;> first | rfl | exact absurd h (by decide)
theorem kwd_cons {k : Int} (h : 1 ≤ k ∧ k ≤ 4) : ∃ c cs,bl (kwd k) = c :: cs ∧ cls c = 2 := by
  have : k = 1 ∨ k = 2 ∨ k = 3 ∨ k = 4 := by omega
  rcases this with rfl | rfl | rfl | rfl <;> exact ⟨_,_,rfl,by decide⟩
theorem nl40 (r : List UInt8) : NL (40 :: r) := fun c cs e => by simp only [List.cons.injEq] at e; rw [← e.1]; decide
theorem nl41 (r : List UInt8) : NL (41 :: r) := fun c cs e => by simp only [List.cons.injEq] at e; rw [← e.1]; decide
theorem tm_kwd {t : Tm} {k : Int} {r r' : List UInt8} (ht : tmB t = true) (hk : 1 ≤ k ∧ k ≤ 4) (hr : NL r) (h : bl (termW t) ++ r = bl (kwd k) ++ 40 :: r') : False := by
  obtain ⟨j,hj⟩ := TK.of ht
  obtain ⟨c,cs,e,hc⟩ := hj.head
  obtain ⟨d,ds,e2,hd⟩ := kwd_cons hk
  have hcd : c = d := by rw [e,e2] at h; simp only [List.cons_append,List.cons.injEq] at h; exact h.1
  have : j = 2 := by rw [← hc,hcd,hd]
  subst this
  generalize bl (termW t) = y at hj e h
  cases hj
  rename_i s hs
  obtain ⟨e3,_⟩ := span (word_letters (name_word hs).1) (kwd_letters hk).1 hr (nl40 _) h
  have h1 := (name_word hs).2
  rw [bl_inj e3,(kwd_letters hk).2] at h1; cases h1
theorem AK.inj {a b : Ag} {x y r r' : List UInt8} (ha : AK a x) (hb : AK b y) (hr : NL r) (hr' : NL r') (h : x ++ r = y ++ r') : a = b ∧ r = r' := by
  cases ha <;> cases hb
  · obtain ⟨rfl,rfl⟩ := term_inj (by assumption) (by assumption) hr hr' h; exact ⟨rfl,rfl⟩
  · rw [List.append_assoc,List.cons_append] at h
    exact (tm_kwd (by assumption) (by assumption) hr h).elim
  · rw [List.append_assoc,List.cons_append] at h
    exact (tm_kwd (by assumption) (by assumption) hr' h.symm).elim
  · rename_i k v hk hv k' v' hk' hv'
    simp only [List.append_assoc,List.cons_append,List.nil_append] at h
    obtain ⟨e,h2⟩ := span (kwd_letters hk).1 (kwd_letters hk').1 (nl40 _) (nl40 _) h
    simp only [List.cons.injEq,true_and] at h2
    obtain ⟨e2,h3⟩ := span hv hv' (nl41 _) (nl41 _) h2
    simp only [List.cons.injEq,true_and] at h3
    exact ⟨by rw [kwd_inj hk hk' (bl_inj e),bl_inj e2],h3⟩
/-! literals -/
def noX : Ex := .mk 0 Tm.none []
theorem noE_is {e : Ex} (h : noE e = true) : e = noX := by
  simp only [noE,Bool.and_eq_true,decide_eq_true_eq] at h
  exact (ex_is h.1.1 (zT_is h.1.2) (List.eq_nil_of_length_eq_zero (by omega))).symm
inductive LK : Lt → List UInt8 → Prop
  | pos (a : At) (h : atB a = true) : LK ⟨1,a,0,noX,noX⟩ (bl (atW a))
  | neg (a : At) (h : atB a = true) : LK ⟨2,a,0,noX,noX⟩ (notL ++ bl (atW a))
  | cmp (r : Int) (x y : Ex) (hr : 1 ≤ r ∧ r ≤ 6) (hx : exB 8 x = true) (hy : exB 8 y = true) : LK ⟨3,⟨⟨#[]⟩,[]⟩,r,x,y⟩ (bl (exW 8 x) ++ 32 :: (bl (relW r) ++ 32 :: bl (exW 8 y)))
theorem LK.of {x : Lt} (h : ltB x = true) : LK x (bl (ltW x)) := by
  obtain ⟨k,a,r,e1,e2⟩ := x
  unfold ltB at h
  unfold ltW
  simp only at h ⊢
  by_cases hk : k = 1 ∨ k = 2
  · rw [if_pos hk] at h
    simp only [Bool.and_eq_true,decide_eq_true_eq] at h
    obtain ⟨⟨⟨ha,rfl⟩,h1⟩,h2⟩ := h
    rw [noE_is h1,noE_is h2]
    rcases hk with rfl | rfl
    · rw [if_pos rfl]; exact .pos a ha
    · rw [if_neg (by decide),if_pos rfl,bl_app]; exact .neg a ha
  · rw [if_neg hk] at h
    split at h
    · rename_i h3
      subst h3
      simp only [Bool.and_eq_true,decide_eq_true_eq] at h
      obtain ⟨⟨⟨⟨⟨hp,hl⟩,hr1⟩,hr2⟩,hx⟩,hy⟩ := h
      obtain ⟨p,l⟩ := a
      simp only at hp hl
      subst hp
      have : l = [] := List.eq_nil_of_length_eq_zero (by omega)
      subst this
      rw [if_neg (by decide),if_neg (by decide)]
      simp only [bl_app,List.append_assoc]
      exact .cmp r e1 e2 ⟨hr1,hr2⟩ hx hy
    · cases h
def LE_ (r : List UInt8) : Prop := ∃ c cs,r = c :: cs ∧ (c = 44 ∨ c = 46)
theorem LE_.end_ {r : List UInt8} (h : LE_ r) : End r := by
  obtain ⟨c,cs,rfl,h⟩ := h
  intro d ds e
  simp only [List.cons.injEq] at e
  rw [← e.1]
  rcases h with rfl | rfl <;> decide
theorem LE_.stop {r : List UInt8} (h : LE_ r) : Stop 1 r := ⟨h.end_,fun op cs _ _ _ e => by
  obtain ⟨c,cs,rfl,h⟩ := h
  simp only [List.cons.injEq] at e
  rw [e.1] at h
  rcases h with h | h <;> exact absurd h (by decide)⟩
theorem rel_stop {r : Int} (hr : 1 ≤ r ∧ r ≤ 6) (cs : List UInt8) : Stop 1 (32 :: (bl (relW r) ++ 32 :: cs)) := by
  refine ⟨fun c cs e => by simp only [List.cons.injEq] at e; rw [← e.1]; decide,fun op cs' h1 h2 _ e => ?_⟩
  simp only [List.cons.injEq,true_and] at e
  have : r = 1 ∨ r = 2 ∨ r = 3 ∨ r = 4 ∨ r = 5 ∨ r = 6 := by omega
  have : op = 2 ∨ op = 3 ∨ op = 4 ∨ op = 5 ∨ op = 6 ∨ op = 7 := by omega
  rcases ‹r = 1 ∨ _› with rfl | rfl | rfl | rfl | rfl | rfl <;> rcases ‹op = 2 ∨ _› with rfl | rfl | rfl | rfl | rfl | rfl <;> exact absurd (List.cons.inj e).1 (by decide)
theorem rel_inj {a b : Int} (ha : 1 ≤ a ∧ a ≤ 6) (hb : 1 ≤ b ∧ b ≤ 6) {r r' : List UInt8} (h : bl (relW a) ++ 32 :: r = bl (relW b) ++ 32 :: r') : a = b ∧ r = r' := by
  have : a = 1 ∨ a = 2 ∨ a = 3 ∨ a = 4 ∨ a = 5 ∨ a = 6 := by omega
  have : b = 1 ∨ b = 2 ∨ b = 3 ∨ b = 4 ∨ b = 5 ∨ b = 6 := by omega
  rcases ‹a = 1 ∨ _› with rfl | rfl | rfl | rfl | rfl | rfl <;> rcases ‹b = 1 ∨ _› with rfl | rfl | rfl | rfl | rfl | rfl <;>
    first
    | exact ⟨rfl,@List.append_cancel_left _ [61,32] _ _ h⟩
    | exact ⟨rfl,@List.append_cancel_left _ [33,61,32] _ _ h⟩
    | exact ⟨rfl,@List.append_cancel_left _ [60,32] _ _ h⟩
    | exact ⟨rfl,@List.append_cancel_left _ [60,61,32] _ _ h⟩
    | exact ⟨rfl,@List.append_cancel_left _ [62,32] _ _ h⟩
    | exact ⟨rfl,@List.append_cancel_left _ [62,61,32] _ _ h⟩
    | exact absurd (List.cons.inj h).1 (by decide)
    | exact absurd (List.cons.inj (List.cons.inj h).2).1 (by decide)
theorem ex_lead {x : Ex} (h : exB 8 x = true) (r : List UInt8) : Lead (bl (exW 8 x) ++ 32 :: r) := by
  obtain ⟨a,ao,_,aw,_⟩ := X.of 8 x h
  rw [aw]; exact X.lead a r ao
theorem at_lead {a : At} (h : atB a = true) {r t : List UInt8} (hr : LE_ r) (ht : Lead t) (e : bl (atW a) ++ r = t) : False := by
  rw [bl_at,List.append_assoc] at e
  refine ht.name (atB_parts h).1 (fun c cs e => ?_) e
  cases hl : a.args.map (fun t => bl (termW t)) with
  | nil =>
    rw [hl] at e
    obtain ⟨d,ds,rfl,hd⟩ := hr
    have : d = c := (List.cons.inj e).1
    rw [← this]
    rcases hd with rfl | rfl <;> decide
  | cons b l =>
    rw [hl] at e
    have : (40 : UInt8) = c := (List.cons.inj e).1
    rw [← this]; decide
theorem at_not {a : At} (h : atB a = true) {r r' : List UInt8} (hr : LE_ r) (e : bl (atW a) ++ r = notL ++ r') : False := by
  rw [bl_at,List.append_assoc] at e
  exact name_not (atB_parts h).1 (cols_nl _ hr.end_) e
theorem LK.inj {a b : Lt} {x y r r' : List UInt8} (ha : LK a x) (hb : LK b y) (hr : LE_ r) (hr' : LE_ r') (h : x ++ r = y ++ r') : a = b ∧ r = r' := by
  cases ha with
  | pos a ha =>
    cases hb with
    | pos b hb => obtain ⟨rfl,rfl⟩ := at_inj ha hb hr.end_ hr'.end_ h; exact ⟨rfl,rfl⟩
    | neg b hb => rw [List.append_assoc] at h; exact (at_not ha hr h).elim
    | cmp q x y hq hx hy =>
      simp only [List.append_assoc,List.cons_append] at h
      exact (at_lead ha hr (ex_lead hx _) h).elim
  | neg a ha =>
    cases hb with
    | pos b hb => rw [List.append_assoc] at h; exact (at_not hb hr' h.symm).elim
    | neg b hb =>
      rw [List.append_assoc,List.append_assoc] at h
      obtain ⟨rfl,rfl⟩ := at_inj ha hb hr.end_ hr'.end_ (List.append_cancel_left h); exact ⟨rfl,rfl⟩
    | cmp q x y hq hx hy =>
      simp only [List.append_assoc,List.cons_append] at h
      exact ((ex_lead hx _).not_ h).elim
  | cmp p x y hp hx hy =>
    cases hb with
    | pos b hb =>
      simp only [List.append_assoc,List.cons_append] at h
      exact (at_lead hb hr' (ex_lead hx _) h.symm).elim
    | neg b hb =>
      simp only [List.append_assoc,List.cons_append] at h
      exact ((ex_lead hx _).not_ h.symm).elim
    | cmp q u v hq hu hv =>
      simp only [List.append_assoc,List.cons_append] at h
      obtain ⟨e1,h2⟩ := ex_inj hx hu (rel_stop hp _) (rel_stop hq _) h
      simp only [List.cons.injEq,true_and] at h2
      obtain ⟨e2,h3⟩ := rel_inj hp hq h2
      obtain ⟨e3,h4⟩ := ex_inj hy hv hr.stop hr'.stop h3
      exact ⟨by rw [e1,e2,e3],h4⟩
end Go.Wk

set_option linter.unusedVariables false
set_option linter.unusedSimpArgs false
namespace Go.Wk
open Go Go.RowKit Go.Lib Go.Sort
/-! ### rules and facts: the text tells them -/
def bodyC : List (List UInt8) → List UInt8
  | [] => []
  | a :: l => 32 :: 58 :: 45 :: 32 :: (a ++ sepC l)
def lw (x : Lt) : List UInt8 := bl (ltW x)
theorem bl_ruP {a : Lt} {l : List Lt} : ∀ i,i ≤ l.length → bl (ruP (a :: l) (i + 1)) = 32 :: 58 :: 45 :: 32 :: (lw a ++ sepC ((l.map lw).take i))
  | 0,_ => by
    show bl ((⟨#[]⟩ : ByteArray) ++ ⟨#[32,58,45,32]⟩ ++ ltW a) = _
    simp only [bl_app,List.take_zero]
    show [] ++ [32,58,45,32] ++ lw a = 32 :: 58 :: 45 :: 32 :: (lw a ++ sepC [])
    simp [sepC]
  | i + 1,hi => by
    have ih := bl_ruP (a := a) (l := l) i (by omega)
    have e : ruP (a :: l) (i + 1 + 1) = ruP (a :: l) (i + 1) ++ (if i + 1 = 0 then ⟨#[32,58,45,32]⟩ else ⟨#[44,32]⟩) ++ ltW (ltAt (a :: l) (i + 1)) := rfl
    rw [e,if_neg (by omega),bl_app,bl_app,ih]
    have e2 : ltAt (a :: l) (i + 1) = ltAt l i := by simp [ltAt,List.getD_eq_getElem?_getD]
    have e3 : (l.map lw)[i]? = some (lw (ltAt l i)) := by rw [List.getElem?_map,ltAt_there (by omega)]; rfl
    rw [e2,List.take_add_one,e3]
    simp only [Option.toList,sepC_snoc]
    show 32 :: 58 :: 45 :: 32 :: (lw a ++ sepC _) ++ [44,32] ++ lw _ = _
    simp
theorem bl_body (l : List Lt) : bl (ruP l l.length) = bodyC (l.map lw) := by
  cases l with
  | nil => rfl
  | cons a l =>
    rw [List.length_cons,bl_ruP l.length (Nat.le_refl _),List.take_of_length_le (by simp)]; rfl
def aw (x : Ag) : List UInt8 := bl (argW x)
theorem ru_shape (a c d : List UInt8) (r : List UInt8) : a ++ c ++ (d ++ [46]) ++ r = a ++ c ++ (d ++ 46 :: r) := by simp
theorem bl_ru (x : Ru) : bl (ruW x) = bl x.p ++ colsC (x.head.map aw) ++ (bodyC (x.body.map lw) ++ [46]) := by
  unfold ruW
  rw [bl_app,bl_app,bl_col,bl_body,List.map_map,List.append_assoc]; rfl
theorem sep_le (l : List (List UInt8)) (r : List UInt8) : LE_ (sepC l ++ 46 :: r) := by
  cases l with
  | nil => exact ⟨46,r,rfl,.inr rfl⟩
  | cons a l => exact ⟨44,_,rfl,.inl rfl⟩
theorem lits_inj : ∀ (l l' : List Lt) (r r' : List UInt8),(∀ a,a ∈ l → ltB a = true) → (∀ a,a ∈ l' → ltB a = true) → sepC (l.map lw) ++ 46 :: r = sepC (l'.map lw) ++ 46 :: r' → l = l' ∧ r = r'
  | [],[],r,r',_,_,h => by
    refine ⟨rfl,?_⟩
    simpa [sepC] using h
  | [],b :: l',r,r',_,_,h => by
    have : (46 : UInt8) = 44 := (List.cons.inj h).1
    exact absurd this (by decide)
  | a :: l,[],r,r',_,_,h => by
    have : (44 : UInt8) = 46 := (List.cons.inj h).1
    exact absurd this (by decide)
  | a :: l,b :: l',r,r',hl,hl',h => by
    have h : 44 :: 32 :: (lw a ++ (sepC (l.map lw) ++ 46 :: r)) = 44 :: 32 :: (lw b ++ (sepC (l'.map lw) ++ 46 :: r')) := by simpa [sepC] using h
    simp only [List.cons.injEq,true_and] at h
    obtain ⟨rfl,h2⟩ := LK.inj (LK.of (hl a (by simp))) (LK.of (hl' b (by simp))) (sep_le _ _) (sep_le _ _) h
    obtain ⟨rfl,rfl⟩ := lits_inj l l' r r' (fun a ha => hl a (by simp [ha])) (fun a ha => hl' a (by simp [ha])) h2
    exact ⟨rfl,rfl⟩
theorem body_inj {l l' : List Lt} {r r' : List UInt8} (hl : ∀ a,a ∈ l → ltB a = true) (hl' : ∀ a,a ∈ l' → ltB a = true) (h : bodyC (l.map lw) ++ 46 :: r = bodyC (l'.map lw) ++ 46 :: r') : l = l' ∧ r = r' := by
  cases l with
  | nil =>
    cases l' with
    | nil =>
      refine ⟨rfl,?_⟩
      simpa [bodyC] using h
    | cons b l' =>
      have : (46 : UInt8) = 32 := (List.cons.inj h).1
      exact absurd this (by decide)
  | cons a l =>
    cases l' with
    | nil =>
      have : (32 : UInt8) = 46 := (List.cons.inj h).1
      exact absurd this (by decide)
    | cons b l' =>
      have h : 32 :: 58 :: 45 :: 32 :: (lw a ++ (sepC (l.map lw) ++ 46 :: r)) = 32 :: 58 :: 45 :: 32 :: (lw b ++ (sepC (l'.map lw) ++ 46 :: r')) := by simpa [bodyC] using h
      simp only [List.cons.injEq,true_and] at h
      obtain ⟨rfl,h2⟩ := LK.inj (LK.of (hl a (by simp))) (LK.of (hl' b (by simp))) (sep_le _ _) (sep_le _ _) h
      obtain ⟨rfl,rfl⟩ := lits_inj l l' r r' (fun a ha => hl a (by simp [ha])) (fun a ha => hl' a (by simp [ha])) h2
      exact ⟨rfl,rfl⟩
theorem ruB_tells {x : Ru} (h : ruB x = true) : nameB x.p = true ∧ (∀ a,a ∈ x.head → argB a = true) ∧ ∀ a,a ∈ x.body → ltB a = true := by
  simp only [ruB,Bool.and_eq_true] at h
  exact ⟨h.1.1.1.1.1,fun t ht => List.all_eq_true.1 h.1.1.2 t ht,fun t ht => List.all_eq_true.1 h.1.2 t ht⟩
theorem body_end (l : List (List UInt8)) (r : List UInt8) : End (bodyC l ++ 46 :: r) := by
  intro c cs e
  cases l with
  | nil =>
    have : (46 : UInt8) = c := (List.cons.inj e).1
    rw [← this]; decide
  | cons a l =>
    have : (32 : UInt8) = c := (List.cons.inj e).1
    rw [← this]; decide
theorem ru_inj {x y : Ru} (hx : ruB x = true) (hy : ruB y = true) {r r' : List UInt8} (h : bl (ruW x) ++ r = bl (ruW y) ++ r') : x = y ∧ r = r' := by
  obtain ⟨h1,h2,h3⟩ := ruB_tells hx
  obtain ⟨h1',h2',h3'⟩ := ruB_tells hy
  rw [bl_ru,bl_ru,ru_shape,ru_shape] at h
  obtain ⟨e1,e2,h4⟩ := col_inj (V := fun a => argB a = true) (fun a b r r' ha hb hr hr' h => AK.inj (AK.of ha) (AK.of hb) hr.nl hr'.nl h) h1 h1' h2 h2' (body_end _ _) (body_end _ _) h
  obtain ⟨e3,e4⟩ := body_inj h3 h3' h4
  obtain ⟨p,a,b⟩ := x
  obtain ⟨p',a',b'⟩ := y
  simp only at e1 e2 e3
  exact ⟨by rw [e1,e2,e3],e4⟩
theorem ruOf_inj {x y : Fc} (h : ruOf x = ruOf y) : x = y := by
  obtain ⟨p,l⟩ := x
  obtain ⟨p',l'⟩ := y
  simp only [ruOf,Ru.mk.injEq,and_true] at h
  have : ∀ (l l' : List Vl),l.map (fun v => (⟨0,vT v⟩ : Ag)) = l'.map (fun v => ⟨0,vT v⟩) → l = l' := by
    intro l
    induction l with
    | nil => intro l' h; cases l' with
      | nil => rfl
      | cons b l' => simp at h
    | cons a l ih => intro l' h; cases l' with
      | nil => simp at h
      | cons b l' =>
        simp only [List.map_cons,List.cons.injEq,Ag.mk.injEq,true_and,vT,Tm.mk.injEq] at h
        rw [h.1,ih l' h.2]
  rw [h.1,this l l' h.2]
def fw (x : Fc) : List UInt8 := bl (ruW (ruOf x)) ++ [10]
theorem bl_fs {l : List Fc} : ∀ i,i ≤ l.length → bl (fsW l i) = (l.take i).flatMap fw
  | 0,_ => rfl
  | i + 1,hi => by
    have e : fsW l (i + 1) = fsW l i ++ fcW (fcAt l i) ++ ⟨#[46,10]⟩ := rfl
    rw [e,bl_app,bl_app,bl_fs i (by omega),List.take_add_one,fcAt_there (by omega)]
    simp only [Option.toList,List.flatMap_append,List.flatMap_cons,List.flatMap_nil,List.append_nil,fw,ruW_fc,bl_app]
    rw [List.append_assoc,List.append_assoc]; rfl
theorem bl_fsT (l : List Fc) : bl (fsT l) = l.flatMap fw := by unfold fsT; rw [bl_fs _ (Nat.le_refl _),List.take_length]
theorem fw_cons (x : Fc) : ∃ c cs,fw x = c :: cs := by
  unfold fw
  cases bl (ruW (ruOf x)) with
  | nil => exact ⟨10,[],rfl⟩
  | cons c cs => exact ⟨c,_,rfl⟩
theorem fs_inj : ∀ (l m : List Fc),(∀ a,a ∈ l → mayB a = true) → (∀ a,a ∈ m → mayB a = true) → l.flatMap fw = m.flatMap fw → l = m
  | [],[],_,_,_ => rfl
  | [],b :: m,_,_,h => by
    obtain ⟨c,cs,e⟩ := fw_cons b
    simp only [List.flatMap_nil,List.flatMap_cons,e,List.cons_append] at h
    cases h
  | a :: l,[],_,_,h => by
    obtain ⟨c,cs,e⟩ := fw_cons a
    simp only [List.flatMap_nil,List.flatMap_cons,e,List.cons_append] at h
    cases h
  | a :: l,b :: m,hl,hm,h => by
    simp only [List.flatMap_cons,fw,List.append_assoc] at h
    obtain ⟨e,h2⟩ := ru_inj (by rw [ruB_fc]; exact hl a (by simp)) (by rw [ruB_fc]; exact hm b (by simp)) h
    have h3 : l.flatMap fw = m.flatMap fw := (List.cons.inj h2).2
    rw [ruOf_inj e,fs_inj l m (fun a ha => hl a (by simp [ha])) (fun a ha => hm a (by simp [ha])) h3]
/-! ### what the law asks -/
theorem ru_same {x y : Ru} (hx : ruB x = true) (hy : ruB y = true) : ruW x = ruW y ↔ x = y :=
  ⟨fun h => (ru_inj hx hy (r := []) (r' := []) (by rw [h])).1,fun h => by rw [h]⟩
theorem fs_same {l m : List Fc} (hl : l.all mayB = true) (hm : m.all mayB = true) : fsT l = fsT m ↔ l = m :=
  ⟨fun h => fs_inj l m (fun a ha => List.all_eq_true.1 hl a ha) (fun a ha => List.all_eq_true.1 hm a ha) (by rw [← bl_fsT,← bl_fsT,h]),fun h => by rw [h]⟩
theorem q_same {a b : At} (ha : atB a = true) (hb : atB b = true) : atW a ++ ⟨#[63]⟩ = atW b ++ ⟨#[63]⟩ ↔ a = b :=
  ⟨fun h => by
    have h2 : bl (atW a) ++ [63] = bl (atW b) ++ [63] := by
      have := congrArg bl h
      rw [bl_app,bl_app] at this; exact this
    have en : End [63] := fun c cs e => by
      have : (63 : UInt8) = c := (List.cons.inj e).1
      rw [← this]; decide
    exact (at_inj ha hb en en h2).1,fun h => by rw [h]⟩
end Go.Wk

set_option linter.unusedVariables false
set_option linter.unusedSimpArgs false
namespace Go.Wk
open Go Go.RowKit Go.Lib
/-! ### are two things the same? -/
noncomputable def eqB {α : Type} (a b : α) : Bool := @decide (a = b) (Classical.propDecidable _)
section
variable {α : Type} {a b : α}
theorem eqB_yes (h : a = b) : eqB a b = true := by unfold eqB; exact @decide_eq_true _ (Classical.propDecidable _) h
theorem eqB_no (h : ¬ a = b) : eqB a b = false := by unfold eqB; exact @decide_eq_false _ (Classical.propDecidable _) h
theorem eqB_eq (h : eqB a b = true) : a = b := by unfold eqB at h; exact @of_decide_eq_true _ (Classical.propDecidable _) h
theorem eqB_ne (h : eqB a b = false) : ¬ a = b := by unfold eqB at h; exact @of_decide_eq_false _ (Classical.propDecidable _) h
theorem eqB_of {p : Bool} (h : p = true ↔ a = b) : eqB a b = p := by
  cases p with
  | true => exact eqB_yes (h.1 rfl)
  | false => exact eqB_no (fun e => by have := h.2 e; cases this)
theorem same_all {l l2 : List α} {i : Nat} (hl : (l.length : Int) = l2.length) (hi : l.length ≤ i) (h : ∀ (j : Nat) (y : α),j < i → l[j]? = some y → l2[j]? = some y) : eqB l l2 = true := by
  refine eqB_yes (List.ext_getElem? fun j => ?_)
  by_cases hj : j < l.length
  · have e : l[j]? = some l[j] := List.getElem?_eq_getElem hj
    rw [e]; exact (h j _ (by omega) e).symm
  · rw [List.getElem?_eq_none (by omega),List.getElem?_eq_none (by omega)]
theorem same_len {l l2 : List α} (hl : ¬ (l.length : Int) = l2.length) : eqB l l2 = false := eqB_no (fun e => hl (by rw [e]))
theorem same_no {l l2 : List α} {i : Nat} {x y : α} (hx : l[i]? = some x) (hy : l2[i]? = some y) (hn : eqB x y = false) : eqB l l2 = false := eqB_no (fun e => by
  subst e; rw [hx] at hy; exact eqB_ne hn (Option.some.inj hy))
theorem same_step {l l2 : List α} {i : Nat} {x y : α} (h : ∀ (j : Nat) (y : α),j < i → l[j]? = some y → l2[j]? = some y) (hx : l[i]? = some x) (hy : l2[i]? = some y) (e : eqB x y = true) : ∀ (j : Nat) (y : α),j < i + 1 → l[j]? = some y → l2[j]? = some y := fun j z hj hz => by
  rcases Nat.lt_succ_iff_lt_or_eq.1 hj with hj | rfl
  · exact h j z hj hz
  · rw [hx] at hz; rw [hy,← eqB_eq e]; exact hz
end
theorem vl_same (x y : Vl) : eqB x y = decide (x.k = y.k ∧ x.n = y.n ∧ x.s = y.s) := eqB_of (by
  rw [decide_eq_true_eq]
  obtain ⟨a,b,c⟩ := x
  obtain ⟨a',b',c'⟩ := y
  simp)
theorem tm_same (x y : Tm) : eqB x y = decide (x.v = y.v ∧ x.l.k = y.l.k ∧ x.l.n = y.l.n ∧ x.l.s = y.l.s) := eqB_of (by
  rw [decide_eq_true_eq]
  obtain ⟨v,a,b,c⟩ := x
  obtain ⟨v',a',b',c'⟩ := y
  simp)
theorem ag_same (x y : Ag) : eqB x y = decide (x.k = y.k ∧ x.t.v = y.t.v ∧ x.t.l.k = y.t.l.k ∧ x.t.l.n = y.t.l.n ∧ x.t.l.s = y.t.l.s) := eqB_of (by
  rw [decide_eq_true_eq]
  obtain ⟨k,v,a,b,c⟩ := x
  obtain ⟨k',v',a',b',c'⟩ := y
  simp)
theorem fc_eqB (x y : Fc) : eqB x y = (decide (x.p = y.p) && eqB x.args y.args) := eqB_of (by
  simp only [Bool.and_eq_true,decide_eq_true_eq]
  obtain ⟨p,l⟩ := x
  obtain ⟨p',l'⟩ := y
  constructor
  · rintro ⟨h1,h2⟩; simp only at h1 h2; rw [h1,eqB_eq h2]
  · intro h; cases h; exact ⟨rfl,eqB_yes rfl⟩)
theorem at_eqB (x y : At) : eqB x y = (decide (x.p = y.p) && eqB x.args y.args) := eqB_of (by
  simp only [Bool.and_eq_true,decide_eq_true_eq]
  obtain ⟨p,l⟩ := x
  obtain ⟨p',l'⟩ := y
  constructor
  · rintro ⟨h1,h2⟩; simp only at h1 h2; rw [h1,eqB_eq h2]
  · intro h; cases h; exact ⟨rfl,eqB_yes rfl⟩)
theorem ru_eqB (x y : Ru) : eqB x y = (decide (x.p = y.p) && eqB x.head y.head && eqB x.body y.body) := eqB_of (by
  simp only [Bool.and_eq_true,decide_eq_true_eq]
  obtain ⟨p,l,b⟩ := x
  obtain ⟨p',l',b'⟩ := y
  constructor
  · rintro ⟨⟨h1,h2⟩,h3⟩; simp only at h1 h2 h3; rw [h1,eqB_eq h2,eqB_eq h3]
  · intro h; cases h; exact ⟨⟨rfl,eqB_yes rfl⟩,eqB_yes rfl⟩)
theorem ex_eqB (x y : Ex) : eqB x y = (decide (x.op = y.op) && eqB x.t y.t && eqB x.kids y.kids) := eqB_of (by
  simp only [Bool.and_eq_true,decide_eq_true_eq]
  obtain ⟨p,l,b⟩ := x
  obtain ⟨p',l',b'⟩ := y
  constructor
  · rintro ⟨⟨h1,h2⟩,h3⟩; simp only [Ex.op,Ex.t,Ex.kids] at h1 h2 h3; rw [h1,eqB_eq h2,eqB_eq h3]
  · intro h; cases h; exact ⟨⟨rfl,eqB_yes rfl⟩,eqB_yes rfl⟩)
theorem lt_eqB (x y : Lt) : eqB x y = (decide (x.k = y.k) && decide (x.r = y.r) && eqB x.a y.a && eqB x.e1 y.e1 && eqB x.e2 y.e2) := eqB_of (by
  simp only [Bool.and_eq_true,decide_eq_true_eq]
  obtain ⟨k,a,r,b,c⟩ := x
  obtain ⟨k',a',r',b',c'⟩ := y
  constructor
  · rintro ⟨⟨⟨⟨h1,h2⟩,h3⟩,h4⟩,h5⟩; simp only at h1 h2 h3 h4 h5; rw [h1,h2,eqB_eq h3,eqB_eq h4,eqB_eq h5]
  · intro h; cases h; exact ⟨⟨⟨⟨rfl,rfl⟩,eqB_yes rfl⟩,eqB_yes rfl⟩,eqB_yes rfl⟩)
theorem toL_inj (a b : ByteArray) : (a.toList = b.toList) = (a = b) := by
  apply propext
  simp only [ByteArray.toList_eq]
  constructor
  · intro h; exact Go.WideShapes.bytes_inj h
  · rintro rfl; rfl
end Go.Wk

set_option linter.unusedVariables false
set_option linter.unusedSimpArgs false
namespace Go.Wk
open Go Go.RowKit Go.Lib
section
variable {P : Program} {Q : Exit → Act → World → Prop} {n : Nat} {env : Nat → Value} {ds : List Deferred} {w : World}
/-! ### a region of which only one answer is kept -/
def CutQ (n : Nat) (env : Nat → Value) (ds : List Deferred) (w : World) (D : List Nat) (s : Nat) : Exit → Act → World → Prop := fun e a w' => e = .normal ∧ ∃ env',a = mkA n env' ds ∧ Ext w w' ∧ env' s = .bool false ∧ ∀ t,t ∉ D → env' t = env t
theorem c_cut {id : Nat} {l : List Oper} (D : List Nat) (s : Nat) (h : (Code.region id l.toArray false).wp P (CutQ n env ds w D s) (mkA n env ds) w)
    (k : ∀ env' w',Ext w w' → env' s = .bool false → (∀ t,t ∉ D → env' t = env t) → Q .normal (mkA n env' ds) w') : (Code.region id l.toArray false).wp P Q (mkA n env ds) w :=
  Code.wp_mono (fun e a w' hq => by obtain ⟨rfl,env',rfl,x,hs,hf⟩ := hq; exact k env' w' x hs hf) h
theorem upd_out {D : List Nat} {f : Nat → Value} {t d : Nat} {v : Value} (h : t ∉ D) (hd : d ∈ D) : upd f d v t = f t := upd_ne (fun e => h (e ▸ hd))
end
theorem m6 {f : Operand → Value} {v1 v2 v3 v4 v5 v6 : Value} {x1 x2 x3 x4 x5 x6 : Operand} (h1 : f x1 = v1) (h2 : f x2 = v2) (h3 : f x3 = v3) (h4 : f x4 = v4) (h5 : f x5 = v5) (h6 : f x6 = v6) : #[x1,x2,x3,x4,x5,x6].map f = #[v1,v2,v3,v4,v5,v6] := by simp [h1,h2,h3,h4,h5,h6]
theorem Row.twoU {w : World} {g t : Nat} {fz : Nat × Nat} {x y : Ru} {Ah Ab Bh Bb : Option Addr} {ch cb dh db : Nat} (h : w.heap[g]? = some (.cells (ruCs x Ah Ab ch cb ++ ruCs y Bh Bb dh db).toArray t fz))
    (hx : x.okc ch cb) (xh : Row RG 5 w Ah x.head) (xb : Row RL 16 w Ab x.body) (hy : y.okc dh db) (yh : Row RG 5 w Bh y.head) (yb : Row RL 16 w Bb y.body) : Row RU 3 w (some ⟨g,0,none⟩) [x,y] := by
  refine .inr ⟨g,0,rfl,fun j z hz => ?_⟩
  have hj : j < 2 := by have := (List.getElem?_eq_some_iff.1 hz).1; exact this
  have hj2 : j = 0 ∨ j = 1 := by omega
  rcases hj2 with rfl | rfl
  · have : z = x := by simpa using hz.symm
    subst this
    exact ⟨_,⟨Ah,Ab,ch,cb,rfl,hx,xh,xb⟩,blk_cells h 0 (cs := ruCs z Ah Ab ch cb) rfl⟩
  · have : z = y := by simpa using hz.symm
    subst this
    exact ⟨_,⟨Bh,Bb,dh,db,rfl,hy,yh,yb⟩,blk_cells h 3 (cs := ruCs z Bh Bb dh db) rfl⟩
theorem ru_cmp {x y : Ru} (hx : ruB x = true) (hy : ruB y = true) : decide ((if ruB x then ruW x else ⟨#[]⟩) = (if ruB y then ruW y else ⟨#[]⟩)) = eqB x y := by
  rw [if_pos hx,if_pos hy]
  exact (eqB_of (by rw [decide_eq_true_eq]; exact ru_same hx hy)).symm
theorem fs_cmp {l m : List Fc} (hl : l.all mayB = true) (hm : m.all mayB = true) : decide ((if l.all mayB then fsT l else ⟨#[]⟩) = (if m.all mayB then fsT m else ⟨#[]⟩)) = eqB l m := by
  rw [if_pos hl,if_pos hm]
  exact (eqB_of (by rw [decide_eq_true_eq]; exact fs_same hl hm)).symm
theorem q_cmp {a b : At} (ha : atB a = true) (hb : atB b = true) : decide ((if atB a then atW a ++ ⟨#[63]⟩ else ⟨#[]⟩) = (if atB b then atW b ++ ⟨#[63]⟩ else ⟨#[]⟩)) = eqB a b := by
  rw [if_pos ha,if_pos hb]
  exact (eqB_of (by rw [decide_eq_true_eq]; exact q_same ha hb)).symm
section
variable {α : Type}
theorem fc_yes {x y : Fc} (h : x.p = y.p) : eqB x.args y.args = eqB x y := by rw [fc_eqB,decide_eq_true h,Bool.true_and]
theorem fc_no {x y : Fc} (h : ¬ x.p = y.p) : false = eqB x y := by rw [fc_eqB,decide_eq_false h,Bool.false_and]
theorem at_yes {x y : At} (h : x.p = y.p) : eqB x.args y.args = eqB x y := by rw [at_eqB,decide_eq_true h,Bool.true_and]
theorem at_no {x y : At} (h : ¬ x.p = y.p) : false = eqB x y := by rw [at_eqB,decide_eq_false h,Bool.false_and]
theorem ru_yes {x y : Ru} (h : x.p = y.p) (h2 : eqB x.head y.head = true) : eqB x.body y.body = eqB x y := by rw [ru_eqB,decide_eq_true h,h2]; rfl
theorem ru_no1 {x y : Ru} (h : ¬ x.p = y.p) : false = eqB x y := by rw [ru_eqB,decide_eq_false h]; rfl
theorem ru_no2 {x y : Ru} (h : x.p = y.p) (h2 : eqB x.head y.head = false) : false = eqB x y := by rw [ru_eqB,decide_eq_true h,h2]; rfl
theorem ex_yes {x y : Ex} (h : x.op = y.op) (h2 : eqB x.t y.t = true) : eqB x.kids y.kids = eqB x y := by rw [ex_eqB,decide_eq_true h,h2]; rfl
theorem ex_no1 {x y : Ex} (h : ¬ x.op = y.op) : false = eqB x y := by rw [ex_eqB,decide_eq_false h]; rfl
theorem ex_no2 {x y : Ex} (h : x.op = y.op) (h2 : eqB x.t y.t = false) : false = eqB x y := by rw [ex_eqB,decide_eq_true h,h2]; rfl
theorem lt_yes {x y : Lt} (h : x.k = y.k) (h2 : x.r = y.r) (h3 : eqB x.a y.a = true) (h4 : eqB x.e1 y.e1 = true) : eqB x.e2 y.e2 = eqB x y := by rw [lt_eqB,decide_eq_true h,decide_eq_true h2,h3,h4]; rfl
theorem lt_no1 {x y : Lt} (h : ¬ x.k = y.k) : false = eqB x y := by rw [lt_eqB,decide_eq_false h]; rfl
theorem lt_no2 {x y : Lt} (h : x.k = y.k) (h2 : ¬ x.r = y.r) : false = eqB x y := by rw [lt_eqB,decide_eq_true h,decide_eq_false h2]; rfl
theorem lt_no3 {x y : Lt} (h : x.k = y.k) (h2 : x.r = y.r) (h3 : eqB x.a y.a = false) : false = eqB x y := by rw [lt_eqB,decide_eq_true h,decide_eq_true h2,h3]; rfl
theorem lt_no4 {x y : Lt} (h : x.k = y.k) (h2 : x.r = y.r) (h3 : eqB x.a y.a = true) (h4 : eqB x.e1 y.e1 = false) : false = eqB x y := by rw [lt_eqB,decide_eq_true h,decide_eq_true h2,h3,h4]; rfl
end
end Go.Wk

set_option linter.unusedVariables false
set_option linter.unusedSimpArgs false
set_option maxRecDepth 10000
namespace Go.Proofs.Dw
open Go Go.Wk Go.Proofs Go.Lib
attribute [local irreducible] Go.wpList Go.wpStill Go.wpQuiet Go.Code.wp Go.Calls
theorem F_e109 : enterable Tryd.prog 109 = true := by kernel_rfl
theorem F_e120 : enterable Tryd.prog 120 = true := by kernel_rfl
theorem F_e31 : enterable Tryd.prog 31 = true := by kernel_rfl
theorem F_e58 : enterable Tryd.prog 58 = true := by kernel_rfl
theorem F_e59 : enterable Tryd.prog 59 = true := by kernel_rfl
theorem F_e60 : enterable Tryd.prog 60 = true := by kernel_rfl
theorem F_e61 : enterable Tryd.prog 61 = true := by kernel_rfl
theorem F_e87 : enterable Tryd.prog 87 = true := by kernel_rfl
theorem F_e88 : enterable Tryd.prog 88 = true := by kernel_rfl
theorem eqqeql28 (x y : Tm) (a b : Operand) (w : World) : (do eqGuard .eql 28 a b (.agg #[.string x.v,.int .i8 x.l.k,.int .i64 x.l.n,.string x.l.s]) (.agg #[.string y.v,.int .i8 y.l.k,.int .i64 y.l.n,.string y.l.s]); binOp .eql 28 (.agg #[.string x.v,.int .i8 x.l.k,.int .i64 x.l.n,.string x.l.s]) (.agg #[.string y.v,.int .i8 y.l.k,.int .i64 y.l.n,.string y.l.s]) : Sem Value).run Tryd.prog w = .ok (.bool (eqB x y)) w := by
  have hu := Tryd.underlying28
  rw [tm_same]
  by_cases h0 : x.v = y.v <;> by_cases h1 : x.l.k = y.l.k <;> by_cases h2 : x.l.n = y.l.n <;> by_cases h3 : x.l.s = y.l.s <;> simp only [h0,h1,h2,h3] <;> go_simp <;> (try simp [toL_inj, *])
theorem eqqneq26 (x y : Vl) (a b : Operand) (w : World) : (do eqGuard .neq 26 a b (.agg #[.int .i8 x.k,.int .i64 x.n,.string x.s]) (.agg #[.int .i8 y.k,.int .i64 y.n,.string y.s]); binOp .neq 26 (.agg #[.int .i8 x.k,.int .i64 x.n,.string x.s]) (.agg #[.int .i8 y.k,.int .i64 y.n,.string y.s]) : Sem Value).run Tryd.prog w = .ok (.bool (!eqB x y)) w := by
  have hu := Tryd.underlying26
  rw [vl_same]
  by_cases h0 : x.k = y.k <;> by_cases h1 : x.n = y.n <;> by_cases h2 : x.s = y.s <;> simp only [h0,h1,h2] <;> go_simp <;> (try simp [toL_inj, *])
theorem eqqneq28 (x y : Tm) (a b : Operand) (w : World) : (do eqGuard .neq 28 a b (.agg #[.string x.v,.int .i8 x.l.k,.int .i64 x.l.n,.string x.l.s]) (.agg #[.string y.v,.int .i8 y.l.k,.int .i64 y.l.n,.string y.l.s]); binOp .neq 28 (.agg #[.string x.v,.int .i8 x.l.k,.int .i64 x.l.n,.string x.l.s]) (.agg #[.string y.v,.int .i8 y.l.k,.int .i64 y.l.n,.string y.l.s]) : Sem Value).run Tryd.prog w = .ok (.bool (!eqB x y)) w := by
  have hu := Tryd.underlying28
  rw [tm_same]
  by_cases h0 : x.v = y.v <;> by_cases h1 : x.l.k = y.l.k <;> by_cases h2 : x.l.n = y.l.n <;> by_cases h3 : x.l.s = y.l.s <;> simp only [h0,h1,h2,h3] <;> go_simp <;> (try simp [toL_inj, *])
theorem eqqneq64 (x y : Ag) (a b : Operand) (w : World) : (do eqGuard .neq 64 a b (.agg #[.int .i8 x.k,.string x.t.v,.int .i8 x.t.l.k,.int .i64 x.t.l.n,.string x.t.l.s]) (.agg #[.int .i8 y.k,.string y.t.v,.int .i8 y.t.l.k,.int .i64 y.t.l.n,.string y.t.l.s]); binOp .neq 64 (.agg #[.int .i8 x.k,.string x.t.v,.int .i8 x.t.l.k,.int .i64 x.t.l.n,.string x.t.l.s]) (.agg #[.int .i8 y.k,.string y.t.v,.int .i8 y.t.l.k,.int .i64 y.t.l.n,.string y.t.l.s]) : Sem Value).run Tryd.prog w = .ok (.bool (!eqB x y)) w := by
  have hu := Tryd.underlying64
  rw [ag_same]
  by_cases h0 : x.k = y.k <;> by_cases h1 : x.t.v = y.t.v <;> by_cases h2 : x.t.l.k = y.t.l.k <;> by_cases h3 : x.t.l.n = y.t.l.n <;> by_cases h4 : x.t.l.s = y.t.l.s <;> simp only [h0,h1,h2,h3,h4] <;> go_simp <;> (try simp [toL_inj, *])
theorem m_SameValues (l l2 : List Vl) (A A2 : Option Addr) (c c2 : Nat) (w : World) (hl : l.length * 8 ≤ 140737488351232) (hl2 : l2.length * 8 ≤ 140737488351232) (hr : Row RV 3 w A l) (hr2 : Row RV 3 w A2 l2) :
    Rt Tryd.prog 88 #[.slice A l.length c,.slice A2 l2.length c2] w fun v w' => v = .bool (eqB l l2) ∧ Ext w w' := by
  refine enter Tryd.func88 rfl (l := [.slice A l.length c,.slice A2 l2.length c2]) rfl Tryd.ntmps88 (Nat.le_of_ble_eq_true rfl) ?_
  refine c_seq (c_reg (s_assign (v := .bool false) ev_c (w0 rfl) (c_done (n_then (c_seq (c_seq (c_reg (s_move (v := .slice A l.length c) (ej rfl rfl) (w0 rfl) (s_lenL F_l59 (ej rfl rfl) (w0 rfl) (s_move (v := .slice A2 l2.length c2) (ej rfl rfl) (w0 rfl) (s_lenL F_l59 (ej rfl rfl) (w0 rfl) ?_)))))))))))
  refine s_cmp (r := !decide ((l.length : Int) = (l2.length : Int))) (ej rfl rfl) (ej rfl rfl) rfl (w0 rfl) (c_done (n_then ?_))
  by_cases h1 : (l.length : Int) = (l2.length : Int)
  · refine c_cond0 (vb (ej rfl rfl) (nb0 h1)) (c_skip (n_then (c_seq (c_seq (c_reg (s_assign (v := .int .i64 0) ev_c (w0 rfl) (c_done (n_then (c_block ?_)))))))))
    refine c_loop (α := Nat) (fun (i : Nat) env_ w_ => Ext w w_ ∧ i ≤ l.length ∧ (∀ (j : Nat) (y : Vl),j < i → l[j]? = some y → l2[j]? = some y) ∧ env_ 0 = .slice A l.length c ∧ env_ 1 = .slice A2 l2.length c2 ∧ env_ 5 = .int .i64 ((i : Nat) : Int)) (fun i => l.length - i) (0) ⟨Ext.refl _,Nat.zero_le _,(fun j y h => absurd h (Nat.not_lt_zero j)),rfl,rfl,rfl⟩ ?_
    rintro i env4 w2 ⟨x3,i5,i6,e7,e8,e9⟩
    refine c_seq (c_seq (c_reg (s_move (v := .int .i64 ((i : Nat) : Int)) (ej rfl e9) (w0 rfl) (s_move (v := .slice A l.length c) (ej rfl e7) (w0 rfl) (s_lenL F_l59 (ej rfl rfl) (w0 rfl) (s_cmp (r := decide (((i : Nat) : Int) < (l.length : Int))) (ej rfl rfl) (ej rfl rfl) rfl (w0 rfl) (c_done (n_then ?_))))))))
    by_cases h10 : ((i : Nat) : Int) < (l.length : Int)
    · refine c_cond1 (vb (ej rfl rfl) (decide_eq_true h10)) (c_skip (n_then (c_seq (c_block (c_seq (c_quiet mixed (by kernel_rfl) (q_val (v := .slice A l.length c) (w0 rfl) (fun w_ c_ => r_move (v := .slice A l.length c) (ej rfl e7)) (q_val (v := .int .i64 ((i : Nat) : Int)) (w0 rfl) (fun w_ c_ => r_move (v := .int .i64 ((i : Nat) : Int)) (ej rfl e9)) ?_))))))))
      obtain ⟨b11,o12,x13,csx13,hA14,hx15,hR16,hc17⟩ := Row.at_ hr i (by omega)
      obtain rfl := vlAt_of hx15
      obtain ⟨rfl,wf18⟩ := hR16
      refine q_val (v := .pointer (some ⟨b11,o12 + i * 3,none⟩)) (w0 rfl) (fun w_ c_ => r_indexR (j := i) F_l59 (ej rfl rfl) hA14 (ej rfl rfl) rfl (by omega)) (q_val (v := .agg #[.int .i8 ((vlAt l i).k),.int .i64 ((vlAt l i).n),.string ((vlAt l i).s)]) (w0 rfl) (fun w_ c_ => r_loadL (cs := [.int .i8 ((vlAt l i).k),.int .i64 ((vlAt l i).n),.string ((vlAt l i).s)]) F_m26 (ej rfl rfl) rfl rfl (sub_cells (cells_ext c_ (cells_ext x3 hc17)) 0 rfl)) (q_val (v := .slice A2 l2.length c2) (w0 rfl) (fun w_ c_ => r_move (v := .slice A2 l2.length c2) (ej rfl e8)) (q_val (v := .int .i64 ((i : Nat) : Int)) (w0 rfl) (fun w_ c_ => r_move (v := .int .i64 ((i : Nat) : Int)) (ej rfl e9)) ?_)))
      obtain ⟨b19,o20,x21,csx21,hA22,hx23,hR24,hc25⟩ := Row.at_ hr2 i (by omega)
      obtain rfl := vlAt_of hx23
      obtain ⟨rfl,wf26⟩ := hR24
      refine q_val (v := .pointer (some ⟨b19,o20 + i * 3,none⟩)) (w0 rfl) (fun w_ c_ => r_indexR (j := i) F_l59 (ej rfl rfl) hA22 (ej rfl rfl) rfl (by omega)) (q_val (v := .agg #[.int .i8 ((vlAt l2 i).k),.int .i64 ((vlAt l2 i).n),.string ((vlAt l2 i).s)]) (w0 rfl) (fun w_ c_ => r_loadL (cs := [.int .i8 ((vlAt l2 i).k),.int .i64 ((vlAt l2 i).n),.string ((vlAt l2 i).s)]) F_m26 (ej rfl rfl) rfl rfl (sub_cells (cells_ext c_ (cells_ext x3 hc25)) 0 rfl)) (q_val (v := .bool (!(eqB (vlAt l i) (vlAt l2 i)))) (w0 rfl) (fun w_ c_ => r_cmpG (r := !(eqB (vlAt l i) (vlAt l2 i))) (ej rfl rfl) (ej rfl rfl) ((fun w_ => eqqneq26 (vlAt l i) (vlAt l2 i) _ _ w_))) (q_done ?_)))
      intro w27 x28
      refine n_then ?_
      rcases Bool.eq_false_or_eq_true (eqB (vlAt l i) (vlAt l2 i)) with h29 | h29
      · refine c_cond0 (vb (ej rfl rfl) (nbt h29)) (c_skip (n_block (n_then (c_reg (s_move (v := .int .i64 ((i : Nat) : Int)) (ej rfl e9) (w0 rfl) (s_add (r := ((i + 1 : Nat) : Int)) (ej rfl rfl) ev_c (by omega) (by omega) (w0 rfl) (s_assign (v := .int .i64 ((i + 1 : Nat) : Int)) (ej rfl rfl) (w0 rfl) (c_done ?_))))))))
        exact ⟨(i + 1),_,rfl,⟨(Ext.trans x3 x28),by omega,(same_step i6 (vlAt_there (by omega)) (vlAt_there (by omega)) (by assumption)),e7,e8,rfl⟩,(show l.length - (i + 1) < l.length - i by omega)⟩
      refine c_cond1 (vb (ej rfl rfl) (nbf h29)) (c_seq (c_reg (s_assign (v := .bool false) ev_c (w0 rfl) (c_done (n_then (c_ret (r_block (r_then (r_then (r_block (r_then ?_)))))))))))
      refine ret1 (v := .bool false) rfl rfl rfl ?_
      refine ⟨_,rfl,?_,(Ext.trans x3 x28)⟩
      (first | exact congrArg Value.bool (same_len (by assumption)).symm | exact congrArg Value.bool (same_no (i := i) (vlAt_there (by omega)) (vlAt_there (by omega)) (by assumption)).symm)
    refine c_cond0 (vb (ej rfl rfl) (decide_eq_false h10)) (c_exit (e_then (e_then (e_hit (n_then (c_seq (c_reg (s_assign (v := .bool true) ev_c (w0 rfl) (c_done (n_then (c_ret ?_)))))))))))
    refine ret1 (v := .bool true) rfl rfl rfl ?_
    refine ⟨_,rfl,?_,x3⟩
    (exact congrArg Value.bool (same_all (by assumption) (by omega) i6).symm)
  refine c_cond1 (vb (ej rfl rfl) (nb1 h1)) (c_seq (c_reg (s_assign (v := .bool false) ev_c (w0 rfl) (c_done (n_then (c_ret (r_then (ret1 (v := .bool false) rfl rfl rfl ?_))))))))
  refine ⟨_,rfl,?_,(Ext.refl w)⟩
  (first | exact congrArg Value.bool (same_len (by assumption)).symm | exact congrArg Value.bool (same_no (i := i) (vlAt_there (by omega)) (vlAt_there (by omega)) (by assumption)).symm)
theorem m_SameTerms (l l2 : List Tm) (A A2 : Option Addr) (c c2 : Nat) (w : World) (hl : l.length * 8 ≤ 140737488351232) (hl2 : l2.length * 8 ≤ 140737488351232) (hr : Row RT 4 w A l) (hr2 : Row RT 4 w A2 l2) :
    Rt Tryd.prog 61 #[.slice A l.length c,.slice A2 l2.length c2] w fun v w' => v = .bool (eqB l l2) ∧ Ext w w' := by
  refine enter Tryd.func61 rfl (l := [.slice A l.length c,.slice A2 l2.length c2]) rfl Tryd.ntmps61 (Nat.le_of_ble_eq_true rfl) ?_
  refine c_seq (c_reg (s_assign (v := .bool false) ev_c (w0 rfl) (c_done (n_then (c_seq (c_seq (c_reg (s_move (v := .slice A l.length c) (ej rfl rfl) (w0 rfl) (s_lenL F_l44 (ej rfl rfl) (w0 rfl) (s_move (v := .slice A2 l2.length c2) (ej rfl rfl) (w0 rfl) (s_lenL F_l44 (ej rfl rfl) (w0 rfl) ?_)))))))))))
  refine s_cmp (r := !decide ((l.length : Int) = (l2.length : Int))) (ej rfl rfl) (ej rfl rfl) rfl (w0 rfl) (c_done (n_then ?_))
  by_cases h1 : (l.length : Int) = (l2.length : Int)
  · refine c_cond0 (vb (ej rfl rfl) (nb0 h1)) (c_skip (n_then (c_seq (c_seq (c_reg (s_assign (v := .int .i64 0) ev_c (w0 rfl) (c_done (n_then (c_block ?_)))))))))
    refine c_loop (α := Nat) (fun (i : Nat) env_ w_ => Ext w w_ ∧ i ≤ l.length ∧ (∀ (j : Nat) (y : Tm),j < i → l[j]? = some y → l2[j]? = some y) ∧ env_ 0 = .slice A l.length c ∧ env_ 1 = .slice A2 l2.length c2 ∧ env_ 5 = .int .i64 ((i : Nat) : Int)) (fun i => l.length - i) (0) ⟨Ext.refl _,Nat.zero_le _,(fun j y h => absurd h (Nat.not_lt_zero j)),rfl,rfl,rfl⟩ ?_
    rintro i env4 w2 ⟨x3,i5,i6,e7,e8,e9⟩
    refine c_seq (c_seq (c_reg (s_move (v := .int .i64 ((i : Nat) : Int)) (ej rfl e9) (w0 rfl) (s_move (v := .slice A l.length c) (ej rfl e7) (w0 rfl) (s_lenL F_l44 (ej rfl rfl) (w0 rfl) (s_cmp (r := decide (((i : Nat) : Int) < (l.length : Int))) (ej rfl rfl) (ej rfl rfl) rfl (w0 rfl) (c_done (n_then ?_))))))))
    by_cases h10 : ((i : Nat) : Int) < (l.length : Int)
    · refine c_cond1 (vb (ej rfl rfl) (decide_eq_true h10)) (c_skip (n_then (c_seq (c_block (c_seq (c_quiet mixed (by kernel_rfl) (q_val (v := .slice A l.length c) (w0 rfl) (fun w_ c_ => r_move (v := .slice A l.length c) (ej rfl e7)) (q_val (v := .int .i64 ((i : Nat) : Int)) (w0 rfl) (fun w_ c_ => r_move (v := .int .i64 ((i : Nat) : Int)) (ej rfl e9)) ?_))))))))
      obtain ⟨b11,o12,x13,csx13,hA14,hx15,hR16,hc17⟩ := Row.at_ hr i (by omega)
      obtain rfl := tmAt_of hx15
      obtain ⟨rfl,wf18⟩ := hR16
      refine q_val (v := .pointer (some ⟨b11,o12 + i * 4,none⟩)) (w0 rfl) (fun w_ c_ => r_indexR (j := i) F_l44 (ej rfl rfl) hA14 (ej rfl rfl) rfl (by omega)) (q_val (v := .agg #[.string ((tmAt l i).v),.int .i8 ((tmAt l i).l.k),.int .i64 ((tmAt l i).l.n),.string ((tmAt l i).l.s)]) (w0 rfl) (fun w_ c_ => r_loadL (cs := [.string ((tmAt l i).v),.int .i8 ((tmAt l i).l.k),.int .i64 ((tmAt l i).l.n),.string ((tmAt l i).l.s)]) F_m28 (ej rfl rfl) rfl rfl (sub_cells (cells_ext c_ (cells_ext x3 hc17)) 0 rfl)) (q_val (v := .slice A2 l2.length c2) (w0 rfl) (fun w_ c_ => r_move (v := .slice A2 l2.length c2) (ej rfl e8)) (q_val (v := .int .i64 ((i : Nat) : Int)) (w0 rfl) (fun w_ c_ => r_move (v := .int .i64 ((i : Nat) : Int)) (ej rfl e9)) ?_)))
      obtain ⟨b19,o20,x21,csx21,hA22,hx23,hR24,hc25⟩ := Row.at_ hr2 i (by omega)
      obtain rfl := tmAt_of hx23
      obtain ⟨rfl,wf26⟩ := hR24
      refine q_val (v := .pointer (some ⟨b19,o20 + i * 4,none⟩)) (w0 rfl) (fun w_ c_ => r_indexR (j := i) F_l44 (ej rfl rfl) hA22 (ej rfl rfl) rfl (by omega)) (q_val (v := .agg #[.string ((tmAt l2 i).v),.int .i8 ((tmAt l2 i).l.k),.int .i64 ((tmAt l2 i).l.n),.string ((tmAt l2 i).l.s)]) (w0 rfl) (fun w_ c_ => r_loadL (cs := [.string ((tmAt l2 i).v),.int .i8 ((tmAt l2 i).l.k),.int .i64 ((tmAt l2 i).l.n),.string ((tmAt l2 i).l.s)]) F_m28 (ej rfl rfl) rfl rfl (sub_cells (cells_ext c_ (cells_ext x3 hc25)) 0 rfl)) (q_val (v := .bool (!(eqB (tmAt l i) (tmAt l2 i)))) (w0 rfl) (fun w_ c_ => r_cmpG (r := !(eqB (tmAt l i) (tmAt l2 i))) (ej rfl rfl) (ej rfl rfl) ((fun w_ => eqqneq28 (tmAt l i) (tmAt l2 i) _ _ w_))) (q_done ?_)))
      intro w27 x28
      refine n_then ?_
      rcases Bool.eq_false_or_eq_true (eqB (tmAt l i) (tmAt l2 i)) with h29 | h29
      · refine c_cond0 (vb (ej rfl rfl) (nbt h29)) (c_skip (n_block (n_then (c_reg (s_move (v := .int .i64 ((i : Nat) : Int)) (ej rfl e9) (w0 rfl) (s_add (r := ((i + 1 : Nat) : Int)) (ej rfl rfl) ev_c (by omega) (by omega) (w0 rfl) (s_assign (v := .int .i64 ((i + 1 : Nat) : Int)) (ej rfl rfl) (w0 rfl) (c_done ?_))))))))
        exact ⟨(i + 1),_,rfl,⟨(Ext.trans x3 x28),by omega,(same_step i6 (tmAt_there (by omega)) (tmAt_there (by omega)) (by assumption)),e7,e8,rfl⟩,(show l.length - (i + 1) < l.length - i by omega)⟩
      refine c_cond1 (vb (ej rfl rfl) (nbf h29)) (c_seq (c_reg (s_assign (v := .bool false) ev_c (w0 rfl) (c_done (n_then (c_ret (r_block (r_then (r_then (r_block (r_then ?_)))))))))))
      refine ret1 (v := .bool false) rfl rfl rfl ?_
      refine ⟨_,rfl,?_,(Ext.trans x3 x28)⟩
      (first | exact congrArg Value.bool (same_len (by assumption)).symm | exact congrArg Value.bool (same_no (i := i) (tmAt_there (by omega)) (tmAt_there (by omega)) (by assumption)).symm)
    refine c_cond0 (vb (ej rfl rfl) (decide_eq_false h10)) (c_exit (e_then (e_then (e_hit (n_then (c_seq (c_reg (s_assign (v := .bool true) ev_c (w0 rfl) (c_done (n_then (c_ret ?_)))))))))))
    refine ret1 (v := .bool true) rfl rfl rfl ?_
    refine ⟨_,rfl,?_,x3⟩
    (exact congrArg Value.bool (same_all (by assumption) (by omega) i6).symm)
  refine c_cond1 (vb (ej rfl rfl) (nb1 h1)) (c_seq (c_reg (s_assign (v := .bool false) ev_c (w0 rfl) (c_done (n_then (c_ret (r_then (ret1 (v := .bool false) rfl rfl rfl ?_))))))))
  refine ⟨_,rfl,?_,(Ext.refl w)⟩
  (first | exact congrArg Value.bool (same_len (by assumption)).symm | exact congrArg Value.bool (same_no (i := i) (tmAt_there (by omega)) (tmAt_there (by omega)) (by assumption)).symm)
theorem m_SameArgs (l l2 : List Ag) (A A2 : Option Addr) (c c2 : Nat) (w : World) (hl : l.length * 8 ≤ 140737488351232) (hl2 : l2.length * 8 ≤ 140737488351232) (hr : Row RG 5 w A l) (hr2 : Row RG 5 w A2 l2) :
    Rt Tryd.prog 58 #[.slice A l.length c,.slice A2 l2.length c2] w fun v w' => v = .bool (eqB l l2) ∧ Ext w w' := by
  refine enter Tryd.func58 rfl (l := [.slice A l.length c,.slice A2 l2.length c2]) rfl Tryd.ntmps58 (Nat.le_of_ble_eq_true rfl) ?_
  refine c_seq (c_reg (s_assign (v := .bool false) ev_c (w0 rfl) (c_done (n_then (c_seq (c_seq (c_reg (s_move (v := .slice A l.length c) (ej rfl rfl) (w0 rfl) (s_lenL F_l39 (ej rfl rfl) (w0 rfl) (s_move (v := .slice A2 l2.length c2) (ej rfl rfl) (w0 rfl) (s_lenL F_l39 (ej rfl rfl) (w0 rfl) ?_)))))))))))
  refine s_cmp (r := !decide ((l.length : Int) = (l2.length : Int))) (ej rfl rfl) (ej rfl rfl) rfl (w0 rfl) (c_done (n_then ?_))
  by_cases h1 : (l.length : Int) = (l2.length : Int)
  · refine c_cond0 (vb (ej rfl rfl) (nb0 h1)) (c_skip (n_then (c_seq (c_seq (c_reg (s_assign (v := .int .i64 0) ev_c (w0 rfl) (c_done (n_then (c_block ?_)))))))))
    refine c_loop (α := Nat) (fun (i : Nat) env_ w_ => Ext w w_ ∧ i ≤ l.length ∧ (∀ (j : Nat) (y : Ag),j < i → l[j]? = some y → l2[j]? = some y) ∧ env_ 0 = .slice A l.length c ∧ env_ 1 = .slice A2 l2.length c2 ∧ env_ 5 = .int .i64 ((i : Nat) : Int)) (fun i => l.length - i) (0) ⟨Ext.refl _,Nat.zero_le _,(fun j y h => absurd h (Nat.not_lt_zero j)),rfl,rfl,rfl⟩ ?_
    rintro i env4 w2 ⟨x3,i5,i6,e7,e8,e9⟩
    refine c_seq (c_seq (c_reg (s_move (v := .int .i64 ((i : Nat) : Int)) (ej rfl e9) (w0 rfl) (s_move (v := .slice A l.length c) (ej rfl e7) (w0 rfl) (s_lenL F_l39 (ej rfl rfl) (w0 rfl) (s_cmp (r := decide (((i : Nat) : Int) < (l.length : Int))) (ej rfl rfl) (ej rfl rfl) rfl (w0 rfl) (c_done (n_then ?_))))))))
    by_cases h10 : ((i : Nat) : Int) < (l.length : Int)
    · refine c_cond1 (vb (ej rfl rfl) (decide_eq_true h10)) (c_skip (n_then (c_seq (c_block (c_seq (c_quiet mixed (by kernel_rfl) (q_val (v := .slice A l.length c) (w0 rfl) (fun w_ c_ => r_move (v := .slice A l.length c) (ej rfl e7)) (q_val (v := .int .i64 ((i : Nat) : Int)) (w0 rfl) (fun w_ c_ => r_move (v := .int .i64 ((i : Nat) : Int)) (ej rfl e9)) ?_))))))))
      obtain ⟨b11,o12,x13,csx13,hA14,hx15,hR16,hc17⟩ := Row.at_ hr i (by omega)
      obtain rfl := agAt_of hx15
      obtain ⟨rfl,wf18⟩ := hR16
      refine q_val (v := .pointer (some ⟨b11,o12 + i * 5,none⟩)) (w0 rfl) (fun w_ c_ => r_indexR (j := i) F_l39 (ej rfl rfl) hA14 (ej rfl rfl) rfl (by omega)) (q_val (v := .agg #[.int .i8 ((agAt l i).k),.string ((agAt l i).t.v),.int .i8 ((agAt l i).t.l.k),.int .i64 ((agAt l i).t.l.n),.string ((agAt l i).t.l.s)]) (w0 rfl) (fun w_ c_ => r_loadL (cs := [.int .i8 ((agAt l i).k),.string ((agAt l i).t.v),.int .i8 ((agAt l i).t.l.k),.int .i64 ((agAt l i).t.l.n),.string ((agAt l i).t.l.s)]) F_m64 (ej rfl rfl) rfl rfl (sub_cells (cells_ext c_ (cells_ext x3 hc17)) 0 rfl)) (q_val (v := .slice A2 l2.length c2) (w0 rfl) (fun w_ c_ => r_move (v := .slice A2 l2.length c2) (ej rfl e8)) (q_val (v := .int .i64 ((i : Nat) : Int)) (w0 rfl) (fun w_ c_ => r_move (v := .int .i64 ((i : Nat) : Int)) (ej rfl e9)) ?_)))
      obtain ⟨b19,o20,x21,csx21,hA22,hx23,hR24,hc25⟩ := Row.at_ hr2 i (by omega)
      obtain rfl := agAt_of hx23
      obtain ⟨rfl,wf26⟩ := hR24
      refine q_val (v := .pointer (some ⟨b19,o20 + i * 5,none⟩)) (w0 rfl) (fun w_ c_ => r_indexR (j := i) F_l39 (ej rfl rfl) hA22 (ej rfl rfl) rfl (by omega)) (q_val (v := .agg #[.int .i8 ((agAt l2 i).k),.string ((agAt l2 i).t.v),.int .i8 ((agAt l2 i).t.l.k),.int .i64 ((agAt l2 i).t.l.n),.string ((agAt l2 i).t.l.s)]) (w0 rfl) (fun w_ c_ => r_loadL (cs := [.int .i8 ((agAt l2 i).k),.string ((agAt l2 i).t.v),.int .i8 ((agAt l2 i).t.l.k),.int .i64 ((agAt l2 i).t.l.n),.string ((agAt l2 i).t.l.s)]) F_m64 (ej rfl rfl) rfl rfl (sub_cells (cells_ext c_ (cells_ext x3 hc25)) 0 rfl)) (q_val (v := .bool (!(eqB (agAt l i) (agAt l2 i)))) (w0 rfl) (fun w_ c_ => r_cmpG (r := !(eqB (agAt l i) (agAt l2 i))) (ej rfl rfl) (ej rfl rfl) ((fun w_ => eqqneq64 (agAt l i) (agAt l2 i) _ _ w_))) (q_done ?_)))
      intro w27 x28
      refine n_then ?_
      rcases Bool.eq_false_or_eq_true (eqB (agAt l i) (agAt l2 i)) with h29 | h29
      · refine c_cond0 (vb (ej rfl rfl) (nbt h29)) (c_skip (n_block (n_then (c_reg (s_move (v := .int .i64 ((i : Nat) : Int)) (ej rfl e9) (w0 rfl) (s_add (r := ((i + 1 : Nat) : Int)) (ej rfl rfl) ev_c (by omega) (by omega) (w0 rfl) (s_assign (v := .int .i64 ((i + 1 : Nat) : Int)) (ej rfl rfl) (w0 rfl) (c_done ?_))))))))
        exact ⟨(i + 1),_,rfl,⟨(Ext.trans x3 x28),by omega,(same_step i6 (agAt_there (by omega)) (agAt_there (by omega)) (by assumption)),e7,e8,rfl⟩,(show l.length - (i + 1) < l.length - i by omega)⟩
      refine c_cond1 (vb (ej rfl rfl) (nbf h29)) (c_seq (c_reg (s_assign (v := .bool false) ev_c (w0 rfl) (c_done (n_then (c_ret (r_block (r_then (r_then (r_block (r_then ?_)))))))))))
      refine ret1 (v := .bool false) rfl rfl rfl ?_
      refine ⟨_,rfl,?_,(Ext.trans x3 x28)⟩
      (first | exact congrArg Value.bool (same_len (by assumption)).symm | exact congrArg Value.bool (same_no (i := i) (agAt_there (by omega)) (agAt_there (by omega)) (by assumption)).symm)
    refine c_cond0 (vb (ej rfl rfl) (decide_eq_false h10)) (c_exit (e_then (e_then (e_hit (n_then (c_seq (c_reg (s_assign (v := .bool true) ev_c (w0 rfl) (c_done (n_then (c_ret ?_)))))))))))
    refine ret1 (v := .bool true) rfl rfl rfl ?_
    refine ⟨_,rfl,?_,x3⟩
    (exact congrArg Value.bool (same_all (by assumption) (by omega) i6).symm)
  refine c_cond1 (vb (ej rfl rfl) (nb1 h1)) (c_seq (c_reg (s_assign (v := .bool false) ev_c (w0 rfl) (c_done (n_then (c_ret (r_then (ret1 (v := .bool false) rfl rfl rfl ?_))))))))
  refine ⟨_,rfl,?_,(Ext.refl w)⟩
  (first | exact congrArg Value.bool (same_len (by assumption)).symm | exact congrArg Value.bool (same_no (i := i) (agAt_there (by omega)) (agAt_there (by omega)) (by assumption)).symm)
theorem m_SameFact (x y : Fc) (A A2 : Option Addr) (c c2 : Nat) (w : World) (ho : x.okc c) (ho2 : y.okc c2) (hr : Row RV 3 w A x.args) (hr2 : Row RV 3 w A2 y.args) :
    Rt Tryd.prog 60 #[.agg #[.string x.p,.slice A x.args.length c],.agg #[.string y.p,.slice A2 y.args.length c2]] w fun v w' => v = .bool (eqB x y) ∧ Ext w w' := by
  refine enter Tryd.func60 rfl (l := [.agg #[.string x.p,.slice A x.args.length c],.agg #[.string y.p,.slice A2 y.args.length c2]]) rfl Tryd.ntmps60 (Nat.le_of_ble_eq_true rfl) ?_
  have hp_x := Fc.okc.p ho
  have hl_x := Fc.okc.l ho
  have hc_x := Fc.okc.c ho
  have hp_y := Fc.okc.p ho2
  have hl_y := Fc.okc.l ho2
  have hc_y := Fc.okc.c ho2
  refine c_seq (c_reg (s_box (v := .agg #[.string x.p,.slice A x.args.length c]) (cs := #[.string x.p,.slice A x.args.length c]) (w0 rfl) (ej rfl rfl) rfl ?_))
  intro w2 g1 n3
  refine s_box (v := .agg #[.string y.p,.slice A2 y.args.length c2]) (cs := #[.string y.p,.slice A2 y.args.length c2]) (w0 rfl) (ej rfl rfl) rfl ?_
  intro w5 g4 n6
  refine s_assign (v := .bool false) ev_c (w0 rfl) (c_done (n_then (c_seq (c_reg (s_field (off := 0) (o' := 0) F_f61_0 (ej rfl rfl) rfl (w0 rfl) (s_load (v := .string x.p) F_o9 (ej rfl rfl) (cell_of_blk (i := 0) (Ext.blk (NewB.ext n6) (NewB.blk n3)) rfl) (w0 rfl) (s_field (off := 0) (o' := 0) F_f61_0 (ej rfl rfl) rfl (w0 rfl) (s_load (v := .string y.p) F_o9 (ej rfl rfl) (cell_of_blk (i := 0) (NewB.blk n6) rfl) (w0 rfl) (s_cmpS (r := decide (x.p = y.p)) (ej rfl rfl) (ej rfl rfl) rfl (w0 rfl) ?_)))))))))
  by_cases h7 : x.p = y.p
  · refine s_move (v := .bool true) (vb (ej rfl rfl) (decide_eq_true h7)) (w0 rfl) (s_field (off := 1) (o' := 1) F_f61_1 (ej rfl rfl) rfl (wy rfl rfl rfl rfl) (s_load (v := .slice A x.args.length c) F_o59 (ej rfl rfl) (cell_of_blk (i := 1) (Ext.blk (NewB.ext n6) (NewB.blk n3)) rfl) (wy rfl rfl rfl rfl) (s_field (off := 1) (o' := 1) F_f61_1 (ej rfl rfl) rfl (wy rfl rfl rfl rfl) (s_load (v := .slice A2 y.args.length c2) F_o59 (ej rfl rfl) (cell_of_blk (i := 1) (NewB.blk n6) rfl) (wy rfl rfl rfl rfl) (s_call F_e88 (wy rfl rfl rfl rfl) ev_f (m2 (ej rfl rfl) (ej rfl rfl)) (args := #[.slice A x.args.length c,.slice A2 y.args.length c2]) rfl (m_SameValues x.args y.args A A2 c c2 _ (by omega) (by omega) (Row.extV (Row.extV hr (NewB.ext n3)) (NewB.ext n6)) (Row.extV (Row.extV hr2 (NewB.ext n3)) (NewB.ext n6))) ?_)))))
    rintro _ w9 ⟨rfl,x8⟩
    refine s_pick1 (v := .bool (eqB x.args y.args)) (ej rfl rfl) (ej rfl rfl) (w0 rfl) (s_assign (v := .bool (eqB x.args y.args)) (ej rfl rfl) (w0 rfl) (c_done (n_then (c_ret (ret1 (v := .bool (eqB x.args y.args)) rfl rfl rfl ?_)))))
    refine ⟨_,rfl,?_,(Ext.trans (Ext.trans (NewB.ext n3) (NewB.ext n6)) x8)⟩
    (first | exact congrArg Value.bool (fc_yes (by assumption)) | exact congrArg Value.bool (fc_no (by assumption)))
  refine s_move (v := .bool false) (vb (ej rfl rfl) (decide_eq_false h7)) (w0 rfl) (s_skip (wn rfl rfl rfl rfl rfl) (s_skip (wn rfl rfl rfl rfl rfl) (s_skip (wn rfl rfl rfl rfl rfl) (s_skip (wn rfl rfl rfl rfl rfl) (s_skip (wn rfl rfl rfl rfl rfl) (s_pick0 (v := .bool false) (ej rfl rfl) ev_c (w0 rfl) (s_assign (v := .bool false) (ej rfl rfl) (w0 rfl) (c_done (n_then (c_ret (ret1 (v := .bool false) rfl rfl rfl ?_)))))))))))
  refine ⟨_,rfl,?_,(Ext.trans (NewB.ext n3) (NewB.ext n6))⟩
  (first | exact congrArg Value.bool (fc_yes (by assumption)) | exact congrArg Value.bool (fc_no (by assumption)))
theorem m_SameFacts (l l2 : List Fc) (A A2 : Option Addr) (c c2 : Nat) (w : World) (hl : l.length * 40 ≤ 140737488351232) (hl2 : l2.length * 40 ≤ 140737488351232) (hr : Row RF 2 w A l) (hr2 : Row RF 2 w A2 l2) :
    Rt Tryd.prog 29 #[.slice A l.length c,.slice A2 l2.length c2] w fun v w' => v = .bool (eqB l l2) ∧ Ext w w' := by
  refine enter Tryd.func29 rfl (l := [.slice A l.length c,.slice A2 l2.length c2]) rfl Tryd.ntmps29 (Nat.le_of_ble_eq_true rfl) ?_
  refine c_seq (c_reg (s_assign (v := .bool false) ev_c (w0 rfl) (c_done (n_then (c_seq (c_seq (c_reg (s_move (v := .slice A l.length c) (ej rfl rfl) (w0 rfl) (s_lenL F_l43 (ej rfl rfl) (w0 rfl) (s_move (v := .slice A2 l2.length c2) (ej rfl rfl) (w0 rfl) (s_lenL F_l43 (ej rfl rfl) (w0 rfl) ?_)))))))))))
  refine s_cmp (r := !decide ((l.length : Int) = (l2.length : Int))) (ej rfl rfl) (ej rfl rfl) rfl (w0 rfl) (c_done (n_then ?_))
  by_cases h1 : (l.length : Int) = (l2.length : Int)
  · refine c_cond0 (vb (ej rfl rfl) (nb0 h1)) (c_skip (n_then (c_seq (c_seq (c_reg (s_assign (v := .int .i64 0) ev_c (w0 rfl) (c_done (n_then (c_block ?_)))))))))
    refine c_loop (α := Nat) (fun (i : Nat) env_ w_ => Ext w w_ ∧ i ≤ l.length ∧ (∀ (j : Nat) (y : Fc),j < i → l[j]? = some y → l2[j]? = some y) ∧ env_ 0 = .slice A l.length c ∧ env_ 1 = .slice A2 l2.length c2 ∧ env_ 5 = .int .i64 ((i : Nat) : Int)) (fun i => l.length - i) (0) ⟨Ext.refl _,Nat.zero_le _,(fun j y h => absurd h (Nat.not_lt_zero j)),rfl,rfl,rfl⟩ ?_
    rintro i env4 w2 ⟨x3,i5,i6,e7,e8,e9⟩
    refine c_seq (c_seq (c_reg (s_move (v := .int .i64 ((i : Nat) : Int)) (ej rfl e9) (w0 rfl) (s_move (v := .slice A l.length c) (ej rfl e7) (w0 rfl) (s_lenL F_l43 (ej rfl rfl) (w0 rfl) (s_cmp (r := decide (((i : Nat) : Int) < (l.length : Int))) (ej rfl rfl) (ej rfl rfl) rfl (w0 rfl) (c_done (n_then ?_))))))))
    by_cases h10 : ((i : Nat) : Int) < (l.length : Int)
    · refine c_cond1 (vb (ej rfl rfl) (decide_eq_true h10)) (c_skip (n_then (c_seq (c_block (c_seq (c_quiet mixed (by kernel_rfl) (q_val (v := .slice A l.length c) (w0 rfl) (fun w_ c_ => r_move (v := .slice A l.length c) (ej rfl e7)) (q_val (v := .int .i64 ((i : Nat) : Int)) (w0 rfl) (fun w_ c_ => r_move (v := .int .i64 ((i : Nat) : Int)) (ej rfl e9)) ?_))))))))
      obtain ⟨b11,o12,x13,csx13,hA14,hx15,hR16,hc17⟩ := Row.at_ hr i (by omega)
      obtain rfl := fcAt_of hx15
      obtain ⟨A18,c19,rfl,ho20,hr21⟩ := hR16
      have := Fc.okc.p ho20
      have := Fc.okc.l ho20
      have := Fc.okc.c ho20
      refine q_val (v := .pointer (some ⟨b11,o12 + i * 2,none⟩)) (w0 rfl) (fun w_ c_ => r_indexR (j := i) F_l43 (ej rfl rfl) hA14 (ej rfl rfl) rfl (by omega)) (q_val (v := .agg #[.string ((fcAt l i).p),.slice A18 ((fcAt l i).args.length) c19]) (w0 rfl) (fun w_ c_ => r_loadL (cs := [.string ((fcAt l i).p),.slice A18 ((fcAt l i).args.length) c19]) F_m61 (ej rfl rfl) rfl rfl (sub_cells (cells_ext c_ (cells_ext x3 hc17)) 0 rfl)) (q_val (v := .slice A2 l2.length c2) (w0 rfl) (fun w_ c_ => r_move (v := .slice A2 l2.length c2) (ej rfl e8)) (q_val (v := .int .i64 ((i : Nat) : Int)) (w0 rfl) (fun w_ c_ => r_move (v := .int .i64 ((i : Nat) : Int)) (ej rfl e9)) ?_)))
      obtain ⟨b22,o23,x24,csx24,hA25,hx26,hR27,hc28⟩ := Row.at_ hr2 i (by omega)
      obtain rfl := fcAt_of hx26
      obtain ⟨A29,c30,rfl,ho31,hr32⟩ := hR27
      have := Fc.okc.p ho31
      have := Fc.okc.l ho31
      have := Fc.okc.c ho31
      refine q_val (v := .pointer (some ⟨b22,o23 + i * 2,none⟩)) (w0 rfl) (fun w_ c_ => r_indexR (j := i) F_l43 (ej rfl rfl) hA25 (ej rfl rfl) rfl (by omega)) (q_val (v := .agg #[.string ((fcAt l2 i).p),.slice A29 ((fcAt l2 i).args.length) c30]) (w0 rfl) (fun w_ c_ => r_loadL (cs := [.string ((fcAt l2 i).p),.slice A29 ((fcAt l2 i).args.length) c30]) F_m61 (ej rfl rfl) rfl rfl (sub_cells (cells_ext c_ (cells_ext x3 hc28)) 0 rfl)) (q_call (v := .bool (eqB (fcAt l i) (fcAt l2 i))) F_e60 (w0 rfl) ev_f (m2 (ej rfl rfl) (ej rfl rfl)) (args := #[.agg #[.string ((fcAt l i).p),.slice A18 ((fcAt l i).args.length) c19],.agg #[.string ((fcAt l2 i).p),.slice A29 ((fcAt l2 i).args.length) c30]]) rfl (fun w_ c_ => Rt.mono (m_SameFact (fcAt l i) (fcAt l2 i) A18 A29 c19 c30 _ ho20 ho31 (Row.extV (Row.extV hr21 x3) c_) (Row.extV (Row.extV hr32 x3) c_)) (fun v_ w2_ h_ => ⟨h_.1,Ext.trans c_ h_.2⟩)) (q_val (v := .bool (!(eqB (fcAt l i) (fcAt l2 i)))) (w0 rfl) (fun w_ c_ => r_not (b := eqB (fcAt l i) (fcAt l2 i)) (ej rfl rfl)) (q_done ?_))))
      intro w33 x34
      refine n_then ?_
      rcases Bool.eq_false_or_eq_true (eqB (fcAt l i) (fcAt l2 i)) with h35 | h35
      · refine c_cond0 (vb (ej rfl rfl) (nbt h35)) (c_skip (n_block (n_then (c_reg (s_move (v := .int .i64 ((i : Nat) : Int)) (ej rfl e9) (w0 rfl) (s_add (r := ((i + 1 : Nat) : Int)) (ej rfl rfl) ev_c (by omega) (by omega) (w0 rfl) (s_assign (v := .int .i64 ((i + 1 : Nat) : Int)) (ej rfl rfl) (w0 rfl) (c_done ?_))))))))
        exact ⟨(i + 1),_,rfl,⟨(Ext.trans x3 x34),by omega,(same_step i6 (fcAt_there (by omega)) (fcAt_there (by omega)) (by assumption)),e7,e8,rfl⟩,(show l.length - (i + 1) < l.length - i by omega)⟩
      refine c_cond1 (vb (ej rfl rfl) (nbf h35)) (c_seq (c_reg (s_assign (v := .bool false) ev_c (w0 rfl) (c_done (n_then (c_ret (r_block (r_then (r_then (r_block (r_then ?_)))))))))))
      refine ret1 (v := .bool false) rfl rfl rfl ?_
      refine ⟨_,rfl,?_,(Ext.trans x3 x34)⟩
      (first | exact congrArg Value.bool (same_len (by assumption)).symm | exact congrArg Value.bool (same_no (i := i) (fcAt_there (by omega)) (fcAt_there (by omega)) (by assumption)).symm)
    refine c_cond0 (vb (ej rfl rfl) (decide_eq_false h10)) (c_exit (e_then (e_then (e_hit (n_then (c_seq (c_reg (s_assign (v := .bool true) ev_c (w0 rfl) (c_done (n_then (c_ret ?_)))))))))))
    refine ret1 (v := .bool true) rfl rfl rfl ?_
    refine ⟨_,rfl,?_,x3⟩
    (exact congrArg Value.bool (same_all (by assumption) (by omega) i6).symm)
  refine c_cond1 (vb (ej rfl rfl) (nb1 h1)) (c_seq (c_reg (s_assign (v := .bool false) ev_c (w0 rfl) (c_done (n_then (c_ret (r_then (ret1 (v := .bool false) rfl rfl rfl ?_))))))))
  refine ⟨_,rfl,?_,(Ext.refl w)⟩
  (first | exact congrArg Value.bool (same_len (by assumption)).symm | exact congrArg Value.bool (same_no (i := i) (fcAt_there (by omega)) (fcAt_there (by omega)) (by assumption)).symm)
theorem m_SameAtom (x y : At) (A A2 : Option Addr) (c c2 : Nat) (w : World) (ho : x.okc c) (ho2 : y.okc c2) (hr : Row RT 4 w A x.args) (hr2 : Row RT 4 w A2 y.args) :
    Rt Tryd.prog 31 #[.agg #[.string x.p,.slice A x.args.length c],.agg #[.string y.p,.slice A2 y.args.length c2]] w fun v w' => v = .bool (eqB x y) ∧ Ext w w' := by
  refine enter Tryd.func31 rfl (l := [.agg #[.string x.p,.slice A x.args.length c],.agg #[.string y.p,.slice A2 y.args.length c2]]) rfl Tryd.ntmps31 (Nat.le_of_ble_eq_true rfl) ?_
  have hp_x := At.okc.p ho
  have hl_x := At.okc.l ho
  have hc_x := At.okc.c ho
  have hp_y := At.okc.p ho2
  have hl_y := At.okc.l ho2
  have hc_y := At.okc.c ho2
  refine c_seq (c_reg (s_box (v := .agg #[.string x.p,.slice A x.args.length c]) (cs := #[.string x.p,.slice A x.args.length c]) (w0 rfl) (ej rfl rfl) rfl ?_))
  intro w2 g1 n3
  refine s_box (v := .agg #[.string y.p,.slice A2 y.args.length c2]) (cs := #[.string y.p,.slice A2 y.args.length c2]) (w0 rfl) (ej rfl rfl) rfl ?_
  intro w5 g4 n6
  refine s_assign (v := .bool false) ev_c (w0 rfl) (c_done (n_then (c_seq (c_reg (s_field (off := 0) (o' := 0) F_f46_0 (ej rfl rfl) rfl (w0 rfl) (s_load (v := .string x.p) F_o9 (ej rfl rfl) (cell_of_blk (i := 0) (Ext.blk (NewB.ext n6) (NewB.blk n3)) rfl) (w0 rfl) (s_field (off := 0) (o' := 0) F_f46_0 (ej rfl rfl) rfl (w0 rfl) (s_load (v := .string y.p) F_o9 (ej rfl rfl) (cell_of_blk (i := 0) (NewB.blk n6) rfl) (w0 rfl) (s_cmpS (r := decide (x.p = y.p)) (ej rfl rfl) (ej rfl rfl) rfl (w0 rfl) ?_)))))))))
  by_cases h7 : x.p = y.p
  · refine s_move (v := .bool true) (vb (ej rfl rfl) (decide_eq_true h7)) (w0 rfl) (s_field (off := 1) (o' := 1) F_f46_1 (ej rfl rfl) rfl (wy rfl rfl rfl rfl) (s_load (v := .slice A x.args.length c) F_o44 (ej rfl rfl) (cell_of_blk (i := 1) (Ext.blk (NewB.ext n6) (NewB.blk n3)) rfl) (wy rfl rfl rfl rfl) (s_field (off := 1) (o' := 1) F_f46_1 (ej rfl rfl) rfl (wy rfl rfl rfl rfl) (s_load (v := .slice A2 y.args.length c2) F_o44 (ej rfl rfl) (cell_of_blk (i := 1) (NewB.blk n6) rfl) (wy rfl rfl rfl rfl) (s_call F_e61 (wy rfl rfl rfl rfl) ev_f (m2 (ej rfl rfl) (ej rfl rfl)) (args := #[.slice A x.args.length c,.slice A2 y.args.length c2]) rfl (m_SameTerms x.args y.args A A2 c c2 _ (by omega) (by omega) (Row.extT (Row.extT hr (NewB.ext n3)) (NewB.ext n6)) (Row.extT (Row.extT hr2 (NewB.ext n3)) (NewB.ext n6))) ?_)))))
    rintro _ w9 ⟨rfl,x8⟩
    refine s_pick1 (v := .bool (eqB x.args y.args)) (ej rfl rfl) (ej rfl rfl) (w0 rfl) (s_assign (v := .bool (eqB x.args y.args)) (ej rfl rfl) (w0 rfl) (c_done (n_then (c_ret (ret1 (v := .bool (eqB x.args y.args)) rfl rfl rfl ?_)))))
    refine ⟨_,rfl,?_,(Ext.trans (Ext.trans (NewB.ext n3) (NewB.ext n6)) x8)⟩
    (first | exact congrArg Value.bool (at_yes (by assumption)) | exact congrArg Value.bool (at_no (by assumption)))
  refine s_move (v := .bool false) (vb (ej rfl rfl) (decide_eq_false h7)) (w0 rfl) (s_skip (wn rfl rfl rfl rfl rfl) (s_skip (wn rfl rfl rfl rfl rfl) (s_skip (wn rfl rfl rfl rfl rfl) (s_skip (wn rfl rfl rfl rfl rfl) (s_skip (wn rfl rfl rfl rfl rfl) (s_pick0 (v := .bool false) (ej rfl rfl) ev_c (w0 rfl) (s_assign (v := .bool false) (ej rfl rfl) (w0 rfl) (c_done (n_then (c_ret (ret1 (v := .bool false) rfl rfl rfl ?_)))))))))))
  refine ⟨_,rfl,?_,(Ext.trans (NewB.ext n3) (NewB.ext n6))⟩
  (first | exact congrArg Value.bool (at_yes (by assumption)) | exact congrArg Value.bool (at_no (by assumption)))
theorem m_SameExprs_of (x y : Ex) (A A2 : Option Addr) (c c2 : Nat) (w : World) (ho : x.okc c) (ho2 : y.okc c2) (hr : Row RE 6 w A x.kids) (hr2 : Row RE 6 w A2 y.kids) (ih : ∀ (j : Nat) (x2 : Ex),x.kids[j]? = some x2 → ∀ (y2 : Ex) (A A2 : Option Addr) (c c2 : Nat) (w : World),x2.okc c → y2.okc c2 → Row RE 6 w A x2.kids → Row RE 6 w A2 y2.kids → Rt Tryd.prog 109 #[.agg #[.int .i8 x2.op,.string x2.t.v,.int .i8 x2.t.l.k,.int .i64 x2.t.l.n,.string x2.t.l.s,.slice A x2.kids.length c],.agg #[.int .i8 y2.op,.string y2.t.v,.int .i8 y2.t.l.k,.int .i64 y2.t.l.n,.string y2.t.l.s,.slice A2 y2.kids.length c2]] w fun v w' => v = .bool (eqB x2 y2) ∧ Ext w w') :
    Rt Tryd.prog 120 #[.slice A x.kids.length c,.slice A2 y.kids.length c2] w fun v w' => v = .bool (eqB x.kids y.kids) ∧ Ext w w' := by
  refine enter Tryd.func120 rfl (l := [.slice A x.kids.length c,.slice A2 y.kids.length c2]) rfl Tryd.ntmps120 (Nat.le_of_ble_eq_true rfl) ?_
  have hl_x := Ex.okc.l ho
  have hc_x := Ex.okc.c ho
  have hl_y := Ex.okc.l ho2
  have hc_y := Ex.okc.c ho2
  refine c_seq (c_reg (s_assign (v := .bool false) ev_c (w0 rfl) (c_done (n_then (c_seq (c_seq (c_reg (s_move (v := .slice A x.kids.length c) (ej rfl rfl) (w0 rfl) (s_lenL F_l29 (ej rfl rfl) (w0 rfl) (s_move (v := .slice A2 y.kids.length c2) (ej rfl rfl) (w0 rfl) (s_lenL F_l29 (ej rfl rfl) (w0 rfl) ?_)))))))))))
  refine s_cmp (r := !decide ((x.kids.length : Int) = (y.kids.length : Int))) (ej rfl rfl) (ej rfl rfl) rfl (w0 rfl) (c_done (n_then ?_))
  by_cases h1 : (x.kids.length : Int) = (y.kids.length : Int)
  · refine c_cond0 (vb (ej rfl rfl) (nb0 h1)) (c_skip (n_then (c_seq (c_seq (c_reg (s_assign (v := .int .i64 0) ev_c (w0 rfl) (c_done (n_then (c_block ?_)))))))))
    refine c_loop (α := Nat) (fun (i : Nat) env_ w_ => Ext w w_ ∧ i ≤ x.kids.length ∧ (∀ (j : Nat) (z : Ex),j < i → x.kids[j]? = some z → y.kids[j]? = some z) ∧ env_ 0 = .slice A x.kids.length c ∧ env_ 1 = .slice A2 y.kids.length c2 ∧ env_ 5 = .int .i64 ((i : Nat) : Int)) (fun i => x.kids.length - i) (0) ⟨Ext.refl _,Nat.zero_le _,(fun j y h => absurd h (Nat.not_lt_zero j)),rfl,rfl,rfl⟩ ?_
    rintro i env4 w2 ⟨x3,i5,i6,e7,e8,e9⟩
    refine c_seq (c_seq (c_reg (s_move (v := .int .i64 ((i : Nat) : Int)) (ej rfl e9) (w0 rfl) (s_move (v := .slice A x.kids.length c) (ej rfl e7) (w0 rfl) (s_lenL F_l29 (ej rfl rfl) (w0 rfl) (s_cmp (r := decide (((i : Nat) : Int) < (x.kids.length : Int))) (ej rfl rfl) (ej rfl rfl) rfl (w0 rfl) (c_done (n_then ?_))))))))
    by_cases h10 : ((i : Nat) : Int) < (x.kids.length : Int)
    · refine c_cond1 (vb (ej rfl rfl) (decide_eq_true h10)) (c_skip (n_then (c_seq (c_block (c_seq (c_quiet mixed (by kernel_rfl) (q_val (v := .slice A x.kids.length c) (w0 rfl) (fun w_ c_ => r_move (v := .slice A x.kids.length c) (ej rfl e7)) (q_val (v := .int .i64 ((i : Nat) : Int)) (w0 rfl) (fun w_ c_ => r_move (v := .int .i64 ((i : Nat) : Int)) (ej rfl e9)) ?_))))))))
      obtain ⟨b11,o12,x13,csx13,hA14,hx15,hR16,hc17⟩ := Row.at_ hr i (by omega)
      obtain rfl := Ex.kid_of hx15
      obtain ⟨A18,c19,rfl,ho20,hr21⟩ := RE.open_ hR16
      refine q_val (v := .pointer (some ⟨b11,o12 + i * 6,none⟩)) (w0 rfl) (fun w_ c_ => r_indexR (j := i) F_l29 (ej rfl rfl) hA14 (ej rfl rfl) rfl (by omega)) (q_val (v := .agg #[.int .i8 ((x.kid i).op),.string ((x.kid i).t.v),.int .i8 ((x.kid i).t.l.k),.int .i64 ((x.kid i).t.l.n),.string ((x.kid i).t.l.s),.slice A18 ((x.kid i).kids.length) c19]) (w0 rfl) (fun w_ c_ => r_loadL (cs := [.int .i8 ((x.kid i).op),.string ((x.kid i).t.v),.int .i8 ((x.kid i).t.l.k),.int .i64 ((x.kid i).t.l.n),.string ((x.kid i).t.l.s),.slice A18 ((x.kid i).kids.length) c19]) F_m31 (ej rfl rfl) rfl rfl (sub_cells (cells_ext c_ (cells_ext x3 hc17)) 0 rfl)) (q_val (v := .slice A2 y.kids.length c2) (w0 rfl) (fun w_ c_ => r_move (v := .slice A2 y.kids.length c2) (ej rfl e8)) (q_val (v := .int .i64 ((i : Nat) : Int)) (w0 rfl) (fun w_ c_ => r_move (v := .int .i64 ((i : Nat) : Int)) (ej rfl e9)) ?_)))
      obtain ⟨b22,o23,x24,csx24,hA25,hx26,hR27,hc28⟩ := Row.at_ hr2 i (by omega)
      obtain rfl := Ex.kid_of hx26
      obtain ⟨A29,c30,rfl,ho31,hr32⟩ := RE.open_ hR27
      refine q_val (v := .pointer (some ⟨b22,o23 + i * 6,none⟩)) (w0 rfl) (fun w_ c_ => r_indexR (j := i) F_l29 (ej rfl rfl) hA25 (ej rfl rfl) rfl (by omega)) (q_val (v := .agg #[.int .i8 ((y.kid i).op),.string ((y.kid i).t.v),.int .i8 ((y.kid i).t.l.k),.int .i64 ((y.kid i).t.l.n),.string ((y.kid i).t.l.s),.slice A29 ((y.kid i).kids.length) c30]) (w0 rfl) (fun w_ c_ => r_loadL (cs := [.int .i8 ((y.kid i).op),.string ((y.kid i).t.v),.int .i8 ((y.kid i).t.l.k),.int .i64 ((y.kid i).t.l.n),.string ((y.kid i).t.l.s),.slice A29 ((y.kid i).kids.length) c30]) F_m31 (ej rfl rfl) rfl rfl (sub_cells (cells_ext c_ (cells_ext x3 hc28)) 0 rfl)) (q_call (v := .bool (eqB (x.kid i) (y.kid i))) F_e109 (w0 rfl) ev_f (m2 (ej rfl rfl) (ej rfl rfl)) (args := #[.agg #[.int .i8 ((x.kid i).op),.string ((x.kid i).t.v),.int .i8 ((x.kid i).t.l.k),.int .i64 ((x.kid i).t.l.n),.string ((x.kid i).t.l.s),.slice A18 ((x.kid i).kids.length) c19],.agg #[.int .i8 ((y.kid i).op),.string ((y.kid i).t.v),.int .i8 ((y.kid i).t.l.k),.int .i64 ((y.kid i).t.l.n),.string ((y.kid i).t.l.s),.slice A29 ((y.kid i).kids.length) c30]]) rfl (fun w_ c_ => Rt.mono (ih i (x.kid i) (kid_there (x := x) (j := i) (by omega)) (y.kid i) A18 A29 c19 c30 _ ho20 ho31 (Row.extE (Row.extE hr21 x3) c_) (Row.extE (Row.extE hr32 x3) c_)) (fun v_ w2_ h_ => ⟨h_.1,Ext.trans c_ h_.2⟩)) (q_val (v := .bool (!(eqB (x.kid i) (y.kid i)))) (w0 rfl) (fun w_ c_ => r_not (b := eqB (x.kid i) (y.kid i)) (ej rfl rfl)) (q_done ?_))))
      intro w33 x34
      refine n_then ?_
      rcases Bool.eq_false_or_eq_true (eqB (x.kid i) (y.kid i)) with h35 | h35
      · refine c_cond0 (vb (ej rfl rfl) (nbt h35)) (c_skip (n_block (n_then (c_reg (s_move (v := .int .i64 ((i : Nat) : Int)) (ej rfl e9) (w0 rfl) (s_add (r := ((i + 1 : Nat) : Int)) (ej rfl rfl) ev_c (by omega) (by omega) (w0 rfl) (s_assign (v := .int .i64 ((i + 1 : Nat) : Int)) (ej rfl rfl) (w0 rfl) (c_done ?_))))))))
        exact ⟨(i + 1),_,rfl,⟨(Ext.trans x3 x34),by omega,(same_step i6 (kid_there (x := x) (j := i) (by omega)) (kid_there (x := y) (j := i) (by omega)) (by assumption)),e7,e8,rfl⟩,(show x.kids.length - (i + 1) < x.kids.length - i by omega)⟩
      refine c_cond1 (vb (ej rfl rfl) (nbf h35)) (c_seq (c_reg (s_assign (v := .bool false) ev_c (w0 rfl) (c_done (n_then (c_ret (r_block (r_then (r_then (r_block (r_then ?_)))))))))))
      refine ret1 (v := .bool false) rfl rfl rfl ?_
      refine ⟨_,rfl,?_,(Ext.trans x3 x34)⟩
      (first | exact congrArg Value.bool (same_len (by assumption)).symm | exact congrArg Value.bool (same_no (i := i) (kid_there (x := x) (by omega)) (kid_there (x := y) (by omega)) (by assumption)).symm)
    refine c_cond0 (vb (ej rfl rfl) (decide_eq_false h10)) (c_exit (e_then (e_then (e_hit (n_then (c_seq (c_reg (s_assign (v := .bool true) ev_c (w0 rfl) (c_done (n_then (c_ret ?_)))))))))))
    refine ret1 (v := .bool true) rfl rfl rfl ?_
    refine ⟨_,rfl,?_,x3⟩
    (exact congrArg Value.bool (same_all (by assumption) (by omega) i6).symm)
  refine c_cond1 (vb (ej rfl rfl) (nb1 h1)) (c_seq (c_reg (s_assign (v := .bool false) ev_c (w0 rfl) (c_done (n_then (c_ret (r_then (ret1 (v := .bool false) rfl rfl rfl ?_))))))))
  refine ⟨_,rfl,?_,(Ext.refl w)⟩
  (first | exact congrArg Value.bool (same_len (by assumption)).symm | exact congrArg Value.bool (same_no (i := i) (kid_there (x := x) (by omega)) (kid_there (x := y) (by omega)) (by assumption)).symm)
theorem m_SameExpr_of (x y : Ex) (A A2 : Option Addr) (c c2 : Nat) (w : World) (ho : x.okc c) (ho2 : y.okc c2) (hr : Row RE 6 w A x.kids) (hr2 : Row RE 6 w A2 y.kids) (hls : ∀ {w : World},Row RE 6 w A x.kids → Row RE 6 w A2 y.kids → Rt Tryd.prog 120 #[.slice A x.kids.length c,.slice A2 y.kids.length c2] w fun v w' => v = .bool (eqB x.kids y.kids) ∧ Ext w w') :
    Rt Tryd.prog 109 #[.agg #[.int .i8 x.op,.string x.t.v,.int .i8 x.t.l.k,.int .i64 x.t.l.n,.string x.t.l.s,.slice A x.kids.length c],.agg #[.int .i8 y.op,.string y.t.v,.int .i8 y.t.l.k,.int .i64 y.t.l.n,.string y.t.l.s,.slice A2 y.kids.length c2]] w fun v w' => v = .bool (eqB x y) ∧ Ext w w' := by
  refine enter Tryd.func109 rfl (l := [.agg #[.int .i8 x.op,.string x.t.v,.int .i8 x.t.l.k,.int .i64 x.t.l.n,.string x.t.l.s,.slice A x.kids.length c],.agg #[.int .i8 y.op,.string y.t.v,.int .i8 y.t.l.k,.int .i64 y.t.l.n,.string y.t.l.s,.slice A2 y.kids.length c2]]) rfl Tryd.ntmps109 (Nat.le_of_ble_eq_true rfl) ?_
  have hl_x := Ex.okc.l ho
  have hc_x := Ex.okc.c ho
  have hl_y := Ex.okc.l ho2
  have hc_y := Ex.okc.c ho2
  refine c_seq (c_reg (s_box (v := .agg #[.int .i8 x.op,.string x.t.v,.int .i8 x.t.l.k,.int .i64 x.t.l.n,.string x.t.l.s,.slice A x.kids.length c]) (cs := #[.int .i8 x.op,.string x.t.v,.int .i8 x.t.l.k,.int .i64 x.t.l.n,.string x.t.l.s,.slice A x.kids.length c]) (w0 rfl) (ej rfl rfl) rfl ?_))
  intro w2 g1 n3
  refine s_box (v := .agg #[.int .i8 y.op,.string y.t.v,.int .i8 y.t.l.k,.int .i64 y.t.l.n,.string y.t.l.s,.slice A2 y.kids.length c2]) (cs := #[.int .i8 y.op,.string y.t.v,.int .i8 y.t.l.k,.int .i64 y.t.l.n,.string y.t.l.s,.slice A2 y.kids.length c2]) (w0 rfl) (ej rfl rfl) rfl ?_
  intro w5 g4 n6
  refine s_assign (v := .bool false) ev_c (w0 rfl) (c_done (n_then (c_seq (c_reg (s_field (off := 0) (o' := 0) F_f31_0 (ej rfl rfl) rfl (w0 rfl) (s_load (v := .int .i8 x.op) F_o23 (ej rfl rfl) (cell_of_blk (i := 0) (Ext.blk (NewB.ext n6) (NewB.blk n3)) rfl) (w0 rfl) (s_field (off := 0) (o' := 0) F_f31_0 (ej rfl rfl) rfl (w0 rfl) (s_load (v := .int .i8 y.op) F_o23 (ej rfl rfl) (cell_of_blk (i := 0) (NewB.blk n6) rfl) (w0 rfl) (s_cmp (r := decide (x.op = y.op)) (ej rfl rfl) (ej rfl rfl) rfl (w0 rfl) ?_)))))))))
  by_cases h7 : x.op = y.op
  · refine s_move (v := .bool true) (vb (ej rfl rfl) (decide_eq_true h7)) (w0 rfl) (s_field (off := 1) (o' := 1) F_f31_1 (ej rfl rfl) rfl (wy rfl rfl rfl rfl) (s_loadL (cs := [.string x.t.v,.int .i8 x.t.l.k,.int .i64 x.t.l.n,.string x.t.l.s]) F_m28 (ej rfl rfl) rfl rfl (blk_cells (Ext.blk (NewB.ext n6) (NewB.blk n3)) 1 rfl) (wy rfl rfl rfl rfl) (s_field (off := 1) (o' := 1) F_f31_1 (ej rfl rfl) rfl (wy rfl rfl rfl rfl) (s_loadL (cs := [.string y.t.v,.int .i8 y.t.l.k,.int .i64 y.t.l.n,.string y.t.l.s]) F_m28 (ej rfl rfl) rfl rfl (blk_cells (NewB.blk n6) 1 rfl) (wy rfl rfl rfl rfl) (s_cmpG (r := eqB x.t y.t) (ej rfl rfl) (ej rfl rfl) ((fun w_ => eqqeql28 x.t y.t _ _ w_)) (wy rfl rfl rfl rfl) (s_pick1 (v := .bool (eqB x.t y.t)) (ej rfl rfl) (ej rfl rfl) (w0 rfl) ?_))))))
    rcases Bool.eq_false_or_eq_true (eqB x.t y.t) with h8 | h8
    · refine s_move (v := .bool true) (vb (ej rfl rfl) h8) (w0 rfl) (s_field (off := 5) (o' := 5) F_f31_2 (ej rfl rfl) rfl (wy rfl rfl rfl rfl) (s_load (v := .slice A x.kids.length c) F_o29 (ej rfl rfl) (cell_of_blk (i := 5) (Ext.blk (NewB.ext n6) (NewB.blk n3)) rfl) (wy rfl rfl rfl rfl) (s_field (off := 5) (o' := 5) F_f31_2 (ej rfl rfl) rfl (wy rfl rfl rfl rfl) (s_load (v := .slice A2 y.kids.length c2) F_o29 (ej rfl rfl) (cell_of_blk (i := 5) (NewB.blk n6) rfl) (wy rfl rfl rfl rfl) (s_call F_e120 (wy rfl rfl rfl rfl) ev_f (m2 (ej rfl rfl) (ej rfl rfl)) (args := #[.slice A x.kids.length c,.slice A2 y.kids.length c2]) rfl (hls (Row.extE (Row.extE hr (NewB.ext n3)) (NewB.ext n6)) (Row.extE (Row.extE hr2 (NewB.ext n3)) (NewB.ext n6))) ?_)))))
      rintro _ w10 ⟨rfl,x9⟩
      refine s_pick1 (v := .bool (eqB x.kids y.kids)) (ej rfl rfl) (ej rfl rfl) (w0 rfl) (s_assign (v := .bool (eqB x.kids y.kids)) (ej rfl rfl) (w0 rfl) (c_done (n_then (c_ret (ret1 (v := .bool (eqB x.kids y.kids)) rfl rfl rfl ?_)))))
      refine ⟨_,rfl,?_,(Ext.trans (Ext.trans (NewB.ext n3) (NewB.ext n6)) x9)⟩
      (first | exact congrArg Value.bool (ex_yes (by assumption) (by assumption)) | exact congrArg Value.bool (ex_no1 (by assumption)) | exact congrArg Value.bool (ex_no2 (by assumption) (by assumption)))
    refine s_move (v := .bool false) (vb (ej rfl rfl) h8) (w0 rfl) (s_skip (wn rfl rfl rfl rfl rfl) (s_skip (wn rfl rfl rfl rfl rfl) (s_skip (wn rfl rfl rfl rfl rfl) (s_skip (wn rfl rfl rfl rfl rfl) (s_skip (wn rfl rfl rfl rfl rfl) (s_pick0 (v := .bool false) (ej rfl rfl) ev_c (w0 rfl) (s_assign (v := .bool false) (ej rfl rfl) (w0 rfl) (c_done (n_then (c_ret (ret1 (v := .bool false) rfl rfl rfl ?_)))))))))))
    refine ⟨_,rfl,?_,(Ext.trans (NewB.ext n3) (NewB.ext n6))⟩
    (first | exact congrArg Value.bool (ex_yes (by assumption) (by assumption)) | exact congrArg Value.bool (ex_no1 (by assumption)) | exact congrArg Value.bool (ex_no2 (by assumption) (by assumption)))
  refine s_move (v := .bool false) (vb (ej rfl rfl) (decide_eq_false h7)) (w0 rfl) (s_skip (wn rfl rfl rfl rfl rfl) (s_skip (wn rfl rfl rfl rfl rfl) (s_skip (wn rfl rfl rfl rfl rfl) (s_skip (wn rfl rfl rfl rfl rfl) (s_skip (wn rfl rfl rfl rfl rfl) (s_pick0 (v := .bool false) (ej rfl rfl) ev_c (w0 rfl) (s_move (v := .bool false) (ej rfl rfl) (w0 rfl) (s_skip (wn rfl rfl rfl rfl rfl) (s_skip (wn rfl rfl rfl rfl rfl) (s_skip (wn rfl rfl rfl rfl rfl) (s_skip (wn rfl rfl rfl rfl rfl) ?_)))))))))))
  refine s_skip (wn rfl rfl rfl rfl rfl) (s_pick0 (v := .bool false) (ej rfl rfl) ev_c (w0 rfl) (s_assign (v := .bool false) (ej rfl rfl) (w0 rfl) (c_done (n_then (c_ret (ret1 (v := .bool false) rfl rfl rfl ?_))))))
  refine ⟨_,rfl,?_,(Ext.trans (NewB.ext n3) (NewB.ext n6))⟩
  (first | exact congrArg Value.bool (ex_yes (by assumption) (by assumption)) | exact congrArg Value.bool (ex_no1 (by assumption)) | exact congrArg Value.bool (ex_no2 (by assumption) (by assumption)))
theorem m_SameExpr : ∀ (k : Nat) (x : Ex),SizeOf.sizeOf x < k → ∀ (y : Ex) (A A2 : Option Addr) (c c2 : Nat) (w : World),x.okc c → y.okc c2 → Row RE 6 w A x.kids → Row RE 6 w A2 y.kids → Rt Tryd.prog 109 #[.agg #[.int .i8 x.op,.string x.t.v,.int .i8 x.t.l.k,.int .i64 x.t.l.n,.string x.t.l.s,.slice A x.kids.length c],.agg #[.int .i8 y.op,.string y.t.v,.int .i8 y.t.l.k,.int .i64 y.t.l.n,.string y.t.l.s,.slice A2 y.kids.length c2]] w fun v w' => v = .bool (eqB x y) ∧ Ext w w' := by
  intro k
  induction k with
  | zero => intro x h; omega
  | succ k ih =>
    intro x hk y A A2 c c2 w ho ho2 hr hr2
    exact m_SameExpr_of x y A A2 c c2 w ho ho2 hr hr2 (fun {w} hr hr2 => m_SameExprs_of x y A A2 c c2 w ho ho2 hr hr2 (fun j x2 hx y2 A A2 c c2 w ho ho2 hr hr2 => ih x2 (by have := Ex.kid_lt hx; omega) y2 A A2 c c2 w ho ho2 hr hr2))
theorem m_SameLiteral (x y : Lt) (Aa A1 A2 : Option Addr) (ca c1 c2 : Nat) (Ba B1 B2 : Option Addr) (da d1 d2 : Nat) (w : World) (ho : x.okc ca c1 c2) (ho2 : y.okc da d1 d2) (hra : Row RT 4 w Aa x.a.args) (hr1 : Row RE 6 w A1 x.e1.kids) (hr2 : Row RE 6 w A2 x.e2.kids) (hsa : Row RT 4 w Ba y.a.args) (hs1 : Row RE 6 w B1 y.e1.kids) (hs2 : Row RE 6 w B2 y.e2.kids) :
    Rt Tryd.prog 87 #[.agg #[.int .i8 x.k,.string x.a.p,.slice Aa x.a.args.length ca,.int .i8 x.r,.int .i8 x.e1.op,.string x.e1.t.v,.int .i8 x.e1.t.l.k,.int .i64 x.e1.t.l.n,.string x.e1.t.l.s,.slice A1 x.e1.kids.length c1,.int .i8 x.e2.op,.string x.e2.t.v,.int .i8 x.e2.t.l.k,.int .i64 x.e2.t.l.n,.string x.e2.t.l.s,.slice A2 x.e2.kids.length c2],.agg #[.int .i8 y.k,.string y.a.p,.slice Ba y.a.args.length da,.int .i8 y.r,.int .i8 y.e1.op,.string y.e1.t.v,.int .i8 y.e1.t.l.k,.int .i64 y.e1.t.l.n,.string y.e1.t.l.s,.slice B1 y.e1.kids.length d1,.int .i8 y.e2.op,.string y.e2.t.v,.int .i8 y.e2.t.l.k,.int .i64 y.e2.t.l.n,.string y.e2.t.l.s,.slice B2 y.e2.kids.length d2]] w fun v w' => v = .bool (eqB x y) ∧ Ext w w' := by
  refine enter Tryd.func87 rfl (l := [.agg #[.int .i8 x.k,.string x.a.p,.slice Aa x.a.args.length ca,.int .i8 x.r,.int .i8 x.e1.op,.string x.e1.t.v,.int .i8 x.e1.t.l.k,.int .i64 x.e1.t.l.n,.string x.e1.t.l.s,.slice A1 x.e1.kids.length c1,.int .i8 x.e2.op,.string x.e2.t.v,.int .i8 x.e2.t.l.k,.int .i64 x.e2.t.l.n,.string x.e2.t.l.s,.slice A2 x.e2.kids.length c2],.agg #[.int .i8 y.k,.string y.a.p,.slice Ba y.a.args.length da,.int .i8 y.r,.int .i8 y.e1.op,.string y.e1.t.v,.int .i8 y.e1.t.l.k,.int .i64 y.e1.t.l.n,.string y.e1.t.l.s,.slice B1 y.e1.kids.length d1,.int .i8 y.e2.op,.string y.e2.t.v,.int .i8 y.e2.t.l.k,.int .i64 y.e2.t.l.n,.string y.e2.t.l.s,.slice B2 y.e2.kids.length d2]]) rfl Tryd.ntmps87 (Nat.le_of_ble_eq_true rfl) ?_
  have q1_a := Lt.okc.a ho
  have q1_e1 := Lt.okc.e1 ho
  have q1_e2 := Lt.okc.e2 ho
  have := Ex.okc.l q1_e1
  have := Ex.okc.l q1_e2
  have := Ex.okc.c q1_e1
  have := Ex.okc.c q1_e2
  have := At.okc.l q1_a
  have := At.okc.c q1_a
  have := At.okc.p q1_a
  have q2_a := Lt.okc.a ho2
  have q2_e1 := Lt.okc.e1 ho2
  have q2_e2 := Lt.okc.e2 ho2
  have := Ex.okc.l q2_e1
  have := Ex.okc.l q2_e2
  have := Ex.okc.c q2_e1
  have := Ex.okc.c q2_e2
  have := At.okc.l q2_a
  have := At.okc.c q2_a
  have := At.okc.p q2_a
  refine c_seq (c_reg (s_box (v := .agg #[.int .i8 x.k,.string x.a.p,.slice Aa x.a.args.length ca,.int .i8 x.r,.int .i8 x.e1.op,.string x.e1.t.v,.int .i8 x.e1.t.l.k,.int .i64 x.e1.t.l.n,.string x.e1.t.l.s,.slice A1 x.e1.kids.length c1,.int .i8 x.e2.op,.string x.e2.t.v,.int .i8 x.e2.t.l.k,.int .i64 x.e2.t.l.n,.string x.e2.t.l.s,.slice A2 x.e2.kids.length c2]) (cs := #[.int .i8 x.k,.string x.a.p,.slice Aa x.a.args.length ca,.int .i8 x.r,.int .i8 x.e1.op,.string x.e1.t.v,.int .i8 x.e1.t.l.k,.int .i64 x.e1.t.l.n,.string x.e1.t.l.s,.slice A1 x.e1.kids.length c1,.int .i8 x.e2.op,.string x.e2.t.v,.int .i8 x.e2.t.l.k,.int .i64 x.e2.t.l.n,.string x.e2.t.l.s,.slice A2 x.e2.kids.length c2]) (w0 rfl) (ej rfl rfl) rfl ?_))
  intro w4 g3 n5
  refine s_box (v := .agg #[.int .i8 y.k,.string y.a.p,.slice Ba y.a.args.length da,.int .i8 y.r,.int .i8 y.e1.op,.string y.e1.t.v,.int .i8 y.e1.t.l.k,.int .i64 y.e1.t.l.n,.string y.e1.t.l.s,.slice B1 y.e1.kids.length d1,.int .i8 y.e2.op,.string y.e2.t.v,.int .i8 y.e2.t.l.k,.int .i64 y.e2.t.l.n,.string y.e2.t.l.s,.slice B2 y.e2.kids.length d2]) (cs := #[.int .i8 y.k,.string y.a.p,.slice Ba y.a.args.length da,.int .i8 y.r,.int .i8 y.e1.op,.string y.e1.t.v,.int .i8 y.e1.t.l.k,.int .i64 y.e1.t.l.n,.string y.e1.t.l.s,.slice B1 y.e1.kids.length d1,.int .i8 y.e2.op,.string y.e2.t.v,.int .i8 y.e2.t.l.k,.int .i64 y.e2.t.l.n,.string y.e2.t.l.s,.slice B2 y.e2.kids.length d2]) (w0 rfl) (ej rfl rfl) rfl ?_
  intro w7 g6 n8
  refine s_assign (v := .bool false) ev_c (w0 rfl) (c_done (n_then (c_seq (c_reg (s_field (off := 0) (o' := 0) F_f120_0 (ej rfl rfl) rfl (w0 rfl) (s_load (v := .int .i8 x.k) F_o117 (ej rfl rfl) (cell_of_blk (i := 0) (Ext.blk (NewB.ext n8) (NewB.blk n5)) rfl) (w0 rfl) (s_field (off := 0) (o' := 0) F_f120_0 (ej rfl rfl) rfl (w0 rfl) (s_load (v := .int .i8 y.k) F_o117 (ej rfl rfl) (cell_of_blk (i := 0) (NewB.blk n8) rfl) (w0 rfl) (s_cmp (r := decide (x.k = y.k)) (ej rfl rfl) (ej rfl rfl) rfl (w0 rfl) ?_)))))))))
  by_cases h9 : x.k = y.k
  · refine s_move (v := .bool true) (vb (ej rfl rfl) (decide_eq_true h9)) (w0 rfl) (s_field (off := 3) (o' := 3) F_f120_2 (ej rfl rfl) rfl (wy rfl rfl rfl rfl) (s_load (v := .int .i8 x.r) F_o118 (ej rfl rfl) (cell_of_blk (i := 3) (Ext.blk (NewB.ext n8) (NewB.blk n5)) rfl) (wy rfl rfl rfl rfl) (s_field (off := 3) (o' := 3) F_f120_2 (ej rfl rfl) rfl (wy rfl rfl rfl rfl) (s_load (v := .int .i8 y.r) F_o118 (ej rfl rfl) (cell_of_blk (i := 3) (NewB.blk n8) rfl) (wy rfl rfl rfl rfl) (s_cmp (r := decide (x.r = y.r)) (ej rfl rfl) (ej rfl rfl) rfl (wy rfl rfl rfl rfl) (s_pick1 (v := .bool (decide (x.r = y.r))) (ej rfl rfl) (ej rfl rfl) (w0 rfl) ?_))))))
    by_cases h10 : x.r = y.r
    · refine s_move (v := .bool true) (vb (ej rfl rfl) (decide_eq_true h10)) (w0 rfl) (s_field (off := 1) (o' := 1) F_f120_1 (ej rfl rfl) rfl (wy rfl rfl rfl rfl) (s_loadL (cs := [.string x.a.p,.slice Aa x.a.args.length ca]) F_m46 (ej rfl rfl) rfl rfl (blk_cells (Ext.blk (NewB.ext n8) (NewB.blk n5)) 1 rfl) (wy rfl rfl rfl rfl) (s_field (off := 1) (o' := 1) F_f120_1 (ej rfl rfl) rfl (wy rfl rfl rfl rfl) (s_loadL (cs := [.string y.a.p,.slice Ba y.a.args.length da]) F_m46 (ej rfl rfl) rfl rfl (blk_cells (NewB.blk n8) 1 rfl) (wy rfl rfl rfl rfl) (s_call F_e31 (wy rfl rfl rfl rfl) ev_f (m2 (ej rfl rfl) (ej rfl rfl)) (args := #[.agg #[.string x.a.p,.slice Aa x.a.args.length ca],.agg #[.string y.a.p,.slice Ba y.a.args.length da]]) rfl (m_SameAtom x.a y.a Aa Ba ca da _ q1_a q2_a (Row.extT (Row.extT hra (NewB.ext n5)) (NewB.ext n8)) (Row.extT (Row.extT hsa (NewB.ext n5)) (NewB.ext n8))) ?_)))))
      rintro _ w12 ⟨rfl,x11⟩
      refine s_pick1 (v := .bool (eqB x.a y.a)) (ej rfl rfl) (ej rfl rfl) (w0 rfl) ?_
      rcases Bool.eq_false_or_eq_true (eqB x.a y.a) with h13 | h13
      · refine s_move (v := .bool true) (vb (ej rfl rfl) h13) (w0 rfl) (s_field (off := 4) (o' := 4) F_f120_3 (ej rfl rfl) rfl (wy rfl rfl rfl rfl) (s_loadL (cs := [.int .i8 x.e1.op,.string x.e1.t.v,.int .i8 x.e1.t.l.k,.int .i64 x.e1.t.l.n,.string x.e1.t.l.s,.slice A1 x.e1.kids.length c1]) F_m31 (ej rfl rfl) rfl rfl (blk_cells (Ext.blk x11 (Ext.blk (NewB.ext n8) (NewB.blk n5))) 4 rfl) (wy rfl rfl rfl rfl) (s_field (off := 4) (o' := 4) F_f120_3 (ej rfl rfl) rfl (wy rfl rfl rfl rfl) (s_loadL (cs := [.int .i8 y.e1.op,.string y.e1.t.v,.int .i8 y.e1.t.l.k,.int .i64 y.e1.t.l.n,.string y.e1.t.l.s,.slice B1 y.e1.kids.length d1]) F_m31 (ej rfl rfl) rfl rfl (blk_cells (Ext.blk x11 (NewB.blk n8)) 4 rfl) (wy rfl rfl rfl rfl) (s_call F_e109 (wy rfl rfl rfl rfl) ev_f (m2 (ej rfl rfl) (ej rfl rfl)) (args := #[.agg #[.int .i8 x.e1.op,.string x.e1.t.v,.int .i8 x.e1.t.l.k,.int .i64 x.e1.t.l.n,.string x.e1.t.l.s,.slice A1 x.e1.kids.length c1],.agg #[.int .i8 y.e1.op,.string y.e1.t.v,.int .i8 y.e1.t.l.k,.int .i64 y.e1.t.l.n,.string y.e1.t.l.s,.slice B1 y.e1.kids.length d1]]) rfl (m_SameExpr (SizeOf.sizeOf x.e1 + 1) x.e1 (Nat.lt_succ_self _) y.e1 A1 B1 c1 d1 _ q1_e1 q2_e1 (Row.extE (Row.extE (Row.extE hr1 (NewB.ext n5)) (NewB.ext n8)) x11) (Row.extE (Row.extE (Row.extE hs1 (NewB.ext n5)) (NewB.ext n8)) x11)) ?_)))))
        rintro _ w15 ⟨rfl,x14⟩
        refine s_pick1 (v := .bool (eqB x.e1 y.e1)) (ej rfl rfl) (ej rfl rfl) (w0 rfl) ?_
        rcases Bool.eq_false_or_eq_true (eqB x.e1 y.e1) with h16 | h16
        · refine s_move (v := .bool true) (vb (ej rfl rfl) h16) (w0 rfl) (s_field (off := 10) (o' := 10) F_f120_4 (ej rfl rfl) rfl (wy rfl rfl rfl rfl) (s_loadL (cs := [.int .i8 x.e2.op,.string x.e2.t.v,.int .i8 x.e2.t.l.k,.int .i64 x.e2.t.l.n,.string x.e2.t.l.s,.slice A2 x.e2.kids.length c2]) F_m31 (ej rfl rfl) rfl rfl (blk_cells (Ext.blk x14 (Ext.blk x11 (Ext.blk (NewB.ext n8) (NewB.blk n5)))) 10 rfl) (wy rfl rfl rfl rfl) (s_field (off := 10) (o' := 10) F_f120_4 (ej rfl rfl) rfl (wy rfl rfl rfl rfl) (s_loadL (cs := [.int .i8 y.e2.op,.string y.e2.t.v,.int .i8 y.e2.t.l.k,.int .i64 y.e2.t.l.n,.string y.e2.t.l.s,.slice B2 y.e2.kids.length d2]) F_m31 (ej rfl rfl) rfl rfl (blk_cells (Ext.blk x14 (Ext.blk x11 (NewB.blk n8))) 10 rfl) (wy rfl rfl rfl rfl) (s_call F_e109 (wy rfl rfl rfl rfl) ev_f (m2 (ej rfl rfl) (ej rfl rfl)) (args := #[.agg #[.int .i8 x.e2.op,.string x.e2.t.v,.int .i8 x.e2.t.l.k,.int .i64 x.e2.t.l.n,.string x.e2.t.l.s,.slice A2 x.e2.kids.length c2],.agg #[.int .i8 y.e2.op,.string y.e2.t.v,.int .i8 y.e2.t.l.k,.int .i64 y.e2.t.l.n,.string y.e2.t.l.s,.slice B2 y.e2.kids.length d2]]) rfl (m_SameExpr (SizeOf.sizeOf x.e2 + 1) x.e2 (Nat.lt_succ_self _) y.e2 A2 B2 c2 d2 _ q1_e2 q2_e2 (Row.extE (Row.extE (Row.extE (Row.extE hr2 (NewB.ext n5)) (NewB.ext n8)) x11) x14) (Row.extE (Row.extE (Row.extE (Row.extE hs2 (NewB.ext n5)) (NewB.ext n8)) x11) x14)) ?_)))))
          rintro _ w18 ⟨rfl,x17⟩
          refine s_pick1 (v := .bool (eqB x.e2 y.e2)) (ej rfl rfl) (ej rfl rfl) (w0 rfl) (s_assign (v := .bool (eqB x.e2 y.e2)) (ej rfl rfl) (w0 rfl) (c_done (n_then (c_ret (ret1 (v := .bool (eqB x.e2 y.e2)) rfl rfl rfl ?_)))))
          refine ⟨_,rfl,?_,(Ext.trans (Ext.trans (Ext.trans (Ext.trans (NewB.ext n5) (NewB.ext n8)) x11) x14) x17)⟩
          (first | exact congrArg Value.bool (lt_yes (by assumption) (by assumption) (by assumption) (by assumption)) | exact congrArg Value.bool (lt_no1 (by assumption)) | exact congrArg Value.bool (lt_no2 (by assumption) (by assumption)) | exact congrArg Value.bool (lt_no3 (by assumption) (by assumption) (by assumption)) | exact congrArg Value.bool (lt_no4 (by assumption) (by assumption) (by assumption) (by assumption)))
        refine s_move (v := .bool false) (vb (ej rfl rfl) h16) (w0 rfl) (s_skip (wn rfl rfl rfl rfl rfl) (s_skip (wn rfl rfl rfl rfl rfl) (s_skip (wn rfl rfl rfl rfl rfl) (s_skip (wn rfl rfl rfl rfl rfl) (s_skip (wn rfl rfl rfl rfl rfl) (s_pick0 (v := .bool false) (ej rfl rfl) ev_c (w0 rfl) (s_assign (v := .bool false) (ej rfl rfl) (w0 rfl) (c_done (n_then (c_ret (ret1 (v := .bool false) rfl rfl rfl ?_)))))))))))
        refine ⟨_,rfl,?_,(Ext.trans (Ext.trans (Ext.trans (NewB.ext n5) (NewB.ext n8)) x11) x14)⟩
        (first | exact congrArg Value.bool (lt_yes (by assumption) (by assumption) (by assumption) (by assumption)) | exact congrArg Value.bool (lt_no1 (by assumption)) | exact congrArg Value.bool (lt_no2 (by assumption) (by assumption)) | exact congrArg Value.bool (lt_no3 (by assumption) (by assumption) (by assumption)) | exact congrArg Value.bool (lt_no4 (by assumption) (by assumption) (by assumption) (by assumption)))
      refine s_move (v := .bool false) (vb (ej rfl rfl) h13) (w0 rfl) (s_skip (wn rfl rfl rfl rfl rfl) (s_skip (wn rfl rfl rfl rfl rfl) (s_skip (wn rfl rfl rfl rfl rfl) (s_skip (wn rfl rfl rfl rfl rfl) (s_skip (wn rfl rfl rfl rfl rfl) (s_pick0 (v := .bool false) (ej rfl rfl) ev_c (w0 rfl) (s_move (v := .bool false) (ej rfl rfl) (w0 rfl) (s_skip (wn rfl rfl rfl rfl rfl) (s_skip (wn rfl rfl rfl rfl rfl) (s_skip (wn rfl rfl rfl rfl rfl) (s_skip (wn rfl rfl rfl rfl rfl) ?_)))))))))))
      refine s_skip (wn rfl rfl rfl rfl rfl) (s_pick0 (v := .bool false) (ej rfl rfl) ev_c (w0 rfl) (s_assign (v := .bool false) (ej rfl rfl) (w0 rfl) (c_done (n_then (c_ret (ret1 (v := .bool false) rfl rfl rfl ?_))))))
      refine ⟨_,rfl,?_,(Ext.trans (Ext.trans (NewB.ext n5) (NewB.ext n8)) x11)⟩
      (first | exact congrArg Value.bool (lt_yes (by assumption) (by assumption) (by assumption) (by assumption)) | exact congrArg Value.bool (lt_no1 (by assumption)) | exact congrArg Value.bool (lt_no2 (by assumption) (by assumption)) | exact congrArg Value.bool (lt_no3 (by assumption) (by assumption) (by assumption)) | exact congrArg Value.bool (lt_no4 (by assumption) (by assumption) (by assumption) (by assumption)))
    refine s_move (v := .bool false) (vb (ej rfl rfl) (decide_eq_false h10)) (w0 rfl) (s_skip (wn rfl rfl rfl rfl rfl) (s_skip (wn rfl rfl rfl rfl rfl) (s_skip (wn rfl rfl rfl rfl rfl) (s_skip (wn rfl rfl rfl rfl rfl) (s_skip (wn rfl rfl rfl rfl rfl) (s_pick0 (v := .bool false) (ej rfl rfl) ev_c (w0 rfl) (s_move (v := .bool false) (ej rfl rfl) (w0 rfl) (s_skip (wn rfl rfl rfl rfl rfl) (s_skip (wn rfl rfl rfl rfl rfl) (s_skip (wn rfl rfl rfl rfl rfl) (s_skip (wn rfl rfl rfl rfl rfl) ?_)))))))))))
    refine s_skip (wn rfl rfl rfl rfl rfl) (s_pick0 (v := .bool false) (ej rfl rfl) ev_c (w0 rfl) (s_move (v := .bool false) (ej rfl rfl) (w0 rfl) (s_skip (wn rfl rfl rfl rfl rfl) (s_skip (wn rfl rfl rfl rfl rfl) (s_skip (wn rfl rfl rfl rfl rfl) (s_skip (wn rfl rfl rfl rfl rfl) (s_skip (wn rfl rfl rfl rfl rfl) (s_pick0 (v := .bool false) (ej rfl rfl) ev_c (w0 rfl) (s_assign (v := .bool false) (ej rfl rfl) (w0 rfl) (c_done (n_then ?_)))))))))))
    refine c_ret (ret1 (v := .bool false) rfl rfl rfl ?_)
    refine ⟨_,rfl,?_,(Ext.trans (NewB.ext n5) (NewB.ext n8))⟩
    (first | exact congrArg Value.bool (lt_yes (by assumption) (by assumption) (by assumption) (by assumption)) | exact congrArg Value.bool (lt_no1 (by assumption)) | exact congrArg Value.bool (lt_no2 (by assumption) (by assumption)) | exact congrArg Value.bool (lt_no3 (by assumption) (by assumption) (by assumption)) | exact congrArg Value.bool (lt_no4 (by assumption) (by assumption) (by assumption) (by assumption)))
  refine s_move (v := .bool false) (vb (ej rfl rfl) (decide_eq_false h9)) (w0 rfl) (s_skip (wn rfl rfl rfl rfl rfl) (s_skip (wn rfl rfl rfl rfl rfl) (s_skip (wn rfl rfl rfl rfl rfl) (s_skip (wn rfl rfl rfl rfl rfl) (s_skip (wn rfl rfl rfl rfl rfl) (s_pick0 (v := .bool false) (ej rfl rfl) ev_c (w0 rfl) (s_move (v := .bool false) (ej rfl rfl) (w0 rfl) (s_skip (wn rfl rfl rfl rfl rfl) (s_skip (wn rfl rfl rfl rfl rfl) (s_skip (wn rfl rfl rfl rfl rfl) (s_skip (wn rfl rfl rfl rfl rfl) ?_)))))))))))
  refine s_skip (wn rfl rfl rfl rfl rfl) (s_pick0 (v := .bool false) (ej rfl rfl) ev_c (w0 rfl) (s_move (v := .bool false) (ej rfl rfl) (w0 rfl) (s_skip (wn rfl rfl rfl rfl rfl) (s_skip (wn rfl rfl rfl rfl rfl) (s_skip (wn rfl rfl rfl rfl rfl) (s_skip (wn rfl rfl rfl rfl rfl) (s_skip (wn rfl rfl rfl rfl rfl) (s_pick0 (v := .bool false) (ej rfl rfl) ev_c (w0 rfl) (s_move (v := .bool false) (ej rfl rfl) (w0 rfl) (s_skip (wn rfl rfl rfl rfl rfl) (s_skip (wn rfl rfl rfl rfl rfl) ?_)))))))))))
  refine s_skip (wn rfl rfl rfl rfl rfl) (s_skip (wn rfl rfl rfl rfl rfl) (s_skip (wn rfl rfl rfl rfl rfl) (s_pick0 (v := .bool false) (ej rfl rfl) ev_c (w0 rfl) (s_assign (v := .bool false) (ej rfl rfl) (w0 rfl) (c_done (n_then (c_ret (ret1 (v := .bool false) rfl rfl rfl ?_))))))))
  refine ⟨_,rfl,?_,(Ext.trans (NewB.ext n5) (NewB.ext n8))⟩
  (first | exact congrArg Value.bool (lt_yes (by assumption) (by assumption) (by assumption) (by assumption)) | exact congrArg Value.bool (lt_no1 (by assumption)) | exact congrArg Value.bool (lt_no2 (by assumption) (by assumption)) | exact congrArg Value.bool (lt_no3 (by assumption) (by assumption) (by assumption)) | exact congrArg Value.bool (lt_no4 (by assumption) (by assumption) (by assumption) (by assumption)))
theorem m_SameLiterals (l l2 : List Lt) (A A2 : Option Addr) (c c2 : Nat) (w : World) (hl : l.length * 8 ≤ 140737488351232) (hl2 : l2.length * 8 ≤ 140737488351232) (hr : Row RL 16 w A l) (hr2 : Row RL 16 w A2 l2) :
    Rt Tryd.prog 59 #[.slice A l.length c,.slice A2 l2.length c2] w fun v w' => v = .bool (eqB l l2) ∧ Ext w w' := by
  refine enter Tryd.func59 rfl (l := [.slice A l.length c,.slice A2 l2.length c2]) rfl Tryd.ntmps59 (Nat.le_of_ble_eq_true rfl) ?_
  refine c_seq (c_reg (s_assign (v := .bool false) ev_c (w0 rfl) (c_done (n_then (c_seq (c_seq (c_reg (s_move (v := .slice A l.length c) (ej rfl rfl) (w0 rfl) (s_lenL F_l40 (ej rfl rfl) (w0 rfl) (s_move (v := .slice A2 l2.length c2) (ej rfl rfl) (w0 rfl) (s_lenL F_l40 (ej rfl rfl) (w0 rfl) ?_)))))))))))
  refine s_cmp (r := !decide ((l.length : Int) = (l2.length : Int))) (ej rfl rfl) (ej rfl rfl) rfl (w0 rfl) (c_done (n_then ?_))
  by_cases h1 : (l.length : Int) = (l2.length : Int)
  · refine c_cond0 (vb (ej rfl rfl) (nb0 h1)) (c_skip (n_then (c_seq (c_seq (c_reg (s_assign (v := .int .i64 0) ev_c (w0 rfl) (c_done (n_then (c_block ?_)))))))))
    refine c_loop (α := Nat) (fun (i : Nat) env_ w_ => Ext w w_ ∧ i ≤ l.length ∧ (∀ (j : Nat) (y : Lt),j < i → l[j]? = some y → l2[j]? = some y) ∧ env_ 0 = .slice A l.length c ∧ env_ 1 = .slice A2 l2.length c2 ∧ env_ 5 = .int .i64 ((i : Nat) : Int)) (fun i => l.length - i) (0) ⟨Ext.refl _,Nat.zero_le _,(fun j y h => absurd h (Nat.not_lt_zero j)),rfl,rfl,rfl⟩ ?_
    rintro i env4 w2 ⟨x3,i5,i6,e7,e8,e9⟩
    refine c_seq (c_seq (c_reg (s_move (v := .int .i64 ((i : Nat) : Int)) (ej rfl e9) (w0 rfl) (s_move (v := .slice A l.length c) (ej rfl e7) (w0 rfl) (s_lenL F_l40 (ej rfl rfl) (w0 rfl) (s_cmp (r := decide (((i : Nat) : Int) < (l.length : Int))) (ej rfl rfl) (ej rfl rfl) rfl (w0 rfl) (c_done (n_then ?_))))))))
    by_cases h10 : ((i : Nat) : Int) < (l.length : Int)
    · refine c_cond1 (vb (ej rfl rfl) (decide_eq_true h10)) (c_skip (n_then (c_seq (c_block (c_seq (c_quiet mixed (by kernel_rfl) (q_val (v := .slice A l.length c) (w0 rfl) (fun w_ c_ => r_move (v := .slice A l.length c) (ej rfl e7)) (q_val (v := .int .i64 ((i : Nat) : Int)) (w0 rfl) (fun w_ c_ => r_move (v := .int .i64 ((i : Nat) : Int)) (ej rfl e9)) ?_))))))))
      obtain ⟨b11,o12,x13,csx13,hA14,hx15,hR16,hc17⟩ := Row.at_ hr i (by omega)
      obtain rfl := ltAt_of hx15
      obtain ⟨Aa18,A19,A20,ca21,c22,c23,rfl,ho24,ra25,r26,r27⟩ := hR16
      have q28_a := Lt.okc.a ho24
      have q28_e1 := Lt.okc.e1 ho24
      have q28_e2 := Lt.okc.e2 ho24
      have := Ex.okc.l q28_e1
      have := Ex.okc.l q28_e2
      have := Ex.okc.c q28_e1
      have := Ex.okc.c q28_e2
      have := At.okc.l q28_a
      have := At.okc.c q28_a
      have := At.okc.p q28_a
      refine q_val (v := .pointer (some ⟨b11,o12 + i * 16,none⟩)) (w0 rfl) (fun w_ c_ => r_indexR (j := i) F_l40 (ej rfl rfl) hA14 (ej rfl rfl) rfl (by omega)) (q_val (v := .agg #[.int .i8 ((ltAt l i).k),.string ((ltAt l i).a.p),.slice Aa18 ((ltAt l i).a.args.length) ca21,.int .i8 ((ltAt l i).r),.int .i8 ((ltAt l i).e1.op),.string ((ltAt l i).e1.t.v),.int .i8 ((ltAt l i).e1.t.l.k),.int .i64 ((ltAt l i).e1.t.l.n),.string ((ltAt l i).e1.t.l.s),.slice A19 ((ltAt l i).e1.kids.length) c22,.int .i8 ((ltAt l i).e2.op),.string ((ltAt l i).e2.t.v),.int .i8 ((ltAt l i).e2.t.l.k),.int .i64 ((ltAt l i).e2.t.l.n),.string ((ltAt l i).e2.t.l.s),.slice A20 ((ltAt l i).e2.kids.length) c23]) (w0 rfl) (fun w_ c_ => r_loadL (cs := [.int .i8 ((ltAt l i).k),.string ((ltAt l i).a.p),.slice Aa18 ((ltAt l i).a.args.length) ca21,.int .i8 ((ltAt l i).r),.int .i8 ((ltAt l i).e1.op),.string ((ltAt l i).e1.t.v),.int .i8 ((ltAt l i).e1.t.l.k),.int .i64 ((ltAt l i).e1.t.l.n),.string ((ltAt l i).e1.t.l.s),.slice A19 ((ltAt l i).e1.kids.length) c22,.int .i8 ((ltAt l i).e2.op),.string ((ltAt l i).e2.t.v),.int .i8 ((ltAt l i).e2.t.l.k),.int .i64 ((ltAt l i).e2.t.l.n),.string ((ltAt l i).e2.t.l.s),.slice A20 ((ltAt l i).e2.kids.length) c23]) F_m120 (ej rfl rfl) rfl rfl (sub_cells (cells_ext c_ (cells_ext x3 hc17)) 0 rfl)) (q_val (v := .slice A2 l2.length c2) (w0 rfl) (fun w_ c_ => r_move (v := .slice A2 l2.length c2) (ej rfl e8)) (q_val (v := .int .i64 ((i : Nat) : Int)) (w0 rfl) (fun w_ c_ => r_move (v := .int .i64 ((i : Nat) : Int)) (ej rfl e9)) ?_)))
      obtain ⟨b29,o30,x31,csx31,hA32,hx33,hR34,hc35⟩ := Row.at_ hr2 i (by omega)
      obtain rfl := ltAt_of hx33
      obtain ⟨Aa36,A37,A38,ca39,c40,c41,rfl,ho42,ra43,r44,r45⟩ := hR34
      have q46_a := Lt.okc.a ho42
      have q46_e1 := Lt.okc.e1 ho42
      have q46_e2 := Lt.okc.e2 ho42
      have := Ex.okc.l q46_e1
      have := Ex.okc.l q46_e2
      have := Ex.okc.c q46_e1
      have := Ex.okc.c q46_e2
      have := At.okc.l q46_a
      have := At.okc.c q46_a
      have := At.okc.p q46_a
      refine q_val (v := .pointer (some ⟨b29,o30 + i * 16,none⟩)) (w0 rfl) (fun w_ c_ => r_indexR (j := i) F_l40 (ej rfl rfl) hA32 (ej rfl rfl) rfl (by omega)) (q_val (v := .agg #[.int .i8 ((ltAt l2 i).k),.string ((ltAt l2 i).a.p),.slice Aa36 ((ltAt l2 i).a.args.length) ca39,.int .i8 ((ltAt l2 i).r),.int .i8 ((ltAt l2 i).e1.op),.string ((ltAt l2 i).e1.t.v),.int .i8 ((ltAt l2 i).e1.t.l.k),.int .i64 ((ltAt l2 i).e1.t.l.n),.string ((ltAt l2 i).e1.t.l.s),.slice A37 ((ltAt l2 i).e1.kids.length) c40,.int .i8 ((ltAt l2 i).e2.op),.string ((ltAt l2 i).e2.t.v),.int .i8 ((ltAt l2 i).e2.t.l.k),.int .i64 ((ltAt l2 i).e2.t.l.n),.string ((ltAt l2 i).e2.t.l.s),.slice A38 ((ltAt l2 i).e2.kids.length) c41]) (w0 rfl) (fun w_ c_ => r_loadL (cs := [.int .i8 ((ltAt l2 i).k),.string ((ltAt l2 i).a.p),.slice Aa36 ((ltAt l2 i).a.args.length) ca39,.int .i8 ((ltAt l2 i).r),.int .i8 ((ltAt l2 i).e1.op),.string ((ltAt l2 i).e1.t.v),.int .i8 ((ltAt l2 i).e1.t.l.k),.int .i64 ((ltAt l2 i).e1.t.l.n),.string ((ltAt l2 i).e1.t.l.s),.slice A37 ((ltAt l2 i).e1.kids.length) c40,.int .i8 ((ltAt l2 i).e2.op),.string ((ltAt l2 i).e2.t.v),.int .i8 ((ltAt l2 i).e2.t.l.k),.int .i64 ((ltAt l2 i).e2.t.l.n),.string ((ltAt l2 i).e2.t.l.s),.slice A38 ((ltAt l2 i).e2.kids.length) c41]) F_m120 (ej rfl rfl) rfl rfl (sub_cells (cells_ext c_ (cells_ext x3 hc35)) 0 rfl)) (q_call (v := .bool (eqB (ltAt l i) (ltAt l2 i))) F_e87 (w0 rfl) ev_f (m2 (ej rfl rfl) (ej rfl rfl)) (args := #[.agg #[.int .i8 ((ltAt l i).k),.string ((ltAt l i).a.p),.slice Aa18 ((ltAt l i).a.args.length) ca21,.int .i8 ((ltAt l i).r),.int .i8 ((ltAt l i).e1.op),.string ((ltAt l i).e1.t.v),.int .i8 ((ltAt l i).e1.t.l.k),.int .i64 ((ltAt l i).e1.t.l.n),.string ((ltAt l i).e1.t.l.s),.slice A19 ((ltAt l i).e1.kids.length) c22,.int .i8 ((ltAt l i).e2.op),.string ((ltAt l i).e2.t.v),.int .i8 ((ltAt l i).e2.t.l.k),.int .i64 ((ltAt l i).e2.t.l.n),.string ((ltAt l i).e2.t.l.s),.slice A20 ((ltAt l i).e2.kids.length) c23],.agg #[.int .i8 ((ltAt l2 i).k),.string ((ltAt l2 i).a.p),.slice Aa36 ((ltAt l2 i).a.args.length) ca39,.int .i8 ((ltAt l2 i).r),.int .i8 ((ltAt l2 i).e1.op),.string ((ltAt l2 i).e1.t.v),.int .i8 ((ltAt l2 i).e1.t.l.k),.int .i64 ((ltAt l2 i).e1.t.l.n),.string ((ltAt l2 i).e1.t.l.s),.slice A37 ((ltAt l2 i).e1.kids.length) c40,.int .i8 ((ltAt l2 i).e2.op),.string ((ltAt l2 i).e2.t.v),.int .i8 ((ltAt l2 i).e2.t.l.k),.int .i64 ((ltAt l2 i).e2.t.l.n),.string ((ltAt l2 i).e2.t.l.s),.slice A38 ((ltAt l2 i).e2.kids.length) c41]]) rfl (fun w_ c_ => Rt.mono (m_SameLiteral (ltAt l i) (ltAt l2 i) Aa18 A19 A20 ca21 c22 c23 Aa36 A37 A38 ca39 c40 c41 _ ho24 ho42 (Row.extT (Row.extT ra25 x3) c_) (Row.extE (Row.extE r26 x3) c_) (Row.extE (Row.extE r27 x3) c_) (Row.extT (Row.extT ra43 x3) c_) (Row.extE (Row.extE r44 x3) c_) (Row.extE (Row.extE r45 x3) c_)) (fun v_ w2_ h_ => ⟨h_.1,Ext.trans c_ h_.2⟩)) (q_val (v := .bool (!(eqB (ltAt l i) (ltAt l2 i)))) (w0 rfl) (fun w_ c_ => r_not (b := eqB (ltAt l i) (ltAt l2 i)) (ej rfl rfl)) (q_done ?_))))
      intro w47 x48
      refine n_then ?_
      rcases Bool.eq_false_or_eq_true (eqB (ltAt l i) (ltAt l2 i)) with h49 | h49
      · refine c_cond0 (vb (ej rfl rfl) (nbt h49)) (c_skip (n_block (n_then (c_reg (s_move (v := .int .i64 ((i : Nat) : Int)) (ej rfl e9) (w0 rfl) (s_add (r := ((i + 1 : Nat) : Int)) (ej rfl rfl) ev_c (by omega) (by omega) (w0 rfl) (s_assign (v := .int .i64 ((i + 1 : Nat) : Int)) (ej rfl rfl) (w0 rfl) (c_done ?_))))))))
        exact ⟨(i + 1),_,rfl,⟨(Ext.trans x3 x48),by omega,(same_step i6 (ltAt_there (by omega)) (ltAt_there (by omega)) (by assumption)),e7,e8,rfl⟩,(show l.length - (i + 1) < l.length - i by omega)⟩
      refine c_cond1 (vb (ej rfl rfl) (nbf h49)) (c_seq (c_reg (s_assign (v := .bool false) ev_c (w0 rfl) (c_done (n_then (c_ret (r_block (r_then (r_then (r_block (r_then ?_)))))))))))
      refine ret1 (v := .bool false) rfl rfl rfl ?_
      refine ⟨_,rfl,?_,(Ext.trans x3 x48)⟩
      (first | exact congrArg Value.bool (same_len (by assumption)).symm | exact congrArg Value.bool (same_no (i := i) (ltAt_there (by omega)) (ltAt_there (by omega)) (by assumption)).symm)
    refine c_cond0 (vb (ej rfl rfl) (decide_eq_false h10)) (c_exit (e_then (e_then (e_hit (n_then (c_seq (c_reg (s_assign (v := .bool true) ev_c (w0 rfl) (c_done (n_then (c_ret ?_)))))))))))
    refine ret1 (v := .bool true) rfl rfl rfl ?_
    refine ⟨_,rfl,?_,x3⟩
    (exact congrArg Value.bool (same_all (by assumption) (by omega) i6).symm)
  refine c_cond1 (vb (ej rfl rfl) (nb1 h1)) (c_seq (c_reg (s_assign (v := .bool false) ev_c (w0 rfl) (c_done (n_then (c_ret (r_then (ret1 (v := .bool false) rfl rfl rfl ?_))))))))
  refine ⟨_,rfl,?_,(Ext.refl w)⟩
  (first | exact congrArg Value.bool (same_len (by assumption)).symm | exact congrArg Value.bool (same_no (i := i) (ltAt_there (by omega)) (ltAt_there (by omega)) (by assumption)).symm)
theorem m_SameRule (x y : Ru) (Ah Ab : Option Addr) (ch cb : Nat) (Bh Bb : Option Addr) (dh db : Nat) (w : World) (ho : x.okc ch cb) (ho2 : y.okc dh db) (hrh : Row RG 5 w Ah x.head) (hrb : Row RL 16 w Ab x.body) (hsh : Row RG 5 w Bh y.head) (hsb : Row RL 16 w Bb y.body) :
    Rt Tryd.prog 28 #[.agg #[.string x.p,.slice Ah x.head.length ch,.slice Ab x.body.length cb],.agg #[.string y.p,.slice Bh y.head.length dh,.slice Bb y.body.length db]] w fun v w' => v = .bool (eqB x y) ∧ Ext w w' := by
  refine enter Tryd.func28 rfl (l := [.agg #[.string x.p,.slice Ah x.head.length ch,.slice Ab x.body.length cb],.agg #[.string y.p,.slice Bh y.head.length dh,.slice Bb y.body.length db]]) rfl Tryd.ntmps28 (Nat.le_of_ble_eq_true rfl) ?_
  have hp_x := Ru.okc.p ho
  have hhl_x := Ru.okc.hl ho
  have hhc_x := Ru.okc.hc ho
  have hbl_x := Ru.okc.bl ho
  have hbc_x := Ru.okc.bc ho
  have hp_y := Ru.okc.p ho2
  have hhl_y := Ru.okc.hl ho2
  have hhc_y := Ru.okc.hc ho2
  have hbl_y := Ru.okc.bl ho2
  have hbc_y := Ru.okc.bc ho2
  refine c_seq (c_reg (s_box (v := .agg #[.string x.p,.slice Ah x.head.length ch,.slice Ab x.body.length cb]) (cs := #[.string x.p,.slice Ah x.head.length ch,.slice Ab x.body.length cb]) (w0 rfl) (ej rfl rfl) rfl ?_))
  intro w2 g1 n3
  refine s_box (v := .agg #[.string y.p,.slice Bh y.head.length dh,.slice Bb y.body.length db]) (cs := #[.string y.p,.slice Bh y.head.length dh,.slice Bb y.body.length db]) (w0 rfl) (ej rfl rfl) rfl ?_
  intro w5 g4 n6
  refine s_assign (v := .bool false) ev_c (w0 rfl) (c_done (n_then (c_seq (c_reg (s_field (off := 0) (o' := 0) F_f42_0 (ej rfl rfl) rfl (w0 rfl) (s_load (v := .string x.p) F_o9 (ej rfl rfl) (cell_of_blk (i := 0) (Ext.blk (NewB.ext n6) (NewB.blk n3)) rfl) (w0 rfl) (s_field (off := 0) (o' := 0) F_f42_0 (ej rfl rfl) rfl (w0 rfl) (s_load (v := .string y.p) F_o9 (ej rfl rfl) (cell_of_blk (i := 0) (NewB.blk n6) rfl) (w0 rfl) (s_cmpS (r := decide (x.p = y.p)) (ej rfl rfl) (ej rfl rfl) rfl (w0 rfl) ?_)))))))))
  by_cases h7 : x.p = y.p
  · refine s_move (v := .bool true) (vb (ej rfl rfl) (decide_eq_true h7)) (w0 rfl) (s_field (off := 1) (o' := 1) F_f42_1 (ej rfl rfl) rfl (wy rfl rfl rfl rfl) (s_load (v := .slice Ah x.head.length ch) F_o39 (ej rfl rfl) (cell_of_blk (i := 1) (Ext.blk (NewB.ext n6) (NewB.blk n3)) rfl) (wy rfl rfl rfl rfl) (s_field (off := 1) (o' := 1) F_f42_1 (ej rfl rfl) rfl (wy rfl rfl rfl rfl) (s_load (v := .slice Bh y.head.length dh) F_o39 (ej rfl rfl) (cell_of_blk (i := 1) (NewB.blk n6) rfl) (wy rfl rfl rfl rfl) (s_call F_e58 (wy rfl rfl rfl rfl) ev_f (m2 (ej rfl rfl) (ej rfl rfl)) (args := #[.slice Ah x.head.length ch,.slice Bh y.head.length dh]) rfl (m_SameArgs x.head y.head Ah Bh ch dh _ (by omega) (by omega) (Row.extG (Row.extG hrh (NewB.ext n3)) (NewB.ext n6)) (Row.extG (Row.extG hsh (NewB.ext n3)) (NewB.ext n6))) ?_)))))
    rintro _ w9 ⟨rfl,x8⟩
    refine s_pick1 (v := .bool (eqB x.head y.head)) (ej rfl rfl) (ej rfl rfl) (w0 rfl) ?_
    rcases Bool.eq_false_or_eq_true (eqB x.head y.head) with h10 | h10
    · refine s_move (v := .bool true) (vb (ej rfl rfl) h10) (w0 rfl) (s_field (off := 2) (o' := 2) F_f42_2 (ej rfl rfl) rfl (wy rfl rfl rfl rfl) (s_load (v := .slice Ab x.body.length cb) F_o40 (ej rfl rfl) (cell_of_blk (i := 2) (Ext.blk x8 (Ext.blk (NewB.ext n6) (NewB.blk n3))) rfl) (wy rfl rfl rfl rfl) (s_field (off := 2) (o' := 2) F_f42_2 (ej rfl rfl) rfl (wy rfl rfl rfl rfl) (s_load (v := .slice Bb y.body.length db) F_o40 (ej rfl rfl) (cell_of_blk (i := 2) (Ext.blk x8 (NewB.blk n6)) rfl) (wy rfl rfl rfl rfl) (s_call F_e59 (wy rfl rfl rfl rfl) ev_f (m2 (ej rfl rfl) (ej rfl rfl)) (args := #[.slice Ab x.body.length cb,.slice Bb y.body.length db]) rfl (m_SameLiterals x.body y.body Ab Bb cb db _ (by omega) (by omega) (Row.extL (Row.extL (Row.extL hrb (NewB.ext n3)) (NewB.ext n6)) x8) (Row.extL (Row.extL (Row.extL hsb (NewB.ext n3)) (NewB.ext n6)) x8)) ?_)))))
      rintro _ w12 ⟨rfl,x11⟩
      refine s_pick1 (v := .bool (eqB x.body y.body)) (ej rfl rfl) (ej rfl rfl) (w0 rfl) (s_assign (v := .bool (eqB x.body y.body)) (ej rfl rfl) (w0 rfl) (c_done (n_then (c_ret (ret1 (v := .bool (eqB x.body y.body)) rfl rfl rfl ?_)))))
      refine ⟨_,rfl,?_,(Ext.trans (Ext.trans (Ext.trans (NewB.ext n3) (NewB.ext n6)) x8) x11)⟩
      (first | exact congrArg Value.bool (ru_yes (by assumption) (by assumption)) | exact congrArg Value.bool (ru_no1 (by assumption)) | exact congrArg Value.bool (ru_no2 (by assumption) (by assumption)))
    refine s_move (v := .bool false) (vb (ej rfl rfl) h10) (w0 rfl) (s_skip (wn rfl rfl rfl rfl rfl) (s_skip (wn rfl rfl rfl rfl rfl) (s_skip (wn rfl rfl rfl rfl rfl) (s_skip (wn rfl rfl rfl rfl rfl) (s_skip (wn rfl rfl rfl rfl rfl) (s_pick0 (v := .bool false) (ej rfl rfl) ev_c (w0 rfl) (s_assign (v := .bool false) (ej rfl rfl) (w0 rfl) (c_done (n_then (c_ret (ret1 (v := .bool false) rfl rfl rfl ?_)))))))))))
    refine ⟨_,rfl,?_,(Ext.trans (Ext.trans (NewB.ext n3) (NewB.ext n6)) x8)⟩
    (first | exact congrArg Value.bool (ru_yes (by assumption) (by assumption)) | exact congrArg Value.bool (ru_no1 (by assumption)) | exact congrArg Value.bool (ru_no2 (by assumption) (by assumption)))
  refine s_move (v := .bool false) (vb (ej rfl rfl) (decide_eq_false h7)) (w0 rfl) (s_skip (wn rfl rfl rfl rfl rfl) (s_skip (wn rfl rfl rfl rfl rfl) (s_skip (wn rfl rfl rfl rfl rfl) (s_skip (wn rfl rfl rfl rfl rfl) (s_skip (wn rfl rfl rfl rfl rfl) (s_pick0 (v := .bool false) (ej rfl rfl) ev_c (w0 rfl) (s_move (v := .bool false) (ej rfl rfl) (w0 rfl) (s_skip (wn rfl rfl rfl rfl rfl) (s_skip (wn rfl rfl rfl rfl rfl) (s_skip (wn rfl rfl rfl rfl rfl) (s_skip (wn rfl rfl rfl rfl rfl) ?_)))))))))))
  refine s_skip (wn rfl rfl rfl rfl rfl) (s_pick0 (v := .bool false) (ej rfl rfl) ev_c (w0 rfl) (s_assign (v := .bool false) (ej rfl rfl) (w0 rfl) (c_done (n_then (c_ret (ret1 (v := .bool false) rfl rfl rfl ?_))))))
  refine ⟨_,rfl,?_,(Ext.trans (NewB.ext n3) (NewB.ext n6))⟩
  (first | exact congrArg Value.bool (ru_yes (by assumption) (by assumption)) | exact congrArg Value.bool (ru_no1 (by assumption)) | exact congrArg Value.bool (ru_no2 (by assumption) (by assumption)))
end Go.Proofs.Dw

set_option linter.unusedVariables false
set_option linter.unusedSimpArgs false
set_option maxRecDepth 10000
namespace Go.Proofs.Dw
open Go Go.Wk Go.Proofs Go.Lib
attribute [local irreducible] Go.wpList Go.wpStill Go.wpQuiet Go.Code.wp Go.Calls
theorem F_e12 : enterable Tryd.prog 12 = true := by kernel_rfl
theorem F_e28 : enterable Tryd.prog 28 = true := by kernel_rfl
theorem F_e29 : enterable Tryd.prog 29 = true := by kernel_rfl
theorem F_e30 : enterable Tryd.prog 30 = true := by kernel_rfl
theorem F_f48_0 : fieldAt Tryd.prog 48 0 0 = true := by kernel_rfl
theorem F_f48_1 : fieldAt Tryd.prog 48 1 3 = true := by kernel_rfl
theorem F_f48_2 : fieldAt Tryd.prog 48 2 6 = true := by kernel_rfl
theorem F_f48_3 : fieldAt Tryd.prog 48 3 7 = true := by kernel_rfl
theorem F_f48_4 : fieldAt Tryd.prog 48 4 8 = true := by kernel_rfl
theorem F_f48_5 : fieldAt Tryd.prog 48 5 10 = true := by kernel_rfl
theorem F_o43 : one Tryd.prog 43 = true := by kernel_rfl
theorem bs51_2_0s_0s_0s_1s_1s_1s : ∀ (a0 : ByteArray) (a1 : Option Addr) (a1n a1c : Nat) (a2 : Option Addr) (a2n a2c : Nat) (a3 : ByteArray) (a4 : Option Addr) (a4n a4c : Nat) (a5 : Option Addr) (a5n a5c : Nat),∀ w : World,(Instr.buildSlice 51 2 [(0,.agg #[.string a0,.slice a1 a1n a1c,.slice a2 a2n a2c]),(1,.agg #[.string a3,.slice a4 a4n a4c,.slice a5 a5n a5c])].toArray).run Tryd.prog w = .ok (.slice (some ⟨w.heap.size,0,none⟩) 2 2) (w.alloc (.cells #[.string a0,.slice a1 a1n a1c,.slice a2 a2n a2c,.string a3,.slice a4 a4n a4c,.slice a5 a5n a5c] 42)) := by
  intros
  kernel_rfl
theorem eqbo4 {a b : Bool} (h : a = b) (x y : Operand) (w : World) : (do eqGuard .neq 4 x y (.bool a) (.bool b); binOp .neq 4 (.bool a) (.bool b) : Sem Value).run Tryd.prog w = .ok (.bool false) w := by
  subst h
  have hu := Tryd.underlying4
  go_simp
theorem l_apart (x y : Ru) (Ah Ab : Option Addr) (ch cb : Nat) (Bh Bb : Option Addr) (dh db : Nat) (l l2 : List Fc) (Al Al2 : Option Addr) (cl cl2 : Nat) (qa qb : At) (Aq Aq2 : Option Addr) (cq cq2 : Nat) (w : World) (ho : x.okc ch cb) (ho2 : y.okc dh db) (hrh : Row RG 5 w Ah x.head) (hrb : Row RL 16 w Ab x.body) (hsh : Row RG 5 w Bh y.head) (hsb : Row RL 16 w Bb y.body) (hfl : l.length ≤ 1048577) (hfl2 : l2.length ≤ 1048577) (hrl : Row RF 2 w Al l) (hrl2 : Row RF 2 w Al2 l2) (hoq : qa.okc cq) (hoq2 : qb.okc cq2) (hrq : Row RT 4 w Aq qa.args) (hrq2 : Row RT 4 w Aq2 qb.args) (tb : Tabs Tryd.prog w) (tr : RelT Tryd.prog w) (tf : FoldT Tryd.prog w) (tk : KwT Tryd.prog w) :
    Rt Tryd.prog 12 #[.agg #[.string x.p,.slice Ah x.head.length ch,.slice Ab x.body.length cb],.agg #[.string y.p,.slice Bh y.head.length dh,.slice Bb y.body.length db],.slice Al l.length cl,.slice Al2 l2.length cl2,.agg #[.string qa.p,.slice Aq qa.args.length cq],.agg #[.string qb.p,.slice Aq2 qb.args.length cq2]] w fun v w' => v = .bool true ∧ Ext w w' := by
  refine enter Tryd.func12 rfl (l := [.agg #[.string x.p,.slice Ah x.head.length ch,.slice Ab x.body.length cb],.agg #[.string y.p,.slice Bh y.head.length dh,.slice Bb y.body.length db],.slice Al l.length cl,.slice Al2 l2.length cl2,.agg #[.string qa.p,.slice Aq qa.args.length cq],.agg #[.string qb.p,.slice Aq2 qb.args.length cq2]]) rfl Tryd.ntmps12 (Nat.le_of_ble_eq_true rfl) ?_
  have hp_x := Ru.okc.p ho
  have hhl_x := Ru.okc.hl ho
  have hhc_x := Ru.okc.hc ho
  have hbl_x := Ru.okc.bl ho
  have hbc_x := Ru.okc.bc ho
  have hp_y := Ru.okc.p ho2
  have hhl_y := Ru.okc.hl ho2
  have hhc_y := Ru.okc.hc ho2
  have hbl_y := Ru.okc.bl ho2
  have hbc_y := Ru.okc.bc ho2
  have hp_qa := At.okc.p hoq
  have hl_qa := At.okc.l hoq
  have hc_qa := At.okc.c hoq
  have hp_qb := At.okc.p hoq2
  have hl_qb := At.okc.l hoq2
  have hc_qb := At.okc.c hoq2
  refine c_seq (c_reg (s_box (v := .agg #[.string x.p,.slice Ah x.head.length ch,.slice Ab x.body.length cb]) (cs := #[.string x.p,.slice Ah x.head.length ch,.slice Ab x.body.length cb]) (w0 rfl) (ej rfl rfl) rfl ?_))
  intro w62 g61 n63
  refine s_box (v := .agg #[.string y.p,.slice Bh y.head.length dh,.slice Bb y.body.length db]) (cs := #[.string y.p,.slice Bh y.head.length dh,.slice Bb y.body.length db]) (w0 rfl) (ej rfl rfl) rfl ?_
  intro w65 g64 n66
  refine s_box (v := .agg #[.string qa.p,.slice Aq qa.args.length cq]) (cs := #[.string qa.p,.slice Aq qa.args.length cq]) (w0 rfl) (ej rfl rfl) rfl ?_
  intro w68 g67 n69
  refine s_box (v := .agg #[.string qb.p,.slice Aq2 qb.args.length cq2]) (cs := #[.string qb.p,.slice Aq2 qb.args.length cq2]) (w0 rfl) (ej rfl rfl) rfl ?_
  intro w71 g70 n72
  refine s_assign (v := .bool false) ev_c (w0 rfl) (c_done (n_then (c_seq (c_seq (c_reg (s_loadL (cs := [.string x.p,.slice Ah x.head.length ch,.slice Ab x.body.length cb]) F_m42 (ej rfl rfl) rfl rfl (blk_cells (Ext.blk (NewB.ext n72) (Ext.blk (NewB.ext n69) (Ext.blk (NewB.ext n66) (NewB.blk n63)))) 0 rfl) (w0 rfl) (s_loadL (cs := [.string y.p,.slice Bh y.head.length dh,.slice Bb y.body.length db]) F_m42 (ej rfl rfl) rfl rfl (blk_cells (Ext.blk (NewB.ext n72) (Ext.blk (NewB.ext n69) (NewB.blk n66))) 0 rfl) (w0 rfl) (s_bslice (vs := [(0,.agg #[.string x.p,.slice Ah x.head.length ch,.slice Ab x.body.length cb]),(1,.agg #[.string y.p,.slice Bh y.head.length dh,.slice Bb y.body.length db])]) (cs := #[.string x.p,.slice Ah x.head.length ch,.slice Ab x.body.length cb,.string y.p,.slice Bh y.head.length dh,.slice Bb y.body.length db]) (b2 (ej rfl rfl) (ej rfl rfl)) (bs51_2_0s_0s_0s_1s_1s_1s x.p Ah x.head.length ch Ab x.body.length cb y.p Bh y.head.length dh Bb y.body.length db) (w0 rfl) ?_))))))))
  intro w74 g73 n75
  refine s_call F_e27 (w0 rfl) ev_f (m1 (ej rfl rfl)) (args := #[.slice (some ⟨g73,0,none⟩) 2 2]) rfl (l_BeyondRules [x,y] (some ⟨g73,0,none⟩) 2 _ (show 2 * 64 ≤ 140737488351232 by decide) (Row.twoU (NewB.blk n75) ho (Row.extG (Row.extG (Row.extG (Row.extG (Row.extG hrh (NewB.ext n63)) (NewB.ext n66)) (NewB.ext n69)) (NewB.ext n72)) (NewB.ext n75)) (Row.extL (Row.extL (Row.extL (Row.extL (Row.extL hrb (NewB.ext n63)) (NewB.ext n66)) (NewB.ext n69)) (NewB.ext n72)) (NewB.ext n75)) ho2 (Row.extG (Row.extG (Row.extG (Row.extG (Row.extG hsh (NewB.ext n63)) (NewB.ext n66)) (NewB.ext n69)) (NewB.ext n72)) (NewB.ext n75)) (Row.extL (Row.extL (Row.extL (Row.extL (Row.extL hsb (NewB.ext n63)) (NewB.ext n66)) (NewB.ext n69)) (NewB.ext n72)) (NewB.ext n75)))) ?_
  rintro _ w77 ⟨⟨z76,rfl,hfew79⟩,x78⟩
  refine c_done (n_then ?_)
  rcases Bool.eq_false_or_eq_true z76 with h80 | h80
  · refine c_cond1 (vb (ej rfl rfl) h80) (c_seq (c_reg (s_assign (v := .bool true) ev_c (w0 rfl) (c_done (n_then (c_ret (r_then (ret1 (v := .bool true) rfl rfl rfl ?_))))))))
    refine ⟨_,rfl,?_,(Ext.trans (Ext.trans (Ext.trans (Ext.trans (Ext.trans (NewB.ext n63) (NewB.ext n66)) (NewB.ext n69)) (NewB.ext n72)) (NewB.ext n75)) x78)⟩
    rfl
  refine c_cond0 (vb (ej rfl rfl) h80) (c_skip (n_then (c_seq (c_reg (s_loadL (cs := [.string x.p,.slice Ah x.head.length ch,.slice Ab x.body.length cb]) F_m42 (ej rfl rfl) rfl rfl (blk_cells (Ext.blk x78 (Ext.blk (NewB.ext n75) (Ext.blk (NewB.ext n72) (Ext.blk (NewB.ext n69) (Ext.blk (NewB.ext n66) (NewB.blk n63)))))) 0 rfl) (w0 rfl) (s_call F_e15 (w0 rfl) ev_f (m1 (ej rfl rfl)) (args := #[.agg #[.string x.p,.slice Ah x.head.length ch,.slice Ab x.body.length cb]]) rfl (p_Rule x Ah Ab ch cb _ ho (Row.extG (Row.extG (Row.extG (Row.extG (Row.extG (Row.extG hrh (NewB.ext n63)) (NewB.ext n66)) (NewB.ext n69)) (NewB.ext n72)) (NewB.ext n75)) x78) (Row.extL (Row.extL (Row.extL (Row.extL (Row.extL (Row.extL hrb (NewB.ext n63)) (NewB.ext n66)) (NewB.ext n69)) (NewB.ext n72)) (NewB.ext n75)) x78) (Tabs.ext tb (Ext.trans (Ext.trans (Ext.trans (Ext.trans (Ext.trans (NewB.ext n63) (NewB.ext n66)) (NewB.ext n69)) (NewB.ext n72)) (NewB.ext n75)) x78)) (RelT.ext tr (Ext.trans (Ext.trans (Ext.trans (Ext.trans (Ext.trans (NewB.ext n63) (NewB.ext n66)) (NewB.ext n69)) (NewB.ext n72)) (NewB.ext n75)) x78)) (FoldT.ext tf (Ext.trans (Ext.trans (Ext.trans (Ext.trans (Ext.trans (NewB.ext n63) (NewB.ext n66)) (NewB.ext n69)) (NewB.ext n72)) (NewB.ext n75)) x78))) ?_))))))
  rintro _ w82 ⟨rfl,x81⟩
  refine s_move (v := .tuple #[.string (if ruB x then ruW x else ⟨#[]⟩),.int .i64 (code (ruB x))]) (ej rfl rfl) (w0 rfl) (s_extract (v := .string (if ruB x then ruW x else ⟨#[]⟩)) (ej rfl rfl) rfl (w0 rfl) (s_extract (v := .int .i64 (code (ruB x))) (ej rfl rfl) rfl (w0 rfl) (s_assign (v := .string (if ruB x then ruW x else ⟨#[]⟩)) (ej rfl rfl) (w0 rfl) (s_assign (v := .int .i64 (code (ruB x))) (ej rfl rfl) (w0 rfl) (c_done (n_then (c_seq (c_reg (s_loadL (cs := [.string y.p,.slice Bh y.head.length dh,.slice Bb y.body.length db]) F_m42 (ej rfl rfl) rfl rfl (blk_cells (Ext.blk x81 (Ext.blk x78 (Ext.blk (NewB.ext n75) (Ext.blk (NewB.ext n72) (Ext.blk (NewB.ext n69) (NewB.blk n66)))))) 0 rfl) (w0 rfl) (s_call F_e15 (w0 rfl) ev_f (m1 (ej rfl rfl)) (args := #[.agg #[.string y.p,.slice Bh y.head.length dh,.slice Bb y.body.length db]]) rfl (p_Rule y Bh Bb dh db _ ho2 (Row.extG (Row.extG (Row.extG (Row.extG (Row.extG (Row.extG (Row.extG hsh (NewB.ext n63)) (NewB.ext n66)) (NewB.ext n69)) (NewB.ext n72)) (NewB.ext n75)) x78) x81) (Row.extL (Row.extL (Row.extL (Row.extL (Row.extL (Row.extL (Row.extL hsb (NewB.ext n63)) (NewB.ext n66)) (NewB.ext n69)) (NewB.ext n72)) (NewB.ext n75)) x78) x81) (Tabs.ext tb (Ext.trans (Ext.trans (Ext.trans (Ext.trans (Ext.trans (Ext.trans (NewB.ext n63) (NewB.ext n66)) (NewB.ext n69)) (NewB.ext n72)) (NewB.ext n75)) x78) x81)) (RelT.ext tr (Ext.trans (Ext.trans (Ext.trans (Ext.trans (Ext.trans (Ext.trans (NewB.ext n63) (NewB.ext n66)) (NewB.ext n69)) (NewB.ext n72)) (NewB.ext n75)) x78) x81)) (FoldT.ext tf (Ext.trans (Ext.trans (Ext.trans (Ext.trans (Ext.trans (Ext.trans (NewB.ext n63) (NewB.ext n66)) (NewB.ext n69)) (NewB.ext n72)) (NewB.ext n75)) x78) x81))) ?_))))))))))
  rintro _ w84 ⟨rfl,x83⟩
  refine s_move (v := .tuple #[.string (if ruB y then ruW y else ⟨#[]⟩),.int .i64 (code (ruB y))]) (ej rfl rfl) (w0 rfl) (s_extract (v := .string (if ruB y then ruW y else ⟨#[]⟩)) (ej rfl rfl) rfl (w0 rfl) (s_extract (v := .int .i64 (code (ruB y))) (ej rfl rfl) rfl (w0 rfl) (s_assign (v := .string (if ruB y then ruW y else ⟨#[]⟩)) (ej rfl rfl) (w0 rfl) (s_assign (v := .int .i64 (code (ruB y))) (ej rfl rfl) (w0 rfl) (c_done (n_then (c_seq (c_seq ?_))))))))
  refine c_cut [31,32,33,34,35,36,37,38,39,40,41,42,43,44,45] 45 ?_ ?_
  · refine c_reg (s_move (v := .int .i64 (code (ruB x))) (ej rfl rfl) (w0 rfl) (s_cmp (r := ruB x) (ej rfl rfl) ev_c (ci_t (b := (ruB x)) (by decide)) (w0 rfl) ?_))
    rcases Bool.eq_false_or_eq_true (ruB x) with h85 | h85
    · refine s_move (v := .bool true) (vb (ej rfl rfl) h85) (w0 rfl) (s_move (v := .int .i64 (code (ruB y))) (ej rfl rfl) (wy rfl rfl rfl rfl) (s_cmp (r := ruB y) (ej rfl rfl) ev_c (ci_t (b := (ruB y)) (by decide)) (wy rfl rfl rfl rfl) (s_pick1 (v := .bool (ruB y)) (ej rfl rfl) (ej rfl rfl) (w0 rfl) ?_)))
      rcases Bool.eq_false_or_eq_true (ruB y) with h86 | h86
      · refine s_move (v := .bool true) (vb (ej rfl rfl) h86) (w0 rfl) (s_move (v := .string (if ruB x then ruW x else ⟨#[]⟩)) (ej rfl rfl) (wy rfl rfl rfl rfl) (s_move (v := .string (if ruB y then ruW y else ⟨#[]⟩)) (ej rfl rfl) (wy rfl rfl rfl rfl) (s_cmpS (r := decide ((if ruB x then ruW x else ⟨#[]⟩) = (if ruB y then ruW y else ⟨#[]⟩))) (ej rfl rfl) (ej rfl rfl) rfl (wy rfl rfl rfl rfl) (s_loadL (cs := [.string x.p,.slice Ah x.head.length ch,.slice Ab x.body.length cb]) F_m42 (ej rfl rfl) rfl rfl (blk_cells (Ext.blk x83 (Ext.blk x81 (Ext.blk x78 (Ext.blk (NewB.ext n75) (Ext.blk (NewB.ext n72) (Ext.blk (NewB.ext n69) (Ext.blk (NewB.ext n66) (NewB.blk n63)))))))) 0 rfl) (wy rfl rfl rfl rfl) (s_loadL (cs := [.string y.p,.slice Bh y.head.length dh,.slice Bb y.body.length db]) F_m42 (ej rfl rfl) rfl rfl (blk_cells (Ext.blk x83 (Ext.blk x81 (Ext.blk x78 (Ext.blk (NewB.ext n75) (Ext.blk (NewB.ext n72) (Ext.blk (NewB.ext n69) (NewB.blk n66))))))) 0 rfl) (wy rfl rfl rfl rfl) (s_call F_e28 (wy rfl rfl rfl rfl) ev_f (m2 (ej rfl rfl) (ej rfl rfl)) (args := #[.agg #[.string x.p,.slice Ah x.head.length ch,.slice Ab x.body.length cb],.agg #[.string y.p,.slice Bh y.head.length dh,.slice Bb y.body.length db]]) rfl (m_SameRule x y Ah Ab ch cb Bh Bb dh db _ ho ho2 (Row.extG (Row.extG (Row.extG (Row.extG (Row.extG (Row.extG (Row.extG (Row.extG hrh (NewB.ext n63)) (NewB.ext n66)) (NewB.ext n69)) (NewB.ext n72)) (NewB.ext n75)) x78) x81) x83) (Row.extL (Row.extL (Row.extL (Row.extL (Row.extL (Row.extL (Row.extL (Row.extL hrb (NewB.ext n63)) (NewB.ext n66)) (NewB.ext n69)) (NewB.ext n72)) (NewB.ext n75)) x78) x81) x83) (Row.extG (Row.extG (Row.extG (Row.extG (Row.extG (Row.extG (Row.extG (Row.extG hsh (NewB.ext n63)) (NewB.ext n66)) (NewB.ext n69)) (NewB.ext n72)) (NewB.ext n75)) x78) x81) x83) (Row.extL (Row.extL (Row.extL (Row.extL (Row.extL (Row.extL (Row.extL (Row.extL hsb (NewB.ext n63)) (NewB.ext n66)) (NewB.ext n69)) (NewB.ext n72)) (NewB.ext n75)) x78) x81) x83)) ?_))))))
        rintro _ w88 ⟨rfl,x87⟩
        refine s_cmpG (r := false) (ej rfl rfl) (ej rfl rfl) (fun w_ => eqbo4 (ru_cmp (by assumption) (by assumption)) _ _ w_) (wy rfl rfl rfl rfl) (s_pick1 (v := .bool false) (ej rfl rfl) (ej rfl rfl) (w0 rfl) (c_done ?_))
        exact ⟨rfl,_,rfl,x87,rfl,fun t_ ht_ => (upd_out ht_ (by decide)).trans ((upd_out ht_ (by decide)).trans ((upd_out ht_ (by decide)).trans ((upd_out ht_ (by decide)).trans ((upd_out ht_ (by decide)).trans ((upd_out ht_ (by decide)).trans ((upd_out ht_ (by decide)).trans ((upd_out ht_ (by decide)).trans ((upd_out ht_ (by decide)).trans ((upd_out ht_ (by decide)).trans ((upd_out ht_ (by decide)).trans ((upd_out ht_ (by decide)).trans ((upd_out ht_ (by decide)).trans ((upd_out ht_ (by decide)).trans ((upd_out ht_ (by decide)).trans rfl))))))))))))))⟩
      refine s_move (v := .bool false) (vb (ej rfl rfl) h86) (w0 rfl) (s_skip (wn rfl rfl rfl rfl rfl) (s_skip (wn rfl rfl rfl rfl rfl) (s_skip (wn rfl rfl rfl rfl rfl) (s_skip (wn rfl rfl rfl rfl rfl) (s_skip (wn rfl rfl rfl rfl rfl) (s_skip (wn rfl rfl rfl rfl rfl) (s_skip (wn rfl rfl rfl rfl rfl) (s_pick0 (v := .bool false) (ej rfl rfl) ev_c (w0 rfl) (c_done ?_)))))))))
      exact ⟨rfl,_,rfl,(Ext.refl w84),rfl,fun t_ ht_ => (upd_out ht_ (by decide)).trans ((upd_out ht_ (by decide)).trans ((upd_out ht_ (by decide)).trans ((upd_out ht_ (by decide)).trans ((upd_out ht_ (by decide)).trans ((upd_out ht_ (by decide)).trans ((upd_out ht_ (by decide)).trans ((upd_out ht_ (by decide)).trans ((upd_out ht_ (by decide)).trans ((upd_out ht_ (by decide)).trans ((upd_out ht_ (by decide)).trans ((upd_out ht_ (by decide)).trans ((upd_out ht_ (by decide)).trans ((upd_out ht_ (by decide)).trans ((upd_out ht_ (by decide)).trans rfl))))))))))))))⟩
    refine s_move (v := .bool false) (vb (ej rfl rfl) h85) (w0 rfl) (s_skip (wn rfl rfl rfl rfl rfl) (s_skip (wn rfl rfl rfl rfl rfl) (s_pick0 (v := .bool false) (ej rfl rfl) ev_c (w0 rfl) (s_move (v := .bool false) (ej rfl rfl) (w0 rfl) (s_skip (wn rfl rfl rfl rfl rfl) (s_skip (wn rfl rfl rfl rfl rfl) (s_skip (wn rfl rfl rfl rfl rfl) (s_skip (wn rfl rfl rfl rfl rfl) (s_skip (wn rfl rfl rfl rfl rfl) (s_skip (wn rfl rfl rfl rfl rfl) (s_skip (wn rfl rfl rfl rfl rfl) ?_)))))))))))
    refine s_pick0 (v := .bool false) (ej rfl rfl) ev_c (w0 rfl) (c_done ?_)
    exact ⟨rfl,_,rfl,(Ext.refl w84),rfl,fun t_ ht_ => (upd_out ht_ (by decide)).trans ((upd_out ht_ (by decide)).trans ((upd_out ht_ (by decide)).trans ((upd_out ht_ (by decide)).trans ((upd_out ht_ (by decide)).trans ((upd_out ht_ (by decide)).trans ((upd_out ht_ (by decide)).trans ((upd_out ht_ (by decide)).trans ((upd_out ht_ (by decide)).trans ((upd_out ht_ (by decide)).trans ((upd_out ht_ (by decide)).trans ((upd_out ht_ (by decide)).trans ((upd_out ht_ (by decide)).trans ((upd_out ht_ (by decide)).trans ((upd_out ht_ (by decide)).trans rfl))))))))))))))⟩
  intro env89 w90 x91 hp92 hf93
  refine n_then (c_cond0 (ej rfl hp92) (c_skip (n_then (c_seq (c_reg (s_move (v := .slice Al l.length cl) (ej rfl ((hf93 2 (by decide)).trans rfl)) (w0 rfl) (s_call F_e17 (w0 rfl) ev_f (m1 (ej rfl rfl)) (args := #[.slice Al l.length cl]) rfl (p_Facts l Al cl _ (by omega) (Row.extF (Row.extF (Row.extF (Row.extF (Row.extF (Row.extF (Row.extF (Row.extF (Row.extF hrl (NewB.ext n63)) (NewB.ext n66)) (NewB.ext n69)) (NewB.ext n72)) (NewB.ext n75)) x78) x81) x83) x91) (by omega) (Tabs.ext tb (Ext.trans (Ext.trans (Ext.trans (Ext.trans (Ext.trans (Ext.trans (Ext.trans (Ext.trans (NewB.ext n63) (NewB.ext n66)) (NewB.ext n69)) (NewB.ext n72)) (NewB.ext n75)) x78) x81) x83) x91)) (KwT.ext tk (Ext.trans (Ext.trans (Ext.trans (Ext.trans (Ext.trans (Ext.trans (Ext.trans (Ext.trans (NewB.ext n63) (NewB.ext n66)) (NewB.ext n69)) (NewB.ext n72)) (NewB.ext n75)) x78) x81) x83) x91))) ?_)))))))
  rintro _ w95 ⟨rfl,x94⟩
  refine s_move (v := .tuple #[.string (if l.all mayB then fsT l else ⟨#[]⟩),.int .i64 (code10 (l.all mayB))]) (ej rfl rfl) (w0 rfl) (s_extract (v := .string (if l.all mayB then fsT l else ⟨#[]⟩)) (ej rfl rfl) rfl (w0 rfl) (s_extract (v := .int .i64 (code10 (l.all mayB))) (ej rfl rfl) rfl (w0 rfl) (s_assign (v := .string (if l.all mayB then fsT l else ⟨#[]⟩)) (ej rfl rfl) (w0 rfl) (s_assign (v := .int .i64 (code10 (l.all mayB))) (ej rfl rfl) (w0 rfl) (c_done (n_then (c_seq (c_reg (s_move (v := .slice Al2 l2.length cl2) (ej rfl ((hf93 3 (by decide)).trans rfl)) (w0 rfl) (s_call F_e17 (w0 rfl) ev_f (m1 (ej rfl rfl)) (args := #[.slice Al2 l2.length cl2]) rfl (p_Facts l2 Al2 cl2 _ (by omega) (Row.extF (Row.extF (Row.extF (Row.extF (Row.extF (Row.extF (Row.extF (Row.extF (Row.extF (Row.extF hrl2 (NewB.ext n63)) (NewB.ext n66)) (NewB.ext n69)) (NewB.ext n72)) (NewB.ext n75)) x78) x81) x83) x91) x94) (by omega) (Tabs.ext tb (Ext.trans (Ext.trans (Ext.trans (Ext.trans (Ext.trans (Ext.trans (Ext.trans (Ext.trans (Ext.trans (NewB.ext n63) (NewB.ext n66)) (NewB.ext n69)) (NewB.ext n72)) (NewB.ext n75)) x78) x81) x83) x91) x94)) (KwT.ext tk (Ext.trans (Ext.trans (Ext.trans (Ext.trans (Ext.trans (Ext.trans (Ext.trans (Ext.trans (Ext.trans (NewB.ext n63) (NewB.ext n66)) (NewB.ext n69)) (NewB.ext n72)) (NewB.ext n75)) x78) x81) x83) x91) x94))) ?_))))))))))
  rintro _ w97 ⟨rfl,x96⟩
  refine s_move (v := .tuple #[.string (if l2.all mayB then fsT l2 else ⟨#[]⟩),.int .i64 (code10 (l2.all mayB))]) (ej rfl rfl) (w0 rfl) (s_extract (v := .string (if l2.all mayB then fsT l2 else ⟨#[]⟩)) (ej rfl rfl) rfl (w0 rfl) (s_extract (v := .int .i64 (code10 (l2.all mayB))) (ej rfl rfl) rfl (w0 rfl) (s_assign (v := .string (if l2.all mayB then fsT l2 else ⟨#[]⟩)) (ej rfl rfl) (w0 rfl) (s_assign (v := .int .i64 (code10 (l2.all mayB))) (ej rfl rfl) (w0 rfl) (c_done (n_then (c_seq (c_seq ?_))))))))
  refine c_cut [56,57,58,59,60,61,62,63,64,65,66,67,68,69,70] 70 ?_ ?_
  · refine c_reg (s_move (v := .int .i64 (code10 (l.all mayB))) (ej rfl rfl) (w0 rfl) (s_cmp (r := (l.all mayB)) (ej rfl rfl) ev_c (ci_t (b := (l.all mayB)) (by decide)) (w0 rfl) ?_))
    rcases Bool.eq_false_or_eq_true (l.all mayB) with h98 | h98
    · refine s_move (v := .bool true) (vb (ej rfl rfl) h98) (w0 rfl) (s_move (v := .int .i64 (code10 (l2.all mayB))) (ej rfl rfl) (wy rfl rfl rfl rfl) (s_cmp (r := (l2.all mayB)) (ej rfl rfl) ev_c (ci_t (b := (l2.all mayB)) (by decide)) (wy rfl rfl rfl rfl) (s_pick1 (v := .bool (l2.all mayB)) (ej rfl rfl) (ej rfl rfl) (w0 rfl) ?_)))
      rcases Bool.eq_false_or_eq_true (l2.all mayB) with h99 | h99
      · refine s_move (v := .bool true) (vb (ej rfl rfl) h99) (w0 rfl) (s_move (v := .string (if l.all mayB then fsT l else ⟨#[]⟩)) (ej rfl rfl) (wy rfl rfl rfl rfl) (s_move (v := .string (if l2.all mayB then fsT l2 else ⟨#[]⟩)) (ej rfl rfl) (wy rfl rfl rfl rfl) (s_cmpS (r := decide ((if l.all mayB then fsT l else ⟨#[]⟩) = (if l2.all mayB then fsT l2 else ⟨#[]⟩))) (ej rfl rfl) (ej rfl rfl) rfl (wy rfl rfl rfl rfl) (s_move (v := .slice Al l.length cl) (ej rfl ((hf93 2 (by decide)).trans rfl)) (wy rfl rfl rfl rfl) (s_move (v := .slice Al2 l2.length cl2) (ej rfl ((hf93 3 (by decide)).trans rfl)) (wy rfl rfl rfl rfl) (s_call F_e29 (wy rfl rfl rfl rfl) ev_f (m2 (ej rfl rfl) (ej rfl rfl)) (args := #[.slice Al l.length cl,.slice Al2 l2.length cl2]) rfl (m_SameFacts l l2 Al Al2 cl cl2 _ (by omega) (by omega) (Row.extF (Row.extF (Row.extF (Row.extF (Row.extF (Row.extF (Row.extF (Row.extF (Row.extF (Row.extF (Row.extF hrl (NewB.ext n63)) (NewB.ext n66)) (NewB.ext n69)) (NewB.ext n72)) (NewB.ext n75)) x78) x81) x83) x91) x94) x96) (Row.extF (Row.extF (Row.extF (Row.extF (Row.extF (Row.extF (Row.extF (Row.extF (Row.extF (Row.extF (Row.extF hrl2 (NewB.ext n63)) (NewB.ext n66)) (NewB.ext n69)) (NewB.ext n72)) (NewB.ext n75)) x78) x81) x83) x91) x94) x96)) ?_))))))
        rintro _ w101 ⟨rfl,x100⟩
        refine s_cmpG (r := false) (ej rfl rfl) (ej rfl rfl) (fun w_ => eqbo4 (fs_cmp (by assumption) (by assumption)) _ _ w_) (wy rfl rfl rfl rfl) (s_pick1 (v := .bool false) (ej rfl rfl) (ej rfl rfl) (w0 rfl) (c_done ?_))
        exact ⟨rfl,_,rfl,x100,rfl,fun t_ ht_ => (upd_out ht_ (by decide)).trans ((upd_out ht_ (by decide)).trans ((upd_out ht_ (by decide)).trans ((upd_out ht_ (by decide)).trans ((upd_out ht_ (by decide)).trans ((upd_out ht_ (by decide)).trans ((upd_out ht_ (by decide)).trans ((upd_out ht_ (by decide)).trans ((upd_out ht_ (by decide)).trans ((upd_out ht_ (by decide)).trans ((upd_out ht_ (by decide)).trans ((upd_out ht_ (by decide)).trans ((upd_out ht_ (by decide)).trans ((upd_out ht_ (by decide)).trans ((upd_out ht_ (by decide)).trans rfl))))))))))))))⟩
      refine s_move (v := .bool false) (vb (ej rfl rfl) h99) (w0 rfl) (s_skip (wn rfl rfl rfl rfl rfl) (s_skip (wn rfl rfl rfl rfl rfl) (s_skip (wn rfl rfl rfl rfl rfl) (s_skip (wn rfl rfl rfl rfl rfl) (s_skip (wn rfl rfl rfl rfl rfl) (s_skip (wn rfl rfl rfl rfl rfl) (s_skip (wn rfl rfl rfl rfl rfl) (s_pick0 (v := .bool false) (ej rfl rfl) ev_c (w0 rfl) (c_done ?_)))))))))
      exact ⟨rfl,_,rfl,(Ext.refl w97),rfl,fun t_ ht_ => (upd_out ht_ (by decide)).trans ((upd_out ht_ (by decide)).trans ((upd_out ht_ (by decide)).trans ((upd_out ht_ (by decide)).trans ((upd_out ht_ (by decide)).trans ((upd_out ht_ (by decide)).trans ((upd_out ht_ (by decide)).trans ((upd_out ht_ (by decide)).trans ((upd_out ht_ (by decide)).trans ((upd_out ht_ (by decide)).trans ((upd_out ht_ (by decide)).trans ((upd_out ht_ (by decide)).trans ((upd_out ht_ (by decide)).trans ((upd_out ht_ (by decide)).trans ((upd_out ht_ (by decide)).trans rfl))))))))))))))⟩
    refine s_move (v := .bool false) (vb (ej rfl rfl) h98) (w0 rfl) (s_skip (wn rfl rfl rfl rfl rfl) (s_skip (wn rfl rfl rfl rfl rfl) (s_pick0 (v := .bool false) (ej rfl rfl) ev_c (w0 rfl) (s_move (v := .bool false) (ej rfl rfl) (w0 rfl) (s_skip (wn rfl rfl rfl rfl rfl) (s_skip (wn rfl rfl rfl rfl rfl) (s_skip (wn rfl rfl rfl rfl rfl) (s_skip (wn rfl rfl rfl rfl rfl) (s_skip (wn rfl rfl rfl rfl rfl) (s_skip (wn rfl rfl rfl rfl rfl) (s_skip (wn rfl rfl rfl rfl rfl) ?_)))))))))))
    refine s_pick0 (v := .bool false) (ej rfl rfl) ev_c (w0 rfl) (c_done ?_)
    exact ⟨rfl,_,rfl,(Ext.refl w97),rfl,fun t_ ht_ => (upd_out ht_ (by decide)).trans ((upd_out ht_ (by decide)).trans ((upd_out ht_ (by decide)).trans ((upd_out ht_ (by decide)).trans ((upd_out ht_ (by decide)).trans ((upd_out ht_ (by decide)).trans ((upd_out ht_ (by decide)).trans ((upd_out ht_ (by decide)).trans ((upd_out ht_ (by decide)).trans ((upd_out ht_ (by decide)).trans ((upd_out ht_ (by decide)).trans ((upd_out ht_ (by decide)).trans ((upd_out ht_ (by decide)).trans ((upd_out ht_ (by decide)).trans ((upd_out ht_ (by decide)).trans rfl))))))))))))))⟩
  intro env102 w103 x104 hp105 hf106
  refine n_then (c_cond0 (ej rfl hp105) (c_skip (n_then (c_seq (c_reg (s_loadL (cs := [.string qa.p,.slice Aq qa.args.length cq]) F_m46 (ej rfl ((hf106 10 (by decide)).trans ((hf93 10 (by decide)).trans rfl))) rfl rfl (blk_cells (Ext.blk x104 (Ext.blk x96 (Ext.blk x94 (Ext.blk x91 (Ext.blk x83 (Ext.blk x81 (Ext.blk x78 (Ext.blk (NewB.ext n75) (Ext.blk (NewB.ext n72) (NewB.blk n69)))))))))) 0 rfl) (w0 rfl) (s_call F_e30 (w0 rfl) ev_f (m1 (ej rfl rfl)) (args := #[.agg #[.string qa.p,.slice Aq qa.args.length cq]]) rfl (p_Query qa Aq cq _ hoq (Row.extT (Row.extT (Row.extT (Row.extT (Row.extT (Row.extT (Row.extT (Row.extT (Row.extT (Row.extT (Row.extT (Row.extT hrq (NewB.ext n63)) (NewB.ext n66)) (NewB.ext n69)) (NewB.ext n72)) (NewB.ext n75)) x78) x81) x83) x91) x94) x96) x104) (Tabs.ext tb (Ext.trans (Ext.trans (Ext.trans (Ext.trans (Ext.trans (Ext.trans (Ext.trans (Ext.trans (Ext.trans (Ext.trans (Ext.trans (NewB.ext n63) (NewB.ext n66)) (NewB.ext n69)) (NewB.ext n72)) (NewB.ext n75)) x78) x81) x83) x91) x94) x96) x104))) ?_)))))))
  rintro _ w108 ⟨rfl,x107⟩
  refine s_move (v := .tuple #[.string (if atB qa then atW qa ++ ⟨#[63]⟩ else ⟨#[]⟩),.int .i64 (code (atB qa))]) (ej rfl rfl) (w0 rfl) (s_extract (v := .string (if atB qa then atW qa ++ ⟨#[63]⟩ else ⟨#[]⟩)) (ej rfl rfl) rfl (w0 rfl) (s_extract (v := .int .i64 (code (atB qa))) (ej rfl rfl) rfl (w0 rfl) (s_assign (v := .string (if atB qa then atW qa ++ ⟨#[63]⟩ else ⟨#[]⟩)) (ej rfl rfl) (w0 rfl) (s_assign (v := .int .i64 (code (atB qa))) (ej rfl rfl) (w0 rfl) (c_done (n_then (c_seq (c_reg (s_loadL (cs := [.string qb.p,.slice Aq2 qb.args.length cq2]) F_m46 (ej rfl ((hf106 11 (by decide)).trans ((hf93 11 (by decide)).trans rfl))) rfl rfl (blk_cells (Ext.blk x107 (Ext.blk x104 (Ext.blk x96 (Ext.blk x94 (Ext.blk x91 (Ext.blk x83 (Ext.blk x81 (Ext.blk x78 (Ext.blk (NewB.ext n75) (NewB.blk n72)))))))))) 0 rfl) (w0 rfl) (s_call F_e30 (w0 rfl) ev_f (m1 (ej rfl rfl)) (args := #[.agg #[.string qb.p,.slice Aq2 qb.args.length cq2]]) rfl (p_Query qb Aq2 cq2 _ hoq2 (Row.extT (Row.extT (Row.extT (Row.extT (Row.extT (Row.extT (Row.extT (Row.extT (Row.extT (Row.extT (Row.extT (Row.extT (Row.extT hrq2 (NewB.ext n63)) (NewB.ext n66)) (NewB.ext n69)) (NewB.ext n72)) (NewB.ext n75)) x78) x81) x83) x91) x94) x96) x104) x107) (Tabs.ext tb (Ext.trans (Ext.trans (Ext.trans (Ext.trans (Ext.trans (Ext.trans (Ext.trans (Ext.trans (Ext.trans (Ext.trans (Ext.trans (Ext.trans (NewB.ext n63) (NewB.ext n66)) (NewB.ext n69)) (NewB.ext n72)) (NewB.ext n75)) x78) x81) x83) x91) x94) x96) x104) x107))) ?_))))))))))
  rintro _ w110 ⟨rfl,x109⟩
  refine s_move (v := .tuple #[.string (if atB qb then atW qb ++ ⟨#[63]⟩ else ⟨#[]⟩),.int .i64 (code (atB qb))]) (ej rfl rfl) (w0 rfl) (s_extract (v := .string (if atB qb then atW qb ++ ⟨#[63]⟩ else ⟨#[]⟩)) (ej rfl rfl) rfl (w0 rfl) (s_extract (v := .int .i64 (code (atB qb))) (ej rfl rfl) rfl (w0 rfl) (s_assign (v := .string (if atB qb then atW qb ++ ⟨#[63]⟩ else ⟨#[]⟩)) (ej rfl rfl) (w0 rfl) (s_assign (v := .int .i64 (code (atB qb))) (ej rfl rfl) (w0 rfl) (c_done (n_then (c_seq (c_seq ?_))))))))
  refine c_cut [81,82,83,84,85,86,87,88,89,90,91,92,93,94,95] 95 ?_ ?_
  · refine c_reg (s_move (v := .int .i64 (code (atB qa))) (ej rfl rfl) (w0 rfl) (s_cmp (r := atB qa) (ej rfl rfl) ev_c (ci_t (b := (atB qa)) (by decide)) (w0 rfl) ?_))
    rcases Bool.eq_false_or_eq_true (atB qa) with h111 | h111
    · refine s_move (v := .bool true) (vb (ej rfl rfl) h111) (w0 rfl) (s_move (v := .int .i64 (code (atB qb))) (ej rfl rfl) (wy rfl rfl rfl rfl) (s_cmp (r := atB qb) (ej rfl rfl) ev_c (ci_t (b := (atB qb)) (by decide)) (wy rfl rfl rfl rfl) (s_pick1 (v := .bool (atB qb)) (ej rfl rfl) (ej rfl rfl) (w0 rfl) ?_)))
      rcases Bool.eq_false_or_eq_true (atB qb) with h112 | h112
      · refine s_move (v := .bool true) (vb (ej rfl rfl) h112) (w0 rfl) (s_move (v := .string (if atB qa then atW qa ++ ⟨#[63]⟩ else ⟨#[]⟩)) (ej rfl rfl) (wy rfl rfl rfl rfl) (s_move (v := .string (if atB qb then atW qb ++ ⟨#[63]⟩ else ⟨#[]⟩)) (ej rfl rfl) (wy rfl rfl rfl rfl) (s_cmpS (r := decide ((if atB qa then atW qa ++ ⟨#[63]⟩ else ⟨#[]⟩) = (if atB qb then atW qb ++ ⟨#[63]⟩ else ⟨#[]⟩))) (ej rfl rfl) (ej rfl rfl) rfl (wy rfl rfl rfl rfl) (s_loadL (cs := [.string qa.p,.slice Aq qa.args.length cq]) F_m46 (ej rfl ((hf106 10 (by decide)).trans ((hf93 10 (by decide)).trans rfl))) rfl rfl (blk_cells (Ext.blk x109 (Ext.blk x107 (Ext.blk x104 (Ext.blk x96 (Ext.blk x94 (Ext.blk x91 (Ext.blk x83 (Ext.blk x81 (Ext.blk x78 (Ext.blk (NewB.ext n75) (Ext.blk (NewB.ext n72) (NewB.blk n69)))))))))))) 0 rfl) (wy rfl rfl rfl rfl) (s_loadL (cs := [.string qb.p,.slice Aq2 qb.args.length cq2]) F_m46 (ej rfl ((hf106 11 (by decide)).trans ((hf93 11 (by decide)).trans rfl))) rfl rfl (blk_cells (Ext.blk x109 (Ext.blk x107 (Ext.blk x104 (Ext.blk x96 (Ext.blk x94 (Ext.blk x91 (Ext.blk x83 (Ext.blk x81 (Ext.blk x78 (Ext.blk (NewB.ext n75) (NewB.blk n72))))))))))) 0 rfl) (wy rfl rfl rfl rfl) (s_call F_e31 (wy rfl rfl rfl rfl) ev_f (m2 (ej rfl rfl) (ej rfl rfl)) (args := #[.agg #[.string qa.p,.slice Aq qa.args.length cq],.agg #[.string qb.p,.slice Aq2 qb.args.length cq2]]) rfl (m_SameAtom qa qb Aq Aq2 cq cq2 _ hoq hoq2 (Row.extT (Row.extT (Row.extT (Row.extT (Row.extT (Row.extT (Row.extT (Row.extT (Row.extT (Row.extT (Row.extT (Row.extT (Row.extT (Row.extT hrq (NewB.ext n63)) (NewB.ext n66)) (NewB.ext n69)) (NewB.ext n72)) (NewB.ext n75)) x78) x81) x83) x91) x94) x96) x104) x107) x109) (Row.extT (Row.extT (Row.extT (Row.extT (Row.extT (Row.extT (Row.extT (Row.extT (Row.extT (Row.extT (Row.extT (Row.extT (Row.extT (Row.extT hrq2 (NewB.ext n63)) (NewB.ext n66)) (NewB.ext n69)) (NewB.ext n72)) (NewB.ext n75)) x78) x81) x83) x91) x94) x96) x104) x107) x109)) ?_))))))
        rintro _ w114 ⟨rfl,x113⟩
        refine s_cmpG (r := false) (ej rfl rfl) (ej rfl rfl) (fun w_ => eqbo4 (q_cmp (by assumption) (by assumption)) _ _ w_) (wy rfl rfl rfl rfl) (s_pick1 (v := .bool false) (ej rfl rfl) (ej rfl rfl) (w0 rfl) (c_done ?_))
        exact ⟨rfl,_,rfl,x113,rfl,fun t_ ht_ => (upd_out ht_ (by decide)).trans ((upd_out ht_ (by decide)).trans ((upd_out ht_ (by decide)).trans ((upd_out ht_ (by decide)).trans ((upd_out ht_ (by decide)).trans ((upd_out ht_ (by decide)).trans ((upd_out ht_ (by decide)).trans ((upd_out ht_ (by decide)).trans ((upd_out ht_ (by decide)).trans ((upd_out ht_ (by decide)).trans ((upd_out ht_ (by decide)).trans ((upd_out ht_ (by decide)).trans ((upd_out ht_ (by decide)).trans ((upd_out ht_ (by decide)).trans ((upd_out ht_ (by decide)).trans rfl))))))))))))))⟩
      refine s_move (v := .bool false) (vb (ej rfl rfl) h112) (w0 rfl) (s_skip (wn rfl rfl rfl rfl rfl) (s_skip (wn rfl rfl rfl rfl rfl) (s_skip (wn rfl rfl rfl rfl rfl) (s_skip (wn rfl rfl rfl rfl rfl) (s_skip (wn rfl rfl rfl rfl rfl) (s_skip (wn rfl rfl rfl rfl rfl) (s_skip (wn rfl rfl rfl rfl rfl) (s_pick0 (v := .bool false) (ej rfl rfl) ev_c (w0 rfl) (c_done ?_)))))))))
      exact ⟨rfl,_,rfl,(Ext.refl w110),rfl,fun t_ ht_ => (upd_out ht_ (by decide)).trans ((upd_out ht_ (by decide)).trans ((upd_out ht_ (by decide)).trans ((upd_out ht_ (by decide)).trans ((upd_out ht_ (by decide)).trans ((upd_out ht_ (by decide)).trans ((upd_out ht_ (by decide)).trans ((upd_out ht_ (by decide)).trans ((upd_out ht_ (by decide)).trans ((upd_out ht_ (by decide)).trans ((upd_out ht_ (by decide)).trans ((upd_out ht_ (by decide)).trans ((upd_out ht_ (by decide)).trans ((upd_out ht_ (by decide)).trans ((upd_out ht_ (by decide)).trans rfl))))))))))))))⟩
    refine s_move (v := .bool false) (vb (ej rfl rfl) h111) (w0 rfl) (s_skip (wn rfl rfl rfl rfl rfl) (s_skip (wn rfl rfl rfl rfl rfl) (s_pick0 (v := .bool false) (ej rfl rfl) ev_c (w0 rfl) (s_move (v := .bool false) (ej rfl rfl) (w0 rfl) (s_skip (wn rfl rfl rfl rfl rfl) (s_skip (wn rfl rfl rfl rfl rfl) (s_skip (wn rfl rfl rfl rfl rfl) (s_skip (wn rfl rfl rfl rfl rfl) (s_skip (wn rfl rfl rfl rfl rfl) (s_skip (wn rfl rfl rfl rfl rfl) (s_skip (wn rfl rfl rfl rfl rfl) ?_)))))))))))
    refine s_pick0 (v := .bool false) (ej rfl rfl) ev_c (w0 rfl) (c_done ?_)
    exact ⟨rfl,_,rfl,(Ext.refl w110),rfl,fun t_ ht_ => (upd_out ht_ (by decide)).trans ((upd_out ht_ (by decide)).trans ((upd_out ht_ (by decide)).trans ((upd_out ht_ (by decide)).trans ((upd_out ht_ (by decide)).trans ((upd_out ht_ (by decide)).trans ((upd_out ht_ (by decide)).trans ((upd_out ht_ (by decide)).trans ((upd_out ht_ (by decide)).trans ((upd_out ht_ (by decide)).trans ((upd_out ht_ (by decide)).trans ((upd_out ht_ (by decide)).trans ((upd_out ht_ (by decide)).trans ((upd_out ht_ (by decide)).trans ((upd_out ht_ (by decide)).trans rfl))))))))))))))⟩
  intro env115 w116 x117 hp118 hf119
  refine n_then (c_cond0 (ej rfl hp118) (c_skip (n_then (c_seq (c_reg (s_call F_e11 (w0 rfl) ev_f m0 (args := #[]) rfl (l_lives _ (Tabs.ext tb (Ext.trans (Ext.trans (Ext.trans (Ext.trans (Ext.trans (Ext.trans (Ext.trans (Ext.trans (Ext.trans (Ext.trans (Ext.trans (Ext.trans (Ext.trans (Ext.trans (NewB.ext n63) (NewB.ext n66)) (NewB.ext n69)) (NewB.ext n72)) (NewB.ext n75)) x78) x81) x83) x91) x94) x96) x104) x107) x109) x117))) ?_))))))
  rintro _ w121 ⟨rfl,x120⟩
  refine s_assign (v := .bool true) (ej rfl rfl) (w0 rfl) (c_done (n_then (c_ret (ret1 (v := .bool true) rfl rfl rfl ?_))))
  refine ⟨_,rfl,?_,(Ext.trans (Ext.trans (Ext.trans (Ext.trans (Ext.trans (Ext.trans (Ext.trans (Ext.trans (Ext.trans (Ext.trans (Ext.trans (Ext.trans (Ext.trans (Ext.trans (Ext.trans (NewB.ext n63) (NewB.ext n66)) (NewB.ext n69)) (NewB.ext n72)) (NewB.ext n75)) x78) x81) x83) x91) x94) x96) x104) x107) x109) x117) x120)⟩
  rfl
theorem l_PrintUnlike (x y : Ru) (Ah Ab : Option Addr) (ch cb : Nat) (Bh Bb : Option Addr) (dh db : Nat) (l l2 : List Fc) (Al Al2 : Option Addr) (cl cl2 : Nat) (qa qb : At) (Aq Aq2 : Option Addr) (cq cq2 : Nat) (w : World) (ho : x.okc ch cb) (ho2 : y.okc dh db) (hrh : Row RG 5 w Ah x.head) (hrb : Row RL 16 w Ab x.body) (hsh : Row RG 5 w Bh y.head) (hsb : Row RL 16 w Bb y.body) (hfl : l.length ≤ 1048577) (hfl2 : l2.length ≤ 1048577) (hrl : Row RF 2 w Al l) (hrl2 : Row RF 2 w Al2 l2) (hoq : qa.okc cq) (hoq2 : qb.okc cq2) (hrq : Row RT 4 w Aq qa.args) (hrq2 : Row RT 4 w Aq2 qb.args) (tb : Tabs Tryd.prog w) (tr : RelT Tryd.prog w) (tf : FoldT Tryd.prog w) (tk : KwT Tryd.prog w) :
    Rt Tryd.prog 4 #[.agg #[.string x.p,.slice Ah x.head.length ch,.slice Ab x.body.length cb,.string y.p,.slice Bh y.head.length dh,.slice Bb y.body.length db,.slice Al l.length cl,.slice Al2 l2.length cl2,.string qa.p,.slice Aq qa.args.length cq,.string qb.p,.slice Aq2 qb.args.length cq2]] w fun v w' => v = .bool true ∧ Ext w w' := by
  refine enter Tryd.func4 rfl (l := [.agg #[.string x.p,.slice Ah x.head.length ch,.slice Ab x.body.length cb,.string y.p,.slice Bh y.head.length dh,.slice Bb y.body.length db,.slice Al l.length cl,.slice Al2 l2.length cl2,.string qa.p,.slice Aq qa.args.length cq,.string qb.p,.slice Aq2 qb.args.length cq2]]) rfl Tryd.ntmps4 (Nat.le_of_ble_eq_true rfl) ?_
  have hp_x := Ru.okc.p ho
  have hhl_x := Ru.okc.hl ho
  have hhc_x := Ru.okc.hc ho
  have hbl_x := Ru.okc.bl ho
  have hbc_x := Ru.okc.bc ho
  have hp_y := Ru.okc.p ho2
  have hhl_y := Ru.okc.hl ho2
  have hhc_y := Ru.okc.hc ho2
  have hbl_y := Ru.okc.bl ho2
  have hbc_y := Ru.okc.bc ho2
  have hp_qa := At.okc.p hoq
  have hl_qa := At.okc.l hoq
  have hc_qa := At.okc.c hoq
  have hp_qb := At.okc.p hoq2
  have hl_qb := At.okc.l hoq2
  have hc_qb := At.okc.c hoq2
  refine c_seq (c_reg (s_box (v := .agg #[.string x.p,.slice Ah x.head.length ch,.slice Ab x.body.length cb,.string y.p,.slice Bh y.head.length dh,.slice Bb y.body.length db,.slice Al l.length cl,.slice Al2 l2.length cl2,.string qa.p,.slice Aq qa.args.length cq,.string qb.p,.slice Aq2 qb.args.length cq2]) (cs := #[.string x.p,.slice Ah x.head.length ch,.slice Ab x.body.length cb,.string y.p,.slice Bh y.head.length dh,.slice Bb y.body.length db,.slice Al l.length cl,.slice Al2 l2.length cl2,.string qa.p,.slice Aq qa.args.length cq,.string qb.p,.slice Aq2 qb.args.length cq2]) (w0 rfl) (ej rfl rfl) rfl ?_))
  intro w62 g61 n63
  refine s_assign (v := .bool false) ev_c (w0 rfl) (c_done (n_then (c_seq (c_reg (s_field (off := 0) (o' := 0) F_f48_0 (ej rfl rfl) rfl (w0 rfl) (s_loadL (cs := [.string x.p,.slice Ah x.head.length ch,.slice Ab x.body.length cb]) F_m42 (ej rfl rfl) rfl rfl (blk_cells (NewB.blk n63) 0 rfl) (w0 rfl) (s_field (off := 3) (o' := 3) F_f48_1 (ej rfl rfl) rfl (w0 rfl) (s_loadL (cs := [.string y.p,.slice Bh y.head.length dh,.slice Bb y.body.length db]) F_m42 (ej rfl rfl) rfl rfl (blk_cells (NewB.blk n63) 3 rfl) (w0 rfl) (s_field (off := 6) (o' := 6) F_f48_2 (ej rfl rfl) rfl (w0 rfl) (s_load (v := .slice Al l.length cl) F_o43 (ej rfl rfl) (cell_of_blk (i := 6) (NewB.blk n63) rfl) (w0 rfl) (s_field (off := 7) (o' := 7) F_f48_3 (ej rfl rfl) rfl (w0 rfl) ?_)))))))))))
  refine s_load (v := .slice Al2 l2.length cl2) F_o43 (ej rfl rfl) (cell_of_blk (i := 7) (NewB.blk n63) rfl) (w0 rfl) (s_field (off := 8) (o' := 8) F_f48_4 (ej rfl rfl) rfl (w0 rfl) (s_loadL (cs := [.string qa.p,.slice Aq qa.args.length cq]) F_m46 (ej rfl rfl) rfl rfl (blk_cells (NewB.blk n63) 8 rfl) (w0 rfl) (s_field (off := 10) (o' := 10) F_f48_5 (ej rfl rfl) rfl (w0 rfl) (s_loadL (cs := [.string qb.p,.slice Aq2 qb.args.length cq2]) F_m46 (ej rfl rfl) rfl rfl (blk_cells (NewB.blk n63) 10 rfl) (w0 rfl) (s_call F_e12 (w0 rfl) ev_f (m6 (ej rfl rfl) (ej rfl rfl) (ej rfl rfl) (ej rfl rfl) (ej rfl rfl) (ej rfl rfl)) (args := #[.agg #[.string x.p,.slice Ah x.head.length ch,.slice Ab x.body.length cb],.agg #[.string y.p,.slice Bh y.head.length dh,.slice Bb y.body.length db],.slice Al l.length cl,.slice Al2 l2.length cl2,.agg #[.string qa.p,.slice Aq qa.args.length cq],.agg #[.string qb.p,.slice Aq2 qb.args.length cq2]]) rfl (l_apart x y Ah Ab ch cb Bh Bb dh db l l2 Al Al2 cl cl2 qa qb Aq Aq2 cq cq2 _ ho ho2 (Row.extG hrh (NewB.ext n63)) (Row.extL hrb (NewB.ext n63)) (Row.extG hsh (NewB.ext n63)) (Row.extL hsb (NewB.ext n63)) hfl hfl2 (Row.extF hrl (NewB.ext n63)) (Row.extF hrl2 (NewB.ext n63)) hoq hoq2 (Row.extT hrq (NewB.ext n63)) (Row.extT hrq2 (NewB.ext n63)) (Tabs.ext tb (NewB.ext n63)) (RelT.ext tr (NewB.ext n63)) (FoldT.ext tf (NewB.ext n63)) (KwT.ext tk (NewB.ext n63))) ?_)))))
  rintro _ w65 ⟨rfl,x64⟩
  refine s_assign (v := .bool true) (ej rfl rfl) (w0 rfl) (c_done (n_then (c_ret (ret1 (v := .bool true) rfl rfl rfl ?_))))
  refine ⟨_,rfl,?_,(Ext.trans (NewB.ext n63) x64)⟩
  rfl
end Go.Proofs.Dw

set_option linter.unusedVariables false
set_option linter.unusedSimpArgs false
set_option maxRecDepth 10000
namespace Go.Proofs.Dw
open Go Go.Wk Go.Proofs Go.Lib Go.ChangeShapes Go.WideShapes Go.RowKit
section
variable {H : Type} {enc : TypeId × Value → H} {w : World} {sp : Nat → Bool} {held : Bool}
theorem ce2 : Tryd.prog.cellsOf 2 = 1 := by kernel_rfl
theorem ce9 : Tryd.prog.cellsOf 9 = 1 := by kernel_rfl
theorem ce23 : Tryd.prog.cellsOf 23 = 1 := by kernel_rfl
theorem ce24 : Tryd.prog.cellsOf 24 = 1 := by kernel_rfl
theorem ce26 : Tryd.prog.cellsOf 26 = 3 := by kernel_rfl
theorem ce28 : Tryd.prog.cellsOf 28 = 4 := by kernel_rfl
theorem ce29 : Tryd.prog.cellsOf 29 = 1 := by kernel_rfl
theorem ce31 : Tryd.prog.cellsOf 31 = 6 := by kernel_rfl
theorem ce39 : Tryd.prog.cellsOf 39 = 1 := by kernel_rfl
theorem ce40 : Tryd.prog.cellsOf 40 = 1 := by kernel_rfl
theorem ce42 : Tryd.prog.cellsOf 42 = 3 := by kernel_rfl
theorem ce43 : Tryd.prog.cellsOf 43 = 1 := by kernel_rfl
theorem ce44 : Tryd.prog.cellsOf 44 = 1 := by kernel_rfl
theorem ce46 : Tryd.prog.cellsOf 46 = 2 := by kernel_rfl
theorem ce48 : Tryd.prog.cellsOf 48 = 12 := by kernel_rfl
theorem ce59 : Tryd.prog.cellsOf 59 = 1 := by kernel_rfl
theorem ce61 : Tryd.prog.cellsOf 61 = 2 := by kernel_rfl
theorem ce62 : Tryd.prog.cellsOf 62 = 1 := by kernel_rfl
theorem ce64 : Tryd.prog.cellsOf 64 = 5 := by kernel_rfl
theorem ce117 : Tryd.prog.cellsOf 117 = 1 := by kernel_rfl
theorem ce118 : Tryd.prog.cellsOf 118 = 1 := by kernel_rfl
theorem ce120 : Tryd.prog.cellsOf 120 = 16 := by kernel_rfl
theorem by26 : Tryd.prog.bytesOf 26 = 32 := by kernel_rfl
theorem by28 : Tryd.prog.bytesOf 28 = 48 := by kernel_rfl
theorem by31 : Tryd.prog.bytesOf 31 = 80 := by kernel_rfl
theorem by61 : Tryd.prog.bytesOf 61 = 40 := by kernel_rfl
theorem by64 : Tryd.prog.bytesOf 64 = 56 := by kernel_rfl
theorem by120 : Tryd.prog.bytesOf 120 = 216 := by kernel_rfl
theorem len2 {l : List Value} (h : l.length = 2) : ∃ u0 u1,l = [u0,u1] := by
  match l,h with | [u0,u1],_ => exact ⟨u0,u1,rfl⟩
theorem len3 {l : List Value} (h : l.length = 3) : ∃ u0 u1 u2,l = [u0,u1,u2] := by
  match l,h with | [u0,u1,u2],_ => exact ⟨u0,u1,u2,rfl⟩
theorem len4 {l : List Value} (h : l.length = 4) : ∃ u0 u1 u2 u3,l = [u0,u1,u2,u3] := by
  match l,h with | [u0,u1,u2,u3],_ => exact ⟨u0,u1,u2,u3,rfl⟩
theorem len5 {l : List Value} (h : l.length = 5) : ∃ u0 u1 u2 u3 u4,l = [u0,u1,u2,u3,u4] := by
  match l,h with | [u0,u1,u2,u3,u4],_ => exact ⟨u0,u1,u2,u3,u4,rfl⟩
theorem len6 {l : List Value} (h : l.length = 6) : ∃ u0 u1 u2 u3 u4 u5,l = [u0,u1,u2,u3,u4,u5] := by
  match l,h with | [u0,u1,u2,u3,u4,u5],_ => exact ⟨u0,u1,u2,u3,u4,u5,rfl⟩
theorem len12 {l : List Value} (h : l.length = 12) : ∃ u0 u1 u2 u3 u4 u5 u6 u7 u8 u9 u10 u11,l = [u0,u1,u2,u3,u4,u5,u6,u7,u8,u9,u10,u11] := by
  match l,h with | [u0,u1,u2,u3,u4,u5,u6,u7,u8,u9,u10,u11],_ => exact ⟨u0,u1,u2,u3,u4,u5,u6,u7,u8,u9,u10,u11,rfl⟩
theorem len16 {l : List Value} (h : l.length = 16) : ∃ u0 u1 u2 u3 u4 u5 u6 u7 u8 u9 u10 u11 u12 u13 u14 u15,l = [u0,u1,u2,u3,u4,u5,u6,u7,u8,u9,u10,u11,u12,u13,u14,u15] := by
  match l,h with | [u0,u1,u2,u3,u4,u5,u6,u7,u8,u9,u10,u11,u12,u13,u14,u15],_ => exact ⟨u0,u1,u2,u3,u4,u5,u6,u7,u8,u9,u10,u11,u12,u13,u14,u15,rfl⟩
theorem xs2 {α : Type} {l : List α} (h : l.length = 2) : ∃ u0 u1,l = [u0,u1] := by
  match l,h with | [u0,u1],_ => exact ⟨u0,u1,rfl⟩
theorem xs3 {α : Type} {l : List α} (h : l.length = 3) : ∃ u0 u1 u2,l = [u0,u1,u2] := by
  match l,h with | [u0,u1,u2],_ => exact ⟨u0,u1,u2,rfl⟩
theorem xs5 {α : Type} {l : List α} (h : l.length = 5) : ∃ u0 u1 u2 u3 u4,l = [u0,u1,u2,u3,u4] := by
  match l,h with | [u0,u1,u2,u3,u4],_ => exact ⟨u0,u1,u2,u3,u4,rfl⟩
theorem xs6 {α : Type} {l : List α} (h : l.length = 6) : ∃ u0 u1 u2 u3 u4 u5,l = [u0,u1,u2,u3,u4,u5] := by
  match l,h with | [u0,u1,u2,u3,u4,u5],_ => exact ⟨u0,u1,u2,u3,u4,u5,rfl⟩
theorem small (n : Nat) : n ≤ reachBytes → n ≤ 140737488351232 := fun h => h
theorem i8_wf {n : Int} (h : (Lit.int .i8 n).wf = true) : -128 ≤ n ∧ n ≤ 127 := by
  simp only [Lit.wf,Bool.and_eq_true,decide_eq_true_eq] at h; exact h
theorem i64_wf {n : Int} (h : (Lit.int .i64 n).wf = true) : -9223372036854775808 ≤ n ∧ n ≤ 9223372036854775807 := by
  simp only [Lit.wf,Bool.and_eq_true,decide_eq_true_eq] at h; exact h
theorem weights_all {P : Program} {e : TypeId} {d : DataW H} {k : Nat} : ∀ {l : List (DataW H)},d ∈ l → k ∈ d.weights P e → k ∈ DataW.weightsAll P e l
  | [],h,_ => by simp at h
  | y :: l,h,hk => by
    rcases List.mem_cons.1 h with rfl | h
    · simp [DataW.weightsAll,hk]
    simp [DataW.weightsAll,weights_all h hk]
theorem o_slice {α : Type} (R : World → α → List Value → Prop) (zero : α) {t e : TypeId} {m bytes : Nat} (ht : Tryd.prog.underlying t = some (.slice e)) (hm : Tryd.prog.cellsOf e = m) (h0 : 0 < m) (hby : Tryd.prog.bytesOf e = bytes) {n : Nat}
    (hel : ∀ (n' : Nat),n' < n → ∀ (cs : List Value) (x : DataW H × List MemPlace),DataW.trod enc Tryd.prog w 0 sp held n' e cs = some x → (∀ k ∈ x.1.weights Tryd.prog e,k ≤ reachBytes) → ∃ y,R w y cs)
    {c : Value} {x : DataW H × List MemPlace} (h : DataW.trod enc Tryd.prog w 0 sp held n t [c] = some x) (hs : ∀ k ∈ x.1.weights Tryd.prog t,k ≤ reachBytes) :
    ∃ (l : List α) (A : Option Addr) (cap : Nat),c = .slice A l.length cap ∧ l.length ≤ cap ∧ l.length * bytes ≤ 140737488351232 ∧ Row R m w A l := by
  rcases DataW.trod_slice ht h with ⟨ec,rfl⟩ | ⟨ad,len,cap,elems,rest,n',rfl,ec,rfl,hb,hlc,hmx,hlen,hel1,hrest⟩
  · cases ec
    exact ⟨[],none,0,rfl,Nat.le_refl _,by simp,Row.nil⟩
  cases ec
  have hbytes : len * bytes ≤ 140737488351232 := by
    have h1 := hs ((elems.length + rest.length) * bytes) (by simp [DataW.weights,ht,hby])
    have h2 := small _ h1
    rw [hlen] at h2
    exact Nat.le_trans (Nat.mul_le_mul_right _ (Nat.le_add_right _ _)) h2
  have each : ∀ i,i < len → ∃ (y : α) (l : List Value),R w y l ∧ (i = 0 → ad.spot = none) ∧ ∀ (j : Nat) (u : Value),l[j]? = some u → w.cell? ⟨ad.block,ad.off + i * m + j,none⟩ = some u := by
    intro i hi
    have h1 := hel1 i hi
    rw [hm] at h1
    have hi2 : i < elems.length := by omega
    rw [List.getElem?_eq_getElem hi2] at h1
    obtain ⟨cs',hcs,htr⟩ := Option.bind_eq_some_iff.1 h1
    obtain ⟨hb',hl',hc'⟩ := World.cells?_some hcs
    obtain ⟨y,hy⟩ := hel n' (by omega) cs' _ htr (fun k hk => hs k (by
      simp only [DataW.weights,ht,List.mem_cons,List.mem_append]
      exact .inr (.inl (weights_all (List.mem_map_of_mem (List.getElem_mem hi2)) hk))))
    have hsp : (ad.add (i * m)).spot = none := by
      have := hc' 0 (by omega)
      rw [List.getElem?_eq_getElem (by omega)] at this
      rw [show (ad.add (i * m)).add 0 = ad.add (i * m) from by simp [Addr.add]] at this
      cases hq : (ad.add (i * m)).spot with
      | none => rfl
      | some q =>
        unfold World.cell? at this
        rw [hq] at this
        split at this <;> simp at this
    have had : ad.add (i * m) = ⟨ad.block,ad.off + i * m,none⟩ := by
      unfold Addr.add at hsp ⊢
      split
      · rename_i h0
        rw [if_pos h0] at hsp
        obtain ⟨b1,o1,s1⟩ := ad
        simp only at hsp
        subst hsp
        simp [h0]
      rfl
    refine ⟨y,cs',hy,?_,fun j u hu => ?_⟩
    · intro h0
      subst h0
      simpa [Addr.add] using hsp
    have hj : j < cs'.length := (List.getElem?_eq_some_iff.1 hu).1
    have := hc' j (by omega)
    rw [had,add0] at this
    rw [this]; exact hu
  have hex : ∃ f : Nat → α,∀ i,i < len → ∃ l : List Value,R w (f i) l ∧ (i = 0 → ad.spot = none) ∧ ∀ (j : Nat) (u : Value),l[j]? = some u → w.cell? ⟨ad.block,ad.off + i * m + j,none⟩ = some u := by
    refine ⟨fun i => if hi : i < len then Classical.choose (each i hi) else zero,fun i hi => ?_⟩
    simp only [dif_pos hi]
    exact Classical.choose_spec (each i hi)
  obtain ⟨f,hf⟩ := hex
  have hkl : ((List.range len).map f).length = len := by simp
  refine ⟨(List.range len).map f,some ad,cap,?_,?_,?_,?_⟩
  · rw [hkl]
  · rw [hkl]; exact hlc
  · rw [hkl]; exact hbytes
  by_cases h0 : len = 0
  · subst h0; exact .inl rfl
  obtain ⟨_,_,h2,_⟩ := hf 0 (by omega)
  have hsp := h2 rfl
  obtain ⟨b1,o1,s1⟩ := ad
  simp only at hsp
  subst hsp
  refine .inr ⟨b1,o1,rfl,fun j y hy => ?_⟩
  have hj : j < len := by
    have := (List.getElem?_eq_some_iff.1 hy).1
    rwa [hkl] at this
  obtain ⟨l,a1,_,a3⟩ := hf j hj
  have : y = f j := by simpa [hj] using hy.symm
  subst this
  exact ⟨l,a1,a3⟩
theorem o_V {n : Nat} {cs : List Value} {x : DataW H × List MemPlace} (h : DataW.trod enc Tryd.prog w 0 sp held n 26 cs = some x) (hs : ∀ k ∈ x.1.weights Tryd.prog 26,k ≤ reachBytes) : ∃ y,RV w y cs := by
  obtain ⟨xs,m,rfl,rfl,hl,hx,hf⟩ := DataW.trod_struct Tryd.underlying26 h
  obtain ⟨c0,c1,c2,rfl⟩ := len3 (hl.trans ce26)
  obtain ⟨a0,a1,a2,rfl⟩ := xs3 hx
  have f0 : DataW.trod enc Tryd.prog w 0 sp held m 24 (([c0,c1,c2].drop 0).take (Tryd.prog.cellsOf 24)) = some a0 := hf 0 _ rfl
  rw [ce24] at f0
  have f1 : DataW.trod enc Tryd.prog w 0 sp held m 2 (([c0,c1,c2].drop 1).take (Tryd.prog.cellsOf 2)) = some a1 := hf 1 _ rfl
  rw [ce2] at f1
  have f2 : DataW.trod enc Tryd.prog w 0 sp held m 9 (([c0,c1,c2].drop 2).take (Tryd.prog.cellsOf 9)) = some a2 := hf 2 _ rfl
  rw [ce9] at f2
  obtain ⟨k0,e0,r0,w0⟩ := DataW.trod_int (k := .i8) Tryd.underlying24 (show DataW.trod enc Tryd.prog w 0 sp held m 24 [c0] = some a0 from f0)
  cases e0
  subst r0
  obtain ⟨k1,e1,r1,w1⟩ := DataW.trod_int (k := .i64) Tryd.underlying2 (show DataW.trod enc Tryd.prog w 0 sp held m 2 [c1] = some a1 from f1)
  cases e1
  subst r1
  obtain ⟨s2,e2,r2,w2⟩ := DataW.trod_string Tryd.underlying9 (show DataW.trod enc Tryd.prog w 0 sp held m 9 [c2] = some a2 from f2)
  cases e2
  subst r2
  have z2 : s2.size ≤ 140737488351232 := hs s2.data.toList.length (by simp [DataW.weights,Tryd.underlying26,DataW.weightsEach])
  exact ⟨⟨k0,k1,s2⟩,rfl,⟨i8_wf w0,i64_wf w1,z2⟩⟩
theorem o_T {n : Nat} {cs : List Value} {x : DataW H × List MemPlace} (h : DataW.trod enc Tryd.prog w 0 sp held n 28 cs = some x) (hs : ∀ k ∈ x.1.weights Tryd.prog 28,k ≤ reachBytes) : ∃ y,RT w y cs := by
  obtain ⟨xs,m,rfl,rfl,hl,hx,hf⟩ := DataW.trod_struct Tryd.underlying28 h
  obtain ⟨c0,c1,c2,c3,rfl⟩ := len4 (hl.trans ce28)
  obtain ⟨a0,a1,rfl⟩ := xs2 hx
  have f0 : DataW.trod enc Tryd.prog w 0 sp held m 9 (([c0,c1,c2,c3].drop 0).take (Tryd.prog.cellsOf 9)) = some a0 := hf 0 _ rfl
  rw [ce9] at f0
  have f1 : DataW.trod enc Tryd.prog w 0 sp held m 26 (([c0,c1,c2,c3].drop 1).take (Tryd.prog.cellsOf 26)) = some a1 := hf 1 _ rfl
  rw [ce26] at f1
  obtain ⟨s0,e0,r0,w0⟩ := DataW.trod_string Tryd.underlying9 (show DataW.trod enc Tryd.prog w 0 sp held m 9 [c0] = some a0 from f0)
  cases e0
  subst r0
  have z0 : s0.size ≤ 140737488351232 := hs s0.data.toList.length (by simp [DataW.weights,Tryd.underlying28,DataW.weightsEach])
  obtain ⟨v1,ev1,hw1⟩ := o_V (show DataW.trod enc Tryd.prog w 0 sp held m 26 [c1,c2,c3] = some a1 from f1) (fun k hk => hs k (by simp [DataW.weights,Tryd.underlying28,DataW.weightsEach,hk]))
  simp only [List.cons.injEq,and_true] at ev1
  obtain ⟨rfl,rfl,rfl⟩ := ev1
  exact ⟨⟨s0,v1⟩,rfl,⟨z0,hw1⟩⟩
theorem o_E : ∀ (n : Nat) (cs : List Value) (x : DataW H × List MemPlace),DataW.trod enc Tryd.prog w 0 sp held n 31 cs = some x → (∀ k ∈ x.1.weights Tryd.prog 31,k ≤ reachBytes) → ∃ y,RE w y cs := by
  intro n
  induction n using Nat.strongRecOn with
  | _ n ih =>
    intro cs x h hs
    obtain ⟨xs,m,rfl,rfl,hl,hx,hf⟩ := DataW.trod_struct Tryd.underlying31 h
    obtain ⟨c0,c1,c2,c3,c4,c5,rfl⟩ := len6 (hl.trans ce31)
    obtain ⟨a0,a1,a2,rfl⟩ := xs3 hx
    have f0 : DataW.trod enc Tryd.prog w 0 sp held m 23 (([c0,c1,c2,c3,c4,c5].drop 0).take (Tryd.prog.cellsOf 23)) = some a0 := hf 0 _ rfl
    rw [ce23] at f0
    have f1 : DataW.trod enc Tryd.prog w 0 sp held m 28 (([c0,c1,c2,c3,c4,c5].drop 1).take (Tryd.prog.cellsOf 28)) = some a1 := hf 1 _ rfl
    rw [ce28] at f1
    have f2 : DataW.trod enc Tryd.prog w 0 sp held m 29 (([c0,c1,c2,c3,c4,c5].drop 5).take (Tryd.prog.cellsOf 29)) = some a2 := hf 2 _ rfl
    rw [ce29] at f2
    obtain ⟨k0,e0,r0,w0⟩ := DataW.trod_int (k := .i8) Tryd.underlying23 (show DataW.trod enc Tryd.prog w 0 sp held m 23 [c0] = some a0 from f0)
    cases e0
    subst r0
    obtain ⟨v1,ev1,hw1⟩ := o_T (show DataW.trod enc Tryd.prog w 0 sp held m 28 [c1,c2,c3,c4] = some a1 from f1) (fun k hk => hs k (by simp [DataW.weights,Tryd.underlying31,DataW.weightsEach,hk]))
    simp only [List.cons.injEq,and_true] at ev1
    obtain ⟨rfl,rfl,rfl,rfl⟩ := ev1
    obtain ⟨l2,A2,d2,el2,hl2,hc2,hr2⟩ := o_slice RE Ex.none Tryd.underlying29 ce31 (by decide) by31 (fun n' hn cs x h hs => ih n' (by omega) cs x h hs) (show DataW.trod enc Tryd.prog w 0 sp held m 29 [c5] = some a2 from f2) (fun k hk => hs k (by simp [DataW.weights,Tryd.underlying31,DataW.weightsEach,hk]))
    cases el2
    exact ⟨.mk k0 v1 l2,RE.mk_ (x := .mk k0 v1 l2) (A := A2) (c := d2) ⟨i8_wf w0,hw1,hl2,hc2⟩ hr2⟩
theorem o_A {n : Nat} {cs : List Value} {x : DataW H × List MemPlace} (h : DataW.trod enc Tryd.prog w 0 sp held n 46 cs = some x) (hs : ∀ k ∈ x.1.weights Tryd.prog 46,k ≤ reachBytes) : ∃ y,RA w y cs := by
  obtain ⟨xs,m,rfl,rfl,hl,hx,hf⟩ := DataW.trod_struct Tryd.underlying46 h
  obtain ⟨c0,c1,rfl⟩ := len2 (hl.trans ce46)
  obtain ⟨a0,a1,rfl⟩ := xs2 hx
  have f0 : DataW.trod enc Tryd.prog w 0 sp held m 9 (([c0,c1].drop 0).take (Tryd.prog.cellsOf 9)) = some a0 := hf 0 _ rfl
  rw [ce9] at f0
  have f1 : DataW.trod enc Tryd.prog w 0 sp held m 44 (([c0,c1].drop 1).take (Tryd.prog.cellsOf 44)) = some a1 := hf 1 _ rfl
  rw [ce44] at f1
  obtain ⟨s0,e0,r0,w0⟩ := DataW.trod_string Tryd.underlying9 (show DataW.trod enc Tryd.prog w 0 sp held m 9 [c0] = some a0 from f0)
  cases e0
  subst r0
  have z0 : s0.size ≤ 140737488351232 := hs s0.data.toList.length (by simp [DataW.weights,Tryd.underlying46,DataW.weightsEach])
  obtain ⟨l1,A1,d1,el1,hl1,hc1,hr1⟩ := o_slice RT Tm.none Tryd.underlying44 ce28 (by decide) by28 (fun n' hn cs x h hs => o_T h hs) (show DataW.trod enc Tryd.prog w 0 sp held m 44 [c1] = some a1 from f1) (fun k hk => hs k (by simp [DataW.weights,Tryd.underlying46,DataW.weightsEach,hk]))
  cases el1
  exact ⟨⟨s0,l1⟩,A1,d1,rfl,⟨z0,hl1,hc1⟩,hr1⟩
theorem o_L {n : Nat} {cs : List Value} {x : DataW H × List MemPlace} (h : DataW.trod enc Tryd.prog w 0 sp held n 120 cs = some x) (hs : ∀ k ∈ x.1.weights Tryd.prog 120,k ≤ reachBytes) : ∃ y,RL w y cs := by
  obtain ⟨xs,m,rfl,rfl,hl,hx,hf⟩ := DataW.trod_struct Tryd.underlying120 h
  obtain ⟨c0,c1,c2,c3,c4,c5,c6,c7,c8,c9,c10,c11,c12,c13,c14,c15,rfl⟩ := len16 (hl.trans ce120)
  obtain ⟨a0,a1,a2,a3,a4,rfl⟩ := xs5 hx
  have f0 : DataW.trod enc Tryd.prog w 0 sp held m 117 (([c0,c1,c2,c3,c4,c5,c6,c7,c8,c9,c10,c11,c12,c13,c14,c15].drop 0).take (Tryd.prog.cellsOf 117)) = some a0 := hf 0 _ rfl
  rw [ce117] at f0
  have f1 : DataW.trod enc Tryd.prog w 0 sp held m 46 (([c0,c1,c2,c3,c4,c5,c6,c7,c8,c9,c10,c11,c12,c13,c14,c15].drop 1).take (Tryd.prog.cellsOf 46)) = some a1 := hf 1 _ rfl
  rw [ce46] at f1
  have f2 : DataW.trod enc Tryd.prog w 0 sp held m 118 (([c0,c1,c2,c3,c4,c5,c6,c7,c8,c9,c10,c11,c12,c13,c14,c15].drop 3).take (Tryd.prog.cellsOf 118)) = some a2 := hf 2 _ rfl
  rw [ce118] at f2
  have f3 : DataW.trod enc Tryd.prog w 0 sp held m 31 (([c0,c1,c2,c3,c4,c5,c6,c7,c8,c9,c10,c11,c12,c13,c14,c15].drop 4).take (Tryd.prog.cellsOf 31)) = some a3 := hf 3 _ rfl
  rw [ce31] at f3
  have f4 : DataW.trod enc Tryd.prog w 0 sp held m 31 (([c0,c1,c2,c3,c4,c5,c6,c7,c8,c9,c10,c11,c12,c13,c14,c15].drop 10).take (Tryd.prog.cellsOf 31)) = some a4 := hf 4 _ rfl
  rw [ce31] at f4
  obtain ⟨k0,e0,r0,w0⟩ := DataW.trod_int (k := .i8) Tryd.underlying117 (show DataW.trod enc Tryd.prog w 0 sp held m 117 [c0] = some a0 from f0)
  cases e0
  subst r0
  obtain ⟨v1,A1,d1,ev1,ho1,hr1⟩ := o_A (show DataW.trod enc Tryd.prog w 0 sp held m 46 [c1,c2] = some a1 from f1) (fun k hk => hs k (by simp [DataW.weights,Tryd.underlying120,DataW.weightsEach,hk]))
  simp only [List.cons.injEq,and_true] at ev1
  obtain ⟨rfl,rfl⟩ := ev1
  obtain ⟨k2,e2,r2,w2⟩ := DataW.trod_int (k := .i8) Tryd.underlying118 (show DataW.trod enc Tryd.prog w 0 sp held m 118 [c3] = some a2 from f2)
  cases e2
  subst r2
  obtain ⟨v3,hv3⟩ := o_E m _ _ (show DataW.trod enc Tryd.prog w 0 sp held m 31 [c4,c5,c6,c7,c8,c9] = some a3 from f3) (fun k hk => hs k (by simp [DataW.weights,Tryd.underlying120,DataW.weightsEach,hk]))
  obtain ⟨A3,d3,ev3,ho3,hr3⟩ := RE.open_ hv3
  simp only [List.cons.injEq,and_true] at ev3
  obtain ⟨rfl,rfl,rfl,rfl,rfl,rfl⟩ := ev3
  obtain ⟨v4,hv4⟩ := o_E m _ _ (show DataW.trod enc Tryd.prog w 0 sp held m 31 [c10,c11,c12,c13,c14,c15] = some a4 from f4) (fun k hk => hs k (by simp [DataW.weights,Tryd.underlying120,DataW.weightsEach,hk]))
  obtain ⟨A4,d4,ev4,ho4,hr4⟩ := RE.open_ hv4
  simp only [List.cons.injEq,and_true] at ev4
  obtain ⟨rfl,rfl,rfl,rfl,rfl,rfl⟩ := ev4
  exact ⟨⟨k0,v1,k2,v3,v4⟩,A1,A3,A4,d1,d3,d4,rfl,⟨i8_wf w0,i8_wf w2,ho1,ho3,ho4⟩,hr1,hr3,hr4⟩
theorem o_G {n : Nat} {cs : List Value} {x : DataW H × List MemPlace} (h : DataW.trod enc Tryd.prog w 0 sp held n 64 cs = some x) (hs : ∀ k ∈ x.1.weights Tryd.prog 64,k ≤ reachBytes) : ∃ y,RG w y cs := by
  obtain ⟨xs,m,rfl,rfl,hl,hx,hf⟩ := DataW.trod_struct Tryd.underlying64 h
  obtain ⟨c0,c1,c2,c3,c4,rfl⟩ := len5 (hl.trans ce64)
  obtain ⟨a0,a1,rfl⟩ := xs2 hx
  have f0 : DataW.trod enc Tryd.prog w 0 sp held m 62 (([c0,c1,c2,c3,c4].drop 0).take (Tryd.prog.cellsOf 62)) = some a0 := hf 0 _ rfl
  rw [ce62] at f0
  have f1 : DataW.trod enc Tryd.prog w 0 sp held m 28 (([c0,c1,c2,c3,c4].drop 1).take (Tryd.prog.cellsOf 28)) = some a1 := hf 1 _ rfl
  rw [ce28] at f1
  obtain ⟨k0,e0,r0,w0⟩ := DataW.trod_int (k := .i8) Tryd.underlying62 (show DataW.trod enc Tryd.prog w 0 sp held m 62 [c0] = some a0 from f0)
  cases e0
  subst r0
  obtain ⟨v1,ev1,hw1⟩ := o_T (show DataW.trod enc Tryd.prog w 0 sp held m 28 [c1,c2,c3,c4] = some a1 from f1) (fun k hk => hs k (by simp [DataW.weights,Tryd.underlying64,DataW.weightsEach,hk]))
  simp only [List.cons.injEq,and_true] at ev1
  obtain ⟨rfl,rfl,rfl,rfl⟩ := ev1
  exact ⟨⟨k0,v1⟩,rfl,⟨i8_wf w0,hw1⟩⟩
theorem o_U {n : Nat} {cs : List Value} {x : DataW H × List MemPlace} (h : DataW.trod enc Tryd.prog w 0 sp held n 42 cs = some x) (hs : ∀ k ∈ x.1.weights Tryd.prog 42,k ≤ reachBytes) : ∃ y,RU w y cs := by
  obtain ⟨xs,m,rfl,rfl,hl,hx,hf⟩ := DataW.trod_struct Tryd.underlying42 h
  obtain ⟨c0,c1,c2,rfl⟩ := len3 (hl.trans ce42)
  obtain ⟨a0,a1,a2,rfl⟩ := xs3 hx
  have f0 : DataW.trod enc Tryd.prog w 0 sp held m 9 (([c0,c1,c2].drop 0).take (Tryd.prog.cellsOf 9)) = some a0 := hf 0 _ rfl
  rw [ce9] at f0
  have f1 : DataW.trod enc Tryd.prog w 0 sp held m 39 (([c0,c1,c2].drop 1).take (Tryd.prog.cellsOf 39)) = some a1 := hf 1 _ rfl
  rw [ce39] at f1
  have f2 : DataW.trod enc Tryd.prog w 0 sp held m 40 (([c0,c1,c2].drop 2).take (Tryd.prog.cellsOf 40)) = some a2 := hf 2 _ rfl
  rw [ce40] at f2
  obtain ⟨s0,e0,r0,w0⟩ := DataW.trod_string Tryd.underlying9 (show DataW.trod enc Tryd.prog w 0 sp held m 9 [c0] = some a0 from f0)
  cases e0
  subst r0
  have z0 : s0.size ≤ 140737488351232 := hs s0.data.toList.length (by simp [DataW.weights,Tryd.underlying42,DataW.weightsEach])
  obtain ⟨l1,A1,d1,el1,hl1,hc1,hr1⟩ := o_slice RG Ag.none Tryd.underlying39 ce64 (by decide) by64 (fun n' hn cs x h hs => o_G h hs) (show DataW.trod enc Tryd.prog w 0 sp held m 39 [c1] = some a1 from f1) (fun k hk => hs k (by simp [DataW.weights,Tryd.underlying42,DataW.weightsEach,hk]))
  cases el1
  obtain ⟨l2,A2,d2,el2,hl2,hc2,hr2⟩ := o_slice RL Lt.zero Tryd.underlying40 ce120 (by decide) by120 (fun n' hn cs x h hs => o_L h hs) (show DataW.trod enc Tryd.prog w 0 sp held m 40 [c2] = some a2 from f2) (fun k hk => hs k (by simp [DataW.weights,Tryd.underlying42,DataW.weightsEach,hk]))
  cases el2
  exact ⟨⟨s0,l1,l2⟩,A1,A2,d1,d2,rfl,⟨z0,hl1,hc1,hl2,hc2⟩,hr1,hr2⟩
theorem o_F {n : Nat} {cs : List Value} {x : DataW H × List MemPlace} (h : DataW.trod enc Tryd.prog w 0 sp held n 61 cs = some x) (hs : ∀ k ∈ x.1.weights Tryd.prog 61,k ≤ reachBytes) : ∃ y,RF w y cs := by
  obtain ⟨xs,m,rfl,rfl,hl,hx,hf⟩ := DataW.trod_struct Tryd.underlying61 h
  obtain ⟨c0,c1,rfl⟩ := len2 (hl.trans ce61)
  obtain ⟨a0,a1,rfl⟩ := xs2 hx
  have f0 : DataW.trod enc Tryd.prog w 0 sp held m 9 (([c0,c1].drop 0).take (Tryd.prog.cellsOf 9)) = some a0 := hf 0 _ rfl
  rw [ce9] at f0
  have f1 : DataW.trod enc Tryd.prog w 0 sp held m 59 (([c0,c1].drop 1).take (Tryd.prog.cellsOf 59)) = some a1 := hf 1 _ rfl
  rw [ce59] at f1
  obtain ⟨s0,e0,r0,w0⟩ := DataW.trod_string Tryd.underlying9 (show DataW.trod enc Tryd.prog w 0 sp held m 9 [c0] = some a0 from f0)
  cases e0
  subst r0
  have z0 : s0.size ≤ 140737488351232 := hs s0.data.toList.length (by simp [DataW.weights,Tryd.underlying61,DataW.weightsEach])
  obtain ⟨l1,A1,d1,el1,hl1,hc1,hr1⟩ := o_slice RV Vl.none Tryd.underlying59 ce26 (by decide) by26 (fun n' hn cs x h hs => o_V h hs) (show DataW.trod enc Tryd.prog w 0 sp held m 59 [c1] = some a1 from f1) (fun k hk => hs k (by simp [DataW.weights,Tryd.underlying61,DataW.weightsEach,hk]))
  cases el1
  exact ⟨⟨s0,l1⟩,A1,d1,rfl,⟨z0,hl1,hc1⟩,hr1⟩
theorem one_bulk (d : DataW H) : 1 ≤ Go.Proofs.YtjjkfbjidpolmaaDoor.Rows.uptoBulk d := by
  cases d with
  | lit v => cases v <;> simp [Go.Proofs.YtjjkfbjidpolmaaDoor.Rows.uptoBulk]
  | _ => simp [Go.Proofs.YtjjkfbjidpolmaaDoor.Rows.uptoBulk]
theorem all_bulk : ∀ l : List (DataW H),l.length ≤ Go.Proofs.YtjjkfbjidpolmaaDoor.Rows.uptoBulkAll l
  | [] => Nat.zero_le _
  | d :: l => by
    have := all_bulk l
    have := one_bulk d
    simp only [Go.Proofs.YtjjkfbjidpolmaaDoor.Rows.uptoBulkAll,List.length_cons]; omega
theorem len_bulk {P : Program} {t e n ln c : Nat} {A : Option Addr} {x : DataW H × List MemPlace} (ht : P.underlying t = some (.slice e)) (h : DataW.trod enc P w 0 sp held n t [.slice A ln c] = some x) : ln ≤ Go.Proofs.YtjjkfbjidpolmaaDoor.Rows.uptoBulk x.1 := by
  rcases DataW.trod_slice ht h with ⟨ec,rfl⟩ | ⟨ad,len,cap,elems,rest,n',rfl,ec,rfl,hb,hlc,hmx,hlen,hel1,hrest⟩
  · cases ec
    exact Nat.zero_le _
  cases ec
  have h1 := all_bulk (elems.map (·.1))
  rw [List.length_map] at h1
  simp only [Go.Proofs.YtjjkfbjidpolmaaDoor.Rows.uptoBulk]
  omega
theorem o_W {n : Nat} {cs : List Value} {x_ : DataW H × List MemPlace} (h : DataW.trod enc Tryd.prog w 0 sp held n 48 cs = some x_) (hs : ∀ k ∈ x_.1.weights Tryd.prog 48,k ≤ reachBytes) : ∃ (x y : Ru) (Ah Ab : Option Addr) (ch cb : Nat) (Bh Bb : Option Addr) (dh db : Nat) (l l2 : List Fc) (Al Al2 : Option Addr) (cl cl2 : Nat) (qa qb : At) (Aq Aq2 : Option Addr) (cq cq2 : Nat),cs = [.string x.p,.slice Ah x.head.length ch,.slice Ab x.body.length cb,.string y.p,.slice Bh y.head.length dh,.slice Bb y.body.length db,.slice Al l.length cl,.slice Al2 l2.length cl2,.string qa.p,.slice Aq qa.args.length cq,.string qb.p,.slice Aq2 qb.args.length cq2] ∧ x.okc ch cb ∧ y.okc dh db ∧ Row RG 5 w Ah x.head ∧ Row RL 16 w Ab x.body ∧ Row RG 5 w Bh y.head ∧ Row RL 16 w Bb y.body ∧ l.length ≤ Go.Proofs.YtjjkfbjidpolmaaDoor.Rows.uptoBulk x_.1 ∧ l2.length ≤ Go.Proofs.YtjjkfbjidpolmaaDoor.Rows.uptoBulk x_.1 ∧ Row RF 2 w Al l ∧ Row RF 2 w Al2 l2 ∧ qa.okc cq ∧ qb.okc cq2 ∧ Row RT 4 w Aq qa.args ∧ Row RT 4 w Aq2 qb.args := by
  obtain ⟨xs,m,rfl,rfl,hl,hx,hf⟩ := DataW.trod_struct Tryd.underlying48 h
  obtain ⟨c0,c1,c2,c3,c4,c5,c6,c7,c8,c9,c10,c11,rfl⟩ := len12 (hl.trans ce48)
  obtain ⟨a0,a1,a2,a3,a4,a5,rfl⟩ := xs6 hx
  have f0 : DataW.trod enc Tryd.prog w 0 sp held m 42 (([c0,c1,c2,c3,c4,c5,c6,c7,c8,c9,c10,c11].drop 0).take (Tryd.prog.cellsOf 42)) = some a0 := hf 0 _ rfl
  rw [ce42] at f0
  have f1 : DataW.trod enc Tryd.prog w 0 sp held m 42 (([c0,c1,c2,c3,c4,c5,c6,c7,c8,c9,c10,c11].drop 3).take (Tryd.prog.cellsOf 42)) = some a1 := hf 1 _ rfl
  rw [ce42] at f1
  have f2 : DataW.trod enc Tryd.prog w 0 sp held m 43 (([c0,c1,c2,c3,c4,c5,c6,c7,c8,c9,c10,c11].drop 6).take (Tryd.prog.cellsOf 43)) = some a2 := hf 2 _ rfl
  rw [ce43] at f2
  have f3 : DataW.trod enc Tryd.prog w 0 sp held m 43 (([c0,c1,c2,c3,c4,c5,c6,c7,c8,c9,c10,c11].drop 7).take (Tryd.prog.cellsOf 43)) = some a3 := hf 3 _ rfl
  rw [ce43] at f3
  have f4 : DataW.trod enc Tryd.prog w 0 sp held m 46 (([c0,c1,c2,c3,c4,c5,c6,c7,c8,c9,c10,c11].drop 8).take (Tryd.prog.cellsOf 46)) = some a4 := hf 4 _ rfl
  rw [ce46] at f4
  have f5 : DataW.trod enc Tryd.prog w 0 sp held m 46 (([c0,c1,c2,c3,c4,c5,c6,c7,c8,c9,c10,c11].drop 10).take (Tryd.prog.cellsOf 46)) = some a5 := hf 5 _ rfl
  rw [ce46] at f5
  obtain ⟨v0,B0,A0,g0,d0,ev0,ho0,hh0,hr0⟩ := o_U (show DataW.trod enc Tryd.prog w 0 sp held m 42 [c0,c1,c2] = some a0 from f0) (fun k hk => hs k (by simp [DataW.weights,Tryd.underlying48,DataW.weightsEach,hk]))
  simp only [ruCs,List.cons.injEq,and_true] at ev0
  obtain ⟨rfl,rfl,rfl⟩ := ev0
  obtain ⟨v1,B1,A1,g1,d1,ev1,ho1,hh1,hr1⟩ := o_U (show DataW.trod enc Tryd.prog w 0 sp held m 42 [c3,c4,c5] = some a1 from f1) (fun k hk => hs k (by simp [DataW.weights,Tryd.underlying48,DataW.weightsEach,hk]))
  simp only [ruCs,List.cons.injEq,and_true] at ev1
  obtain ⟨rfl,rfl,rfl⟩ := ev1
  obtain ⟨l2,A2,d2,el2,hl2,hc2,hr2⟩ := o_slice RF Fc.none Tryd.underlying43 ce61 (by decide) by61 (fun n' hn cs x h hs => o_F h hs) (show DataW.trod enc Tryd.prog w 0 sp held m 43 [c6] = some a2 from f2) (fun k hk => hs k (by simp [DataW.weights,Tryd.underlying48,DataW.weightsEach,hk]))
  cases el2
  obtain ⟨l3,A3,d3,el3,hl3,hc3,hr3⟩ := o_slice RF Fc.none Tryd.underlying43 ce61 (by decide) by61 (fun n' hn cs x h hs => o_F h hs) (show DataW.trod enc Tryd.prog w 0 sp held m 43 [c7] = some a3 from f3) (fun k hk => hs k (by simp [DataW.weights,Tryd.underlying48,DataW.weightsEach,hk]))
  cases el3
  obtain ⟨v4,A4,d4,ev4,ho4,hr4⟩ := o_A (show DataW.trod enc Tryd.prog w 0 sp held m 46 [c8,c9] = some a4 from f4) (fun k hk => hs k (by simp [DataW.weights,Tryd.underlying48,DataW.weightsEach,hk]))
  simp only [List.cons.injEq,and_true] at ev4
  obtain ⟨rfl,rfl⟩ := ev4
  obtain ⟨v5,A5,d5,ev5,ho5,hr5⟩ := o_A (show DataW.trod enc Tryd.prog w 0 sp held m 46 [c10,c11] = some a5 from f5) (fun k hk => hs k (by simp [DataW.weights,Tryd.underlying48,DataW.weightsEach,hk]))
  simp only [List.cons.injEq,and_true] at ev5
  obtain ⟨rfl,rfl⟩ := ev5
  have bk2 := len_bulk Tryd.underlying43 (show DataW.trod enc Tryd.prog w 0 sp held m 43 [.slice A2 l2.length d2] = some a2 from f2)
  have bk3 := len_bulk Tryd.underlying43 (show DataW.trod enc Tryd.prog w 0 sp held m 43 [.slice A3 l3.length d3] = some a3 from f3)
  have bq : Go.Proofs.YtjjkfbjidpolmaaDoor.Rows.uptoBulk a2.1 ≤ Go.Proofs.YtjjkfbjidpolmaaDoor.Rows.uptoBulk (DataW.agg ([a0,a1,a2,a3,a4,a5].map (·.1))) ∧ Go.Proofs.YtjjkfbjidpolmaaDoor.Rows.uptoBulk a3.1 ≤ Go.Proofs.YtjjkfbjidpolmaaDoor.Rows.uptoBulk (DataW.agg ([a0,a1,a2,a3,a4,a5].map (·.1))) := by simp only [List.map_cons,List.map_nil,Go.Proofs.YtjjkfbjidpolmaaDoor.Rows.uptoBulk,Go.Proofs.YtjjkfbjidpolmaaDoor.Rows.uptoBulkAll]; omega
  exact ⟨v0,v1,B0,A0,g0,d0,B1,A1,g1,d1,l2,l3,A2,A3,d2,d3,v4,v5,A4,A5,d4,d5,rfl,ho0,ho1,hh0,hr0,hh1,hr1,Nat.le_trans bk2 bq.1,Nat.le_trans bk3 bq.2,hr2,hr3,ho4,ho5,hr4,hr5⟩
end
end Go.Proofs.Dw

set_option linter.unusedVariables false
set_option maxRecDepth 100000
namespace Go.Proofs.YtjjkfbjidpolmaaDoor
open Go Go.Proofs Go.ChangeShapes Go.WideShapes Go.RowKit Go.Wk Go.Deep
theorem own_ : ownKnob Tryd.prog.godebug = none := by kernel_rfl
theorem kids_ : Kids Tryd.prog (· < Tryd.prog.types.size) := kids_rows (by kernel_rfl) (by kernel_rfl)
theorem full_ : ∀ t e,t < Tryd.prog.types.size → Tryd.prog.underlying t = some (.slice e) → 0 < Tryd.prog.cellsOf e := slices_full_of Tryd.prog (by kernel_rfl)
def litV : DataW Unit → Option Value
  | .lit (.int k n) => some (.int k n)
  | .lit (.string l) => some (.string ⟨l.toArray⟩)
  | _ => none
theorem litV_of {P : Program} {W : World} {sp : Nat → Bool} {held : Bool} {enc : TypeId × Value → Unit} {m : Nat} {e : TypeId} {c : Value} {x : DataW Unit × List MemPlace} (he : (∃ k,P.underlying e = some (.int k)) ∨ P.underlying e = some .string) (h : DataW.trod enc P W 0 sp held m e [c] = some x) : litV x.1 = some c := by
  rcases he with ⟨k,he⟩ | he
  · obtain ⟨n,h1,h2,_⟩ := DataW.trod_int he h
    cases h1; subst h2; rfl
  obtain ⟨s,h1,h2,_⟩ := DataW.trod_string he h
  cases h1; subst h2
  simp [litV]
theorem var_of {P : Program} {W : World} {nm : String} {d : DataW Unit} {ds : List (DataW Unit)} {g t e n : Nat} {cs : List Value} {l : List (String × DataW Unit)} (h : laidMet P l W) (keep : String × DataW Unit → Bool) (hk : l.filter keep = [(nm,d)]) (hg : P.globalNamed nm = some g) (hty : (P.globals[g]?).map (·.type) = some t) (ht : P.underlying t = some (.array n e))
    (he : (∃ k,P.underlying e = some (.int k)) ∨ P.underlying e = some .string) (hce : P.cellsOf e = 1) (hct : P.cellsOf t = n) (hd : d = .agg ds) (hc : ds.map litV = cs.map some) : W.var? P nm = some cs.toArray := by
  have h1 := h.filter keep
  rw [hk] at h1
  obtain ⟨ps,⟨g',t',cs',fuel,p,q,hg',ht',hv,hd',_,_⟩,_⟩ := h1
  obtain rfl := Option.some.inj (hg.symm.trans hg')
  obtain rfl := Option.some.inj (hty.symm.trans ht')
  obtain ⟨xs,m,_,ex,hl0,hl,hel⟩ := DataW.trod_array ht hd'
  rw [hd] at ex
  have e3 : ds = xs.map (·.1) := DataW.agg.inj (Prod.mk.inj ex).1
  rw [hv]
  congr 1
  apply Array.ext'
  rw [List.toList_toArray]
  have hlen : cs'.toList.length = n := by rw [← hct]; exact hl0
  have key : cs'.toList.map some = cs.map some := by
    rw [← hc,e3,List.map_map]
    apply List.ext_getElem
    · simp [hlen,hl]
    intro i h2 h3
    have hi : i < n := by simpa [hlen] using h2
    have hE := hel i hi
    rw [hce,Nat.mul_one,List.getElem?_eq_getElem (by omega)] at hE
    have hx : (cs'.toList.drop i).take 1 = [cs'.toList[i]'(by omega)] := by
      rw [List.drop_eq_getElem_cons (by omega),List.take_succ_cons,List.take_zero]
    rw [hx] at hE
    have := litV_of he hE
    simp only [List.getElem_map,Function.comp]
    rw [this]
  have h7 := congrArg (List.filterMap id) key
  simpa [List.filterMap_map] using h7
theorem tabs_of {W : World} (h : laidMetH Tryd.prog Rows.printUnlikeUptoRow.laid W) : Tabs Tryd.prog W := by
  rw [MakeChecks.laidMetH_plain _ _ _ (by kernel_rfl)] at h
  refine ⟨?_,?_,?_,?_⟩
  · exact var_of h (fun x => x.1 == "pedigree/print.hold") (d := Rows.laid_pedigree_print_hold) (by kernel_rfl) (g := 0) (t := 104) (by kernel_rfl) (by kernel_rfl) Tryd.underlying104 (.inl ⟨_, Tryd.underlying3⟩) (by kernel_rfl) (by kernel_rfl) rfl (cs := [.int .i64 4, .int .i64 3, .int .i64 1, .int .i64 1, .int .i64 2, .int .i64 2, .int .i64 2, .int .i64 1, .int .i64 4, .int .i64 4, .int .i64 4]) rfl
  · exact var_of h (fun x => x.1 == "pedigree/print.words") (d := Rows.laid_pedigree_print_words) (by kernel_rfl) (g := 1) (t := 105) (by kernel_rfl) (by kernel_rfl) Tryd.underlying105 (.inr Tryd.underlying9) (by kernel_rfl) (by kernel_rfl) rfl (cs := [.string ⟨#[]⟩, .string ⟨#[]⟩, .string ⟨#[]⟩, .string ⟨#[]⟩, .string ⟨#[]⟩, .string ⟨#[]⟩, .string ⟨#[]⟩, .string ⟨#[]⟩, .string ⟨#[108, 101, 110]⟩, .string ⟨#[99, 104, 97, 114, 115]⟩, .string ⟨#[98, 97, 99, 107]⟩]) rfl
  · exact var_of h (fun x => x.1 == "pedigree/print.signs") (d := Rows.laid_pedigree_print_signs) (by kernel_rfl) (g := 2) (t := 106) (by kernel_rfl) (by kernel_rfl) Tryd.underlying106 (.inr Tryd.underlying9) (by kernel_rfl) (by kernel_rfl) rfl (cs := [.string ⟨#[]⟩, .string ⟨#[]⟩, .string ⟨#[43]⟩, .string ⟨#[45]⟩, .string ⟨#[42]⟩, .string ⟨#[47]⟩, .string ⟨#[37]⟩, .string ⟨#[38]⟩]) rfl
  exact var_of h (fun x => x.1 == "internal/strconv.uint64pow10") (d := Rows.laid_internal_strconv_uint64pow10) (by kernel_rfl) (g := 6) (t := 177) (by kernel_rfl) (by kernel_rfl) Tryd.underlying177 (.inl ⟨_, Tryd.underlying165⟩) (by kernel_rfl) (by kernel_rfl) rfl (cs := Go.Lib.pow10Tab.map fun z => .int .u64 z) rfl
theorem rels_of {W : World} (h : laidMetH Tryd.prog Rows.printUnlikeUptoRow.laid W) : RelT Tryd.prog W := by
  rw [MakeChecks.laidMetH_plain _ _ _ (by kernel_rfl)] at h
  exact var_of h (fun x => x.1 == "pedigree/print.rels") (d := Rows.laid_pedigree_print_rels) (by kernel_rfl) (g := 4) (t := 158) (by kernel_rfl) (by kernel_rfl) Tryd.underlying158 (.inr Tryd.underlying9) (by kernel_rfl) (by kernel_rfl) rfl (cs := [.string ⟨#[]⟩, .string ⟨#[61]⟩, .string ⟨#[33, 61]⟩, .string ⟨#[60]⟩, .string ⟨#[60, 61]⟩, .string ⟨#[62]⟩, .string ⟨#[62, 61]⟩]) rfl
theorem folds_of {W : World} (h : laidMetH Tryd.prog Rows.printUnlikeUptoRow.laid W) : FoldT Tryd.prog W := by
  rw [MakeChecks.laidMetH_plain _ _ _ (by kernel_rfl)] at h
  exact var_of h (fun x => x.1 == "pedigree/print.folds") (d := Rows.laid_pedigree_print_folds) (by kernel_rfl) (g := 3) (t := 145) (by kernel_rfl) (by kernel_rfl) Tryd.underlying145 (.inr Tryd.underlying9) (by kernel_rfl) (by kernel_rfl) rfl (cs := [.string ⟨#[]⟩, .string ⟨#[]⟩, .string ⟨#[115, 117, 109]⟩, .string ⟨#[109, 105, 110]⟩, .string ⟨#[109, 97, 120]⟩]) rfl
theorem keywords_of {W : World} (h : laidMetH Tryd.prog Rows.printUnlikeUptoRow.laid W) : KwT Tryd.prog W := by
  rw [MakeChecks.laidMetH_plain _ _ _ (by kernel_rfl)] at h
  exact var_of h (fun x => x.1 == "pedigree/lex.keywords") (d := Rows.laid_pedigree_lex_keywords) (by kernel_rfl) (g := 5) (t := 106) (by kernel_rfl) (by kernel_rfl) Tryd.underlying106 (.inr Tryd.underlying9) (by kernel_rfl) (by kernel_rfl) rfl (cs := kwC) rfl
theorem ret_cond_and {H : Type} {enc : TypeId × Value → H} {a : Assume} {C : Checked} {os : Os} {f : FuncId} {fn : Func} {s : OpenSpec} {k : (H : Type) → List (DataW H) → Bool} (hk : s.cond = some k) {F : Stop.Interp} {conds : List PathCond} {apart fresh handsOn again : Bool} {X : World → Array Value → Prop}
    (hX : ∀ (w w' : World) (args : Array Value),w.heap = w'.heap → X w args → X w' args)
    (own : ownKnob C.prog.godebug = none) (started : os.Started) (noInit : C.prog.inits.idxOf? f = none) (hfn : C.prog.funcs[f]? = some fn)
    (witness : ∃ (w : World) (tape : Tape) (i : Input),w.os = os ∧ (w.forCall tape i).Shaped C.prog ∧ i.vars = [] ∧ Input.okWide C.prog (w.forCall tape i) .any w.heap.size f i ∧
      ((s.pre enc C.prog fn conds apart (w.forCall tape i).memory i.args ∧ X (w.forCall tape i).memory i.args) ∧ sizedMet enc C.prog fn s apart (w.forCall tape i).memory i.args) ∧ a.holds C.prog (lone (Frame.enter C.prog f i.args .normal) [] (w.forCall tape i)))
    (contract : ∀ (W : World) (base : Nat) (args : Array Value) (ds gs : List (DataW H)) (before : List MemPlace),
      (∀ (j : Nat) t v,fn.params[j]? = some t → args[j]? = some v → Value.okWide C.prog W .any base t v) →
      DataW.Whole enc C.prog fn.params.toList s.vars apart W args.toList ds gs before → k H (ds ++ gs) = true →
      (DataW.weightsEach C.prog (fn.params.toList ++ s.bare.plain.varTypes C.prog) (ds ++ gs)).all (· ≤ reachBytes) = true → X W args →
      Calls C.prog f args W fun e W' => ∃ v,e = .returned v ∧ (s.at F).post enc C.prog fn apart fresh handsOn again W args v W') :
    ReturnsInHanded a C os f .any (fun w args => (s.pre enc C.prog fn conds apart w args ∧ X w args) ∧ sizedMet enc C.prog fn s apart w args) ((s.at F).post enc C.prog fn apart fresh handsOn again) := by
  refine returnsInHanded_of_calls own started noInit witness ?_
  intro w tape i _ _ _ hok hpre hholds
  obtain ⟨_,_,_,fn',hfn',_,_,_,_,hval⟩ := hok
  have e : fn' = fn := Option.some.inj (hfn'.symm.trans hfn)
  subst e
  obtain ⟨⟨hp,hx⟩,hz⟩ := hpre
  obtain ⟨ds,gs,before,hw,hc,hkk⟩ := (OpenSpec.pre_some hk conds apart _ _).1 hp
  have hw' := DataW.Whole.of_heap (w' := w.forCall tape i) (by rfl) hw
  refine (contract (w.forCall tape i) w.heap.size i.args ds gs before hval hw' hkk (hz.weights hw) (hX _ _ _ (by rfl) hx)).mono fun e W' ⟨v,he,hp⟩ => ?_
  subst he
  exact ChangeSpec.post_blind hp
theorem wit_cond {H : Type} {enc : TypeId × Value → H} {C : Checked} {os : Os} {f : FuncId} {fn : Func} {s : OpenSpec} {k : (H : Type) → List (DataW H) → Bool} (hk : s.cond = some k) {conds : List PathCond} {apart : Bool} {X : World → Array Value → Prop} (modest : Bool) (w0 : World) (args : Array Value) (fuel : Nat) (hos : w0.os = os)
    (hsh : (w0.forCall (fun _ _ => 0) ⟨#[],args,[]⟩).Shaped C.prog)
    (hok : Input.okWideB C.prog (w0.forCall (fun _ _ => 0) ⟨#[],args,[]⟩) f ⟨#[],args,[]⟩ = true)
    (hpre : (match DataW.whole enc C.prog (w0.forCall (fun _ _ => 0) ⟨#[],args,[]⟩).memory fn.params.toList s.vars apart args.toList fuel with | some x => conds.all (PathCond.test C.prog ⟨fn.params.toList,x.1,s.bare.plain.varTypes C.prog,x.2.1⟩) && k H (x.1 ++ x.2.1) | none => false) = true)
    (hsz : s.bare.sizedB enc C.prog fn apart (w0.forCall (fun _ _ => 0) ⟨#[],args,[]⟩).memory args fuel = true)
    (hx : X (w0.forCall (fun _ _ => 0) ⟨#[],args,[]⟩).memory args) :
    ∃ (w : World) (tape : Tape) (i : Input),w.os = os ∧ (w.forCall tape i).Shaped C.prog ∧ i.vars = [] ∧ Input.okWide C.prog (w.forCall tape i) .any w.heap.size f i ∧
      ((s.pre enc C.prog fn conds apart (w.forCall tape i).memory i.args ∧ X (w.forCall tape i).memory i.args) ∧ sizedMet enc C.prog fn s apart (w.forCall tape i).memory i.args) ∧ ({ modest := modest } : Assume).holds C.prog (lone (Frame.enter C.prog f i.args .normal) [] (w.forCall tape i)) := by
  cases hw : DataW.whole enc C.prog (w0.forCall (fun _ _ => 0) ⟨#[],args,[]⟩).memory fn.params.toList s.vars apart args.toList fuel with
  | none => rw [hw] at hpre; cases hpre
  | some x =>
    rw [hw] at hpre
    simp only [Bool.and_eq_true] at hpre
    exact ⟨w0,fun _ _ => 0,⟨#[],args,[]⟩,hos,hsh,(Input.okWide_of_okWideB (base := 0) hok).1,(Input.okWide_of_okWideB hok).2,⟨⟨(OpenSpec.pre_some hk conds apart _ _).2 ⟨x.1,x.2.1,x.2.2,DataW.Whole_of_whole hw,hpre.1,hpre.2⟩,hx⟩,sizedMet_of_sizedB hsz⟩,by
      simp only [Assume.holds]
      exact ⟨by simp,by simp,fun _ => Modest.zero,by simp,by simp⟩⟩
theorem lifted (os : Os) (started : os.Started) (H : Type) (enc : TypeId × Value → H) (F : Stop.Interp) :
    ReturnsInHanded {} Tryd.checked os 4 .any (fun w args => ((Rows.OpenSpec.upto Rows.printUnlikeSpec).pre enc Tryd.prog Tryd.f4 [] false w args ∧ laidMetH Tryd.prog Rows.printUnlikeUptoRow.laid w) ∧ sizedMet enc Tryd.prog Tryd.f4 (Rows.OpenSpec.upto Rows.printUnlikeSpec) false w args)
      (((Rows.OpenSpec.upto Rows.printUnlikeSpec).at F).post enc Tryd.prog Tryd.f4 false true false false) := by
  refine ret_cond_and (C := Tryd.checked) (s := Rows.OpenSpec.upto Rows.printUnlikeSpec) (k := Rows.uptoSmall) rfl (X := fun w _ => laidMetH Tryd.prog Rows.printUnlikeUptoRow.laid w) (fun _ _ _ hh h => h.of_heap hh) own_ started (by kernel_rfl) Tryd.func4
    (wit_cond (enc := enc) (C := Tryd.checked) (os := os) (s := Rows.OpenSpec.upto Rows.printUnlikeSpec) (k := Rows.uptoSmall) rfl (X := fun w _ => laidMetH Tryd.prog Rows.printUnlikeUptoRow.laid w) false (World.laidAll Tryd.prog os Rows.printUnlikeUptoRow.laid) #[.agg #[.string (⟨#[]⟩ : ByteArray),.slice none 0 0,.slice none 0 0,.string (⟨#[]⟩ : ByteArray),.slice none 0 0,.slice none 0 0,.slice none 0 0,.slice none 0 0,.string (⟨#[]⟩ : ByteArray),.slice none 0 0,.string (⟨#[]⟩ : ByteArray),.slice none 0 0]] 8 (World.laidAll_os _ _ _)
      (World.shaped_of_ZipB (by kernel_rfl) (by kernel_rfl)) (by kernel_rfl) (by kernel_rfl) (by kernel_rfl)
      (by rw [MakeChecks.laidMetH_plain _ _ _ (by kernel_rfl)]; exact laidMet_laidAll _ (by kernel_rfl) (by kernel_rfl))) ?_
  intro W base args ds gs before hval0 hW hkk hS hL
  have hval : ∀ (j : Nat) t v,Tryd.f4.params[j]? = some t → args[j]? = some v → Value.okWide Tryd.prog W .any base t v := hval0
  have hW' := hW
  have hlt := DataW.Whole.lt hW
  obtain ⟨p,q,hA0,hV,rfl,_,_⟩ := hW
  have hA : DataW.TrodAll enc Tryd.prog W 0 (fun _ => true) true Tryd.f4.params.toList args.toList ds p := hA0
  have hAk := hA
  rw [Tryd.params4] at hA hval
  obtain ⟨v0,d0,rfl,rfl,h0⟩ := trodAll_one hA
  obtain ⟨rfl,rfl⟩ := trodVars_none hV
  have hS' : ((DataW.weightsEach Tryd.prog (Tryd.f4.params.toList ++ DataSpec.varTypes Tryd.prog Rows.printUnlikeSpec.plain) ([d0] ++ [])).all fun x => decide (x ≤ reachBytes)) = true := hS
  rw [Tryd.params4] at hS'
  obtain ⟨cs0,rfl,hcs0⟩ := okWide_struct Tryd.underlying48 (hval 0 48 v0 rfl rfl)
  obtain ⟨fuel0,hf0⟩ := h0
  replace hf0 : DataW.trod enc Tryd.prog W 0 (fun _ => true) true fuel0 48 cs0.toList = some (d0,p) := hf0
  obtain ⟨x,y,Ah,Ab,ch,cb,Bh,Bb,dh,db,l,l2,Al,Al2,cl,cl2,qa,qb,Aq,Aq2,cq,cq2,hc0,ho,ho2,hrh,hrb,hsh,hsb,hfl,hfl2,hrl,hrl2,hoq,hoq2,hrq,hrq2⟩ := Go.Proofs.Dw.o_W hf0 (fun k hk => by
    have := List.all_eq_true.1 hS' k (DataW.weights_mem_each (j := 0) (t := 48) (d := d0) rfl rfl k hk)
    simpa using this)
  have hd0 : cs0 = ([.string x.p,.slice Ah x.head.length ch,.slice Ab x.body.length cb,.string y.p,.slice Bh y.head.length dh,.slice Bb y.body.length db,.slice Al l.length cl,.slice Al2 l2.length cl2,.string qa.p,.slice Aq qa.args.length cq,.string qb.p,.slice Aq2 qb.args.length cq2] : List Value).toArray := Array.ext' hc0
  have hkb : Rows.uptoBulk d0 ≤ 1048576 := by
    have hk2 : decide (Rows.uptoBulkAll ([d0] ++ []) ≤ 1048576) = true := hkk
    rw [decide_eq_true_eq] at hk2
    simpa [Rows.uptoBulkAll] using hk2
  have h2 := DataW.TrodAll.respare (spare' := fun b => decide (b < W.heap.size)) kids_ full_ (by rw [Tryd.params4]; decide) hAk (fun x hx => by simpa using hlt x (by simpa using hx))
  subst hd0
  refine Calls.mono (Go.Proofs.Dw.l_PrintUnlike x y Ah Ab ch cb Bh Bb dh db l l2 Al Al2 cl cl2 qa qb Aq Aq2 cq cq2 W ho ho2 hrh hrb hsh hsb (Nat.le_trans hfl (Nat.le_trans hkb (by decide))) (Nat.le_trans hfl2 (Nat.le_trans hkb (by decide))) hrl hrl2 hoq hoq2 hrq hrq2 (tabs_of hL) (rels_of hL) (folds_of hL) (keywords_of hL)) ?_
  rintro en W' ⟨v,rfl,rfl,xe_⟩
  have hbl := Ext.below xe_
  refine ⟨_,rfl,_,_,_,[],p,[],hW',?_,?_,rfl,hbl.frame _,fun h => by cases h⟩
  · exact trodAll_mk1 (shut_bool Tryd.underlying4 true)
  rw [Tryd.params4] at h2 ⊢
  obtain ⟨v1,d1,hv1,hd1,fuel2,hf2⟩ := trodAll_one h2
  simp only [List.cons.injEq,and_true] at hd1
  subst hd1
  refine trodAll_mk1 ⟨fuel2,?_⟩
  have hv2 : v1 = .agg ([.string x.p,.slice Ah x.head.length ch,.slice Ab x.body.length cb,.string y.p,.slice Bh y.head.length dh,.slice Bb y.body.length db,.slice Al l.length cl,.slice Al2 l2.length cl2,.string qa.p,.slice Aq qa.args.length cq,.string qb.p,.slice Aq2 qb.args.length cq2] : List Value).toArray := by simpa using hv1.symm
  subst hv2
  exact DataW.trod_carry fuel2 _ _ _ hf2 (fun q hq => hbl.same (hlt q (by simpa using hq)))
theorem f_holds : Rows.PrintUnlikeUptoSaid :=
  OpenClaim.holds_of_cond 4 Tryd.f4 rfl rfl rfl rfl rfl rfl rfl ⟨rfl,rfl,rfl,rfl,rfl⟩ rfl rfl rfl rfl rfl (by kernel_rfl) Tryd.func4 (by kernel_rfl)
    (of_decide_eq_true (by kernel_rfl)) (by unfold Func.isWrapper; rw [if_neg (of_decide_eq_false (by kernel_rfl))]; exact ⟨rfl,rfl⟩)
    (fun os started H enc _ F => lifted os started H enc F)
end Go.Proofs.YtjjkfbjidpolmaaDoor

set_option maxRecDepth 100000
namespace Go.Proofs.YtjjkfbjidpolmaaDoor
open Go Go.Proofs
theorem printUnlikeUpto_card : Rows.PrintUnlikeUptoCardSaid :=
  Claim7.holds_tied_plain_at .later [] [.data, .data, .data, .data, .data, .data, .data, .data, .data] true (true, "f9b163ee32c683b5f99a16a9ac894b2e9d31e0e6d403022d3a5450b1385501f6") true
    f_holds (fun _ h => by cases h) (by kernel_rfl) (fun _ h => by cases h) printUnlikeUpto_row_tie rfl ⟨rfl,rfl⟩ (by kernel_rfl) rfl
    (fun f fn hf hfn => by
      obtain rfl : f = 4 := Option.some.inj ((show Tryd.prog.funcNamed "pedigree/pedigreelaw06.PrintUnlike" = some 4 by kernel_rfl).symm.trans hf) |>.symm
      obtain rfl : fn = Tryd.f4 := (Option.some.inj (Tryd.func4.symm.trans hfn)).symm
      exact ⟨by kernel_rfl,fun j t ht => by
        rw [Tryd.params4] at ht
        have hm : t ∈ [48] := by simpa using Array.mem_of_getElem? ht
        have hall : ([48].all fun u => !Tryd.prog.wantsStandIn u) = true := by kernel_rfl
        exact (show Tryd.prog.wantsStandIn t = false by simpa using List.all_eq_true.1 hall t hm)⟩)
    (by kernel_rfl)
end Go.Proofs.YtjjkfbjidpolmaaDoor
