/- YtjjkfbjidpolmaaDoorLD: part of the proof of this seat, by an AI agent: the arguments are opened; the row; the tied card: the law returns true for every input that the row lets in, its arguments read behind the call as before. No condition of its own but those that its theorems state. -/
import Derived.Test.YtjjkfbjidpolmaaDoorLC
import Derived.Test.YtjjkfbjidpolmaaDoorRows
import Derived.ChangeArms
import Derived.DataReads
import Derived.SizedLaws
import Derived.Deep.Slices
import Derived.ChangeSame
import Derived.ChangeVars
import Derived.JoinedOf
import Derived.RowKit
import Derived.RowKit2
import Derived.RowKitTokens
import Derived.LaidLaws
import Derived.LaidHandle
import Derived.Stop.Joined
import Derived.ReadAgain
import Derived.ChangeAlike
import Derived.JoinedAt
import Derived.ProofKit
import Derived.OpenShut
import Derived.LaidMore
import Derived.Lay
import Derived.LaidSub
import Derived.Test.YtjjkfbjidpolmaaDoorCards
import Derived.Test.YtjjkfbjidpolmaaDoorTie
import Derived.SevenTiedAt
set_option maxHeartbeats 4000000
set_option linter.unusedVariables false
set_option linter.unusedSimpArgs false
set_option maxRecDepth 10000
namespace Go.Proofs.Dw
open Go Go.Wk Go.Proofs Go.Lib
attribute [local irreducible] Go.wpList Go.wpStill Go.wpQuiet Go.Code.wp Go.Calls
theorem F_e27 : enterable Tryd.prog 27 = true := by kernel_rfl
theorem F_e32 : enterable Tryd.prog 32 = true := by kernel_rfl
theorem F_e71 : enterable Tryd.prog 71 = true := by kernel_rfl
theorem F_f61_0 : fieldAt Tryd.prog 61 0 0 = true := by kernel_rfl
theorem F_f61_1 : fieldAt Tryd.prog 61 1 1 = true := by kernel_rfl
theorem F_l43 : sliceT Tryd.prog 43 2 = true := by kernel_rfl
theorem F_l59 : sliceT Tryd.prog 59 3 = true := by kernel_rfl
theorem F_o59 : one Tryd.prog 59 = true := by kernel_rfl
theorem p_mayBe (x : Fc) (A : Option Addr) (c : Nat) (w : World) (ho : x.okc c) (hr : Row RV 3 w A x.args) (tk : KwT Tryd.prog w) :
    Rt Tryd.prog 38 #[.agg #[.string x.p,.slice A x.args.length c]] w fun v w' => v = .bool (mayB x) ∧ Ext w w' := by
  refine enter Tryd.func38 rfl (l := [.agg #[.string x.p,.slice A x.args.length c]]) rfl Tryd.ntmps38 (Nat.le_of_ble_eq_true rfl) ?_
  have hp_ := Fc.okc.p ho
  have hl_ := Fc.okc.l ho
  have hc_ := Fc.okc.c ho
  refine c_seq (c_reg (s_box (v := .agg #[.string x.p,.slice A x.args.length c]) (cs := #[.string x.p,.slice A x.args.length c]) (w0 rfl) (ej rfl rfl) rfl ?_))
  intro w2 g1 n3
  refine s_assign (v := .bool false) ev_c (w0 rfl) (c_done (n_then (c_seq (c_seq (c_reg (s_field (off := 1) (o' := 1) F_f61_1 (ej rfl rfl) rfl (w0 rfl) (s_load (v := .slice A x.args.length c) F_o59 (ej rfl rfl) (cell_of_blk (i := 1) (NewB.blk n3) rfl) (w0 rfl) (s_lenL F_l59 (ej rfl rfl) (w0 rfl) (s_move (v := .int .i64 0) ev_c (w0 rfl) (c_done (n_then ?_)))))))))))
  refine c_block ?_
  refine c_loop (α := Nat) (fun (i : Nat) env_ w_ => Ext w2 w_ ∧ i ≤ x.args.length ∧ (∀ j y,j < i → x.args[j]? = some y → okV y = true) ∧ env_ 1 = .pointer (some ⟨g1,0,none⟩) ∧ env_ 6 = .slice A x.args.length c ∧ env_ 7 = .int .i64 (x.args.length : Int) ∧ env_ 8 = .int .i64 ((i : Nat) : Int)) (fun i => x.args.length - i) (0) ⟨Ext.refl _,Nat.zero_le _,(fun j y h => absurd h (Nat.not_lt_zero j)),rfl,rfl,rfl,rfl⟩ ?_
  rintro i env6 w4 ⟨x5,i7,i8,e9,e10,e11,e12⟩
  refine c_seq (c_reg (s_cmp (r := decide (((i : Nat) : Int) < (x.args.length : Int))) (ej rfl e12) (ej rfl e11) rfl (w0 rfl) (c_done (n_then (c_seq ?_)))))
  by_cases h13 : ((i : Nat) : Int) < (x.args.length : Int)
  · refine c_cond1 (vb (ej rfl rfl) (decide_eq_true h13)) (c_skip (n_then (c_seq (c_block (c_seq (c_reg ?_))))))
    obtain ⟨b14,o15,x16,csx16,hA17,hx18,hR19,hc20⟩ := Row.at_ hr i (by omega)
    obtain rfl := vlAt_of hx18
    obtain ⟨rfl,wf21⟩ := hR19
    refine s_indexR (j := i) F_l59 (ej rfl e10) hA17 (ej rfl e12) rfl (by omega) (w0 rfl) (s_loadL (cs := [.int .i8 ((vlAt x.args i).k),.int .i64 ((vlAt x.args i).n),.string ((vlAt x.args i).s)]) F_m26 (ej rfl rfl) rfl rfl (sub_cells (cells_ext x5 (cells_ext (NewB.ext n3) hc20)) 0 rfl) (w0 rfl) (s_alloc (cs := #[.int .i8 0,.int .i64 0,.string (⟨#[]⟩ : ByteArray)]) (w0 rfl) F_z26 rfl ?_))
    intro w23 g22 n24
    refine s_store (cs' := #[.int .i8 ((vlAt x.args i).k),.int .i64 ((vlAt x.args i).n),.string ((vlAt x.args i).s)]) F_sz26 (ej rfl rfl) (ej rfl rfl) (l := [.int .i8 ((vlAt x.args i).k),.int .i64 ((vlAt x.args i).n),.string ((vlAt x.args i).s)]) rfl rfl rfl (NewB.blk n24) (Nat.le_of_ble_eq_true rfl) rfl (w0 rfl) ?_
    intro w25 k26
    refine c_done (n_then (c_seq (c_reg (s_loadL (cs := [.int .i8 ((vlAt x.args i).k),.int .i64 ((vlAt x.args i).n),.string ((vlAt x.args i).s)]) F_m26 (ej rfl rfl) rfl rfl (blk_cells (Wrote.blk k26) 0 rfl) (w0 rfl) (s_call F_e70 (w0 rfl) ev_f (m1 (ej rfl rfl)) (args := #[.agg #[.int .i8 ((vlAt x.args i).k),.int .i64 ((vlAt x.args i).n),.string ((vlAt x.args i).s)]]) rfl (v_Check (vlAt x.args i) _) ?_)))))
    rintro _ w28 ⟨rfl,x27⟩
    refine s_cmp (r := !(okV (vlAt x.args i))) (ej rfl rfl) ev_c (ci_tn (b := (okV (vlAt x.args i))) (by decide)) (w0 rfl) (c_done (n_then ?_))
    rcases Bool.eq_false_or_eq_true (okV (vlAt x.args i)) with h29 | h29
    · refine c_cond0 (vb (ej rfl rfl) (nbt h29)) (c_skip (n_block (n_then (c_reg (s_add (r := ((i + 1 : Nat) : Int)) (ej rfl e12) ev_c (by omega) (by omega) (w0 rfl) (s_move (v := .int .i64 ((i + 1 : Nat) : Int)) (ej rfl rfl) (w0 rfl) (c_done ?_)))))))
      exact ⟨(i + 1),_,rfl,⟨(Ext.trans (Keep.then_ (Ext.trans x5 (NewB.ext n24)) (Wrote.keep k26) (fun i_ hi_ h_ => by have a_ := NewB.eq n24; have b_ := Keep.size x5; omega)) x27),by omega,(kids_step i8 (vlAt_there (by omega)) (by assumption)),e9,e10,e11,rfl⟩,(show x.args.length - (i + 1) < x.args.length - i by omega)⟩
    refine c_cond1 (vb (ej rfl rfl) (nbf h29)) (c_seq (c_reg (s_assign (v := .bool false) ev_c (w0 rfl) (c_done (n_then (c_ret (r_block (r_then (r_then (r_block (r_then ?_)))))))))))
    refine ret1 (v := .bool false) rfl rfl rfl ?_
    refine ⟨_,rfl,?_,(Ext.trans (Keep.then_ (Ext.trans (Ext.trans (NewB.ext n3) x5) (NewB.ext n24)) (Wrote.keep k26) (fun i_ hi_ h_ => by have a_ := NewB.eq n24; have b_ := Keep.size (Ext.trans (NewB.ext n3) x5); omega)) x27)⟩
    (refine congrArg Value.bool ?_; unfold mayB; first | (rw [all_no (vlAt_there (l := x.args) (j := i) (by omega)) (by assumption)]; simp only [Bool.false_and]; done) | (rw [all_yes (by omega) i8]; ((try simp only [*,decide_true,decide_false,if_true,if_false,Bool.and_true,Bool.true_and,Bool.false_and,Bool.and_false,Bool.not_true,Bool.not_false,Bool.false_eq_true,reduceIte,not_true_eq_false,not_false_eq_true]); first | done | rfl)))
  refine c_cond0 (vb (ej rfl rfl) (decide_eq_false h13)) (c_exit (e_then (e_then (e_hit (n_then (c_seq (c_reg (s_field (off := 0) (o' := 0) F_f61_0 (ej rfl e9) rfl (w0 rfl) (s_load (v := .string x.p) F_o9 (ej rfl rfl) (cell_of_blk (i := 0) (Ext.blk x5 (NewB.blk n3)) rfl) (w0 rfl) (s_call F_e71 (w0 rfl) ev_f (m1 (ej rfl rfl)) (args := #[.string x.p]) rfl (x_Name x.p _ (by omega) (KwT.ext tk (Ext.trans (NewB.ext n3) x5))) ?_))))))))))
  rintro _ w31 ⟨rfl,x30⟩
  rcases Bool.eq_false_or_eq_true (nameB x.p) with h32 | h32
  · refine s_move (v := .bool true) (vb (ej rfl rfl) h32) (w0 rfl) (s_field (off := 1) (o' := 1) F_f61_1 (ej rfl e9) rfl (wy rfl rfl rfl rfl) (s_load (v := .slice A x.args.length c) F_o59 (ej rfl rfl) (cell_of_blk (i := 1) (Ext.blk x30 (Ext.blk x5 (NewB.blk n3))) rfl) (wy rfl rfl rfl rfl) (s_lenL F_l59 (ej rfl rfl) (wy rfl rfl rfl rfl) (s_cmp (r := decide ((x.args.length : Int) ≤ 24)) (ej rfl rfl) ev_c rfl (wy rfl rfl rfl rfl) (s_pick1 (v := .bool (decide ((x.args.length : Int) ≤ 24))) (ej rfl rfl) (ej rfl rfl) (w0 rfl) (s_assign (v := .bool (decide ((x.args.length : Int) ≤ 24))) (ej rfl rfl) (w0 rfl) (c_done (n_then (c_ret (ret1 (v := .bool (decide ((x.args.length : Int) ≤ 24))) rfl rfl rfl ?_))))))))))
    refine ⟨_,rfl,?_,(Ext.trans (Ext.trans (NewB.ext n3) x5) x30)⟩
    (refine congrArg Value.bool ?_; unfold mayB; first | (rw [all_no (vlAt_there (l := x.args) (j := i) (by omega)) (by assumption)]; simp only [Bool.false_and]; done) | (rw [all_yes (by omega) i8]; ((try simp only [*,decide_true,decide_false,if_true,if_false,Bool.and_true,Bool.true_and,Bool.false_and,Bool.and_false,Bool.not_true,Bool.not_false,Bool.false_eq_true,reduceIte,not_true_eq_false,not_false_eq_true]); first | done | rfl)))
  refine s_move (v := .bool false) (vb (ej rfl rfl) h32) (w0 rfl) (s_skip (wn rfl rfl rfl rfl rfl) (s_skip (wn rfl rfl rfl rfl rfl) (s_skip (wn rfl rfl rfl rfl rfl) (s_skip (wn rfl rfl rfl rfl rfl) (s_pick0 (v := .bool false) (ej rfl rfl) ev_c (w0 rfl) (s_assign (v := .bool false) (ej rfl rfl) (w0 rfl) (c_done (n_then (c_ret (ret1 (v := .bool false) rfl rfl rfl ?_))))))))))
  refine ⟨_,rfl,?_,(Ext.trans (Ext.trans (NewB.ext n3) x5) x30)⟩
  (refine congrArg Value.bool ?_; unfold mayB; first | (rw [all_no (vlAt_there (l := x.args) (j := i) (by omega)) (by assumption)]; simp only [Bool.false_and]; done) | (rw [all_yes (by omega) i8]; ((try simp only [*,decide_true,decide_false,if_true,if_false,Bool.and_true,Bool.true_and,Bool.false_and,Bool.and_false,Bool.not_true,Bool.not_false,Bool.false_eq_true,reduceIte,not_true_eq_false,not_false_eq_true]); first | done | rfl)))
theorem l_BeyondFacts (l : List Fc) (A : Option Addr) (c : Nat) (w : World) (hl : l.length * 40 ≤ 140737488351232) (hr : Row RF 2 w A l) :
    Rt Tryd.prog 32 #[.slice A l.length c] w fun v w' => (∃ z : Bool,v = .bool z ∧ (z = false → (l.length ≤ 1048577 ∧ ∀ (j : Nat) (y : Fc),l[j]? = some y → y.args.length ≤ 1048576))) ∧ Ext w w' := by
  refine enter Tryd.func32 rfl (l := [.slice A l.length c]) rfl Tryd.ntmps32 (Nat.le_of_ble_eq_true rfl) ?_
  refine c_seq (c_reg (s_assign (v := .bool false) ev_c (w0 rfl) (c_done (n_then (c_seq (c_reg (s_assign (v := .int .i64 0) ev_c (w0 rfl) (c_done (n_then (c_seq (c_seq ?_)))))))))))
  refine c_reg (s_assign (v := .int .i64 0) ev_c (w0 rfl) (c_done (n_then (c_block ?_))))
  refine c_loop (α := Nat × Nat) (fun x_ env_ w_ => match x_ with | (i,nn) => Ext w w_ ∧ i ≤ l.length ∧ i ≤ nn ∧ nn ≤ 1048576 ∧ (∀ (j : Nat) (y : Fc),j < i → l[j]? = some y → y.args.length ≤ 1048576) ∧ env_ 0 = .slice A l.length c ∧ env_ 3 = .int .i64 ((nn : Nat) : Int) ∧ env_ 4 = .int .i64 ((i : Nat) : Int)) (fun x_ => match x_ with | (i,nn) => l.length - i) (0,0) ⟨Ext.refl _,Nat.zero_le _,Nat.zero_le _,(by omega),(fun j y h => absurd h (Nat.not_lt_zero j)),rfl,rfl,rfl⟩ ?_
  rintro ⟨i,nn⟩ env3 w1 ⟨x2,i4,i5,i6,i7,e8,e9,e10⟩
  refine c_seq (c_seq (c_reg (s_move (v := .int .i64 ((i : Nat) : Int)) (ej rfl e10) (w0 rfl) (s_move (v := .slice A l.length c) (ej rfl e8) (w0 rfl) (s_lenL F_l43 (ej rfl rfl) (w0 rfl) (s_cmp (r := decide (((i : Nat) : Int) < (l.length : Int))) (ej rfl rfl) (ej rfl rfl) rfl (w0 rfl) (c_done (n_then ?_))))))))
  by_cases h11 : ((i : Nat) : Int) < (l.length : Int)
  · refine c_cond1 (vb (ej rfl rfl) (decide_eq_true h11)) (c_skip (n_then (c_seq (c_block (c_seq (c_reg (s_move (v := .int .i64 ((nn : Nat) : Int)) (ej rfl e9) (w0 rfl) (s_add (r := ((nn + 1 : Nat) : Int)) (ej rfl rfl) ev_c (by omega) (by omega) (w0 rfl) (s_move (v := .slice A l.length c) (ej rfl e8) (w0 rfl) (s_move (v := .int .i64 ((i : Nat) : Int)) (ej rfl e10) (w0 rfl) ?_))))))))))
    obtain ⟨b12,o13,x14,csx14,hA15,hx16,hR17,hc18⟩ := Row.at_ hr i (by omega)
    obtain rfl := fcAt_of hx16
    obtain ⟨A19,c20,rfl,ho21,hr22⟩ := hR17
    have := Fc.okc.p ho21
    have := Fc.okc.l ho21
    have := Fc.okc.c ho21
    refine s_indexR (j := i) F_l43 (ej rfl rfl) hA15 (ej rfl rfl) rfl (by omega) (w0 rfl) (s_field (off := 1) (o' := o13 + i * 2 + 1) F_f61_1 (ej rfl rfl) rfl (w0 rfl) (s_load (v := .slice A19 ((fcAt l i).args.length) c20) F_o59 (ej rfl rfl) ((cells_ext x2 hc18) 1 _ rfl) (w0 rfl) (s_lenL F_l59 (ej rfl rfl) (w0 rfl) (s_add (r := ((nn + 1 + (fcAt l i).args.length : Nat) : Int)) (ej rfl rfl) (ej rfl rfl) (by omega) (by omega) (w0 rfl) (s_assign (v := .int .i64 ((nn + 1 + (fcAt l i).args.length : Nat) : Int)) (ej rfl rfl) (w0 rfl) (c_done (n_then (c_seq (c_reg (s_move (v := .int .i64 ((nn + 1 + (fcAt l i).args.length : Nat) : Int)) (ej rfl rfl) (w0 rfl) (s_cmp (r := decide (1048576 < ((nn + 1 + (fcAt l i).args.length : Nat) : Int))) (ej rfl rfl) ev_c rfl (w0 rfl) ?_)))))))))))
    refine c_done (n_then ?_)
    by_cases h23 : 1048576 < ((nn + 1 + (fcAt l i).args.length : Nat) : Int)
    · refine c_cond1 (vb (ej rfl rfl) (decide_eq_true h23)) (c_seq (c_reg (s_assign (v := .bool true) ev_c (w0 rfl) (c_done (n_then (c_ret (r_block (r_then (r_then (r_block (r_then ?_)))))))))))
      refine ret1 (v := .bool true) rfl rfl rfl ?_
      exact ⟨_,rfl,⟨_,rfl,fun h_ => by cases h_⟩,x2⟩
    refine c_cond0 (vb (ej rfl rfl) (decide_eq_false h23)) (c_skip (n_block (n_then (c_reg (s_move (v := .int .i64 ((i : Nat) : Int)) (ej rfl e10) (w0 rfl) (s_add (r := ((i + 1 : Nat) : Int)) (ej rfl rfl) ev_c (by omega) (by omega) (w0 rfl) (s_assign (v := .int .i64 ((i + 1 : Nat) : Int)) (ej rfl rfl) (w0 rfl) (c_done ?_))))))))
    exact ⟨(i + 1,nn + 1 + (fcAt l i).args.length),_,rfl,⟨x2,by omega,by omega,by omega,(few_step i7 (by omega)),e8,rfl,rfl⟩,(show l.length - (i + 1) < l.length - i by omega)⟩
  refine c_cond0 (vb (ej rfl rfl) (decide_eq_false h11)) (c_exit (e_then (e_then (e_hit (n_then (c_seq (c_reg (s_assign (v := .bool false) ev_c (w0 rfl) (c_done (n_then (c_ret ?_)))))))))))
  refine ret1 (v := .bool false) rfl rfl rfl ?_
  exact ⟨_,rfl,⟨_,rfl,fun h_ => ⟨by omega,fun j_ y_ h_ => i7 j_ y_ (by have z_ := (List.getElem?_eq_some_iff.1 h_).1; omega) h_⟩⟩,x2⟩
theorem l_BeyondJob (rs : List Ru) (Ar : Option Addr) (cr : Nat) (l : List Fc) (A : Option Addr) (c : Nat) (w : World) (hl : rs.length * 64 ≤ 140737488351232) (hrr : Row RU 3 w Ar rs) (hlf : l.length * 40 ≤ 140737488351232) (hr : Row RF 2 w A l) :
    Rt Tryd.prog 13 #[.slice Ar rs.length cr,.slice A l.length c] w fun v w' => (∃ z : Bool,v = .bool z ∧ (z = false → rs.length ≤ 1048577 ∧ (l.length ≤ 1048577 ∧ ∀ (j : Nat) (y : Fc),l[j]? = some y → y.args.length ≤ 1048576))) ∧ Ext w w' := by
  refine enter Tryd.func13 rfl (l := [.slice Ar rs.length cr,.slice A l.length c]) rfl Tryd.ntmps13 (Nat.le_of_ble_eq_true rfl) ?_
  refine c_seq (c_reg (s_assign (v := .bool false) ev_c (w0 rfl) (c_done (n_then (c_seq (c_reg (s_move (v := .slice Ar rs.length cr) (ej rfl rfl) (w0 rfl) (s_call F_e27 (w0 rfl) ev_f (m1 (ej rfl rfl)) (args := #[.slice Ar rs.length cr]) rfl (l_BeyondRules rs Ar cr _ hl hrr) ?_))))))))
  rintro _ w2 ⟨⟨z1,rfl,hfew4⟩,x3⟩
  rcases Bool.eq_false_or_eq_true z1 with h5 | h5
  · refine s_move (v := .bool true) (vb (ej rfl rfl) h5) (w0 rfl) (s_skip (wn rfl rfl rfl rfl rfl) (s_skip (wn rfl rfl rfl rfl rfl) (s_pick1 (v := .bool true) (ej rfl rfl) ev_c (w0 rfl) (s_assign (v := .bool true) (ej rfl rfl) (w0 rfl) (c_done (n_then (c_ret (ret1 (v := .bool true) rfl rfl rfl ?_))))))))
    exact ⟨_,rfl,⟨_,rfl,fun h_ => by cases h_⟩,x3⟩
  refine s_move (v := .bool false) (vb (ej rfl rfl) h5) (w0 rfl) (s_move (v := .slice A l.length c) (ej rfl rfl) (wy rfl rfl rfl rfl) (s_call F_e32 (wy rfl rfl rfl rfl) ev_f (m1 (ej rfl rfl)) (args := #[.slice A l.length c]) rfl (l_BeyondFacts l A c _ hlf (Row.extF hr x3)) ?_))
  rintro _ w7 ⟨⟨z6,rfl,hfew9⟩,x8⟩
  refine s_pick0 (v := .bool z6) (ej rfl rfl) (ej rfl rfl) (w0 rfl) (s_assign (v := .bool z6) (ej rfl rfl) (w0 rfl) (c_done (n_then (c_ret (ret1 (v := .bool z6) rfl rfl rfl ?_)))))
  exact ⟨_,rfl,⟨_,rfl,fun h_ => ⟨hfew4 (by assumption),hfew9 h_⟩⟩,(Ext.trans x3 x8)⟩
theorem l_plain (s : ByteArray) (w : World) (hs : s.size ≤ 140737488351232) :
    Rt Tryd.prog 16 #[.string s] w fun v w' => v = .bool (plainB s) ∧ Ext w w' := by
  refine enter Tryd.func16 rfl (l := [.string s]) rfl Tryd.ntmps16 (Nat.le_of_ble_eq_true rfl) ?_
  refine c_seq (c_reg (s_assign (v := .bool false) ev_c (w0 rfl) (c_done (n_then (c_seq (c_seq (c_reg (s_assign (v := .int .i64 0) ev_c (w0 rfl) (c_done (n_then (c_block ?_)))))))))))
  refine c_loop (α := Nat) (fun (i : Nat) env_ w_ => Ext w w_ ∧ (∀ j,j < i → 32 ≤ byteAt s j ∧ byteAt s j ≤ 126) ∧ i ≤ s.size ∧ env_ 0 = .string s ∧ env_ 3 = .int .i64 ((i : Nat) : Int)) (fun i => s.size - i) (0) ⟨Ext.refl _,(fun j hj => absurd hj (Nat.not_lt_zero j)),Nat.zero_le _,rfl,rfl⟩ ?_
  rintro i env3 w1 ⟨x2,i4,i5,e6,e7⟩
  refine c_seq (c_seq (c_reg (s_move (v := .int .i64 ((i : Nat) : Int)) (ej rfl e7) (w0 rfl) (s_move (v := .string s) (ej rfl e6) (w0 rfl) (s_lenS F_us9 (ej rfl rfl) (w0 rfl) (s_cmp (r := decide (((i : Nat) : Int) < (s.size : Int))) (ej rfl rfl) (ej rfl rfl) rfl (w0 rfl) (c_done (n_then ?_))))))))
  by_cases h8 : ((i : Nat) : Int) < (s.size : Int)
  · refine c_cond1 (vb (ej rfl rfl) (decide_eq_true h8)) (c_skip (n_then (c_seq (c_block (c_seq (c_reg (s_move (v := .string s) (ej rfl e6) (w0 rfl) (s_move (v := .int .i64 ((i : Nat) : Int)) (ej rfl e7) (w0 rfl) (s_byte (j := i) F_us9 (ej rfl rfl) (ej rfl rfl) rfl (by omega) (w0 rfl) (s_cmp (r := decide ((byteAt s i : Int) < 32)) (ej rfl rfl) ev_c rfl (w0 rfl) ?_))))))))))
    by_cases h9 : (byteAt s i : Int) < 32
    · refine s_move (v := .bool true) (vb (ej rfl rfl) (decide_eq_true h9)) (w0 rfl) (s_skip (wn rfl rfl rfl rfl rfl) (s_skip (wn rfl rfl rfl rfl rfl) (s_skip (wn rfl rfl rfl rfl rfl) (s_skip (wn rfl rfl rfl rfl rfl) (s_pick1 (v := .bool true) (ej rfl rfl) ev_c (w0 rfl) (c_done (n_then (c_cond1 (ej rfl rfl) (c_seq (c_reg (s_assign (v := .bool false) ev_c (w0 rfl) ?_)))))))))))
      refine c_done (n_then (c_ret (r_block (r_then (r_then (r_block (r_then (ret1 (v := .bool false) rfl rfl rfl ?_))))))))
      refine ⟨_,rfl,?_,x2⟩
      (exact congrArg Value.bool (plain_no (i := i) (by omega) (by omega)).symm)
    refine s_move (v := .bool false) (vb (ej rfl rfl) (decide_eq_false h9)) (w0 rfl) (s_move (v := .string s) (ej rfl e6) (wy rfl rfl rfl rfl) (s_move (v := .int .i64 ((i : Nat) : Int)) (ej rfl e7) (wy rfl rfl rfl rfl) (s_byte (j := i) F_us9 (ej rfl rfl) (ej rfl rfl) rfl (by omega) (wy rfl rfl rfl rfl) (s_cmp (r := decide (126 < (byteAt s i : Int))) (ej rfl rfl) ev_c rfl (wy rfl rfl rfl rfl) (s_pick0 (v := .bool (decide (126 < (byteAt s i : Int)))) (ej rfl rfl) (ej rfl rfl) (w0 rfl) (c_done (n_then ?_)))))))
    by_cases h10 : 126 < (byteAt s i : Int)
    · refine c_cond1 (vb (ej rfl rfl) (decide_eq_true h10)) (c_seq (c_reg (s_assign (v := .bool false) ev_c (w0 rfl) (c_done (n_then (c_ret (r_block (r_then (r_then (r_block (r_then ?_)))))))))))
      refine ret1 (v := .bool false) rfl rfl rfl ?_
      refine ⟨_,rfl,?_,x2⟩
      (exact congrArg Value.bool (plain_no (i := i) (by omega) (by omega)).symm)
    refine c_cond0 (vb (ej rfl rfl) (decide_eq_false h10)) (c_skip (n_block (n_then (c_reg (s_move (v := .int .i64 ((i : Nat) : Int)) (ej rfl e7) (w0 rfl) (s_add (r := ((i + 1 : Nat) : Int)) (ej rfl rfl) ev_c (by omega) (by omega) (w0 rfl) (s_assign (v := .int .i64 ((i + 1 : Nat) : Int)) (ej rfl rfl) (w0 rfl) (c_done ?_))))))))
    exact ⟨(i + 1),_,rfl,⟨x2,(plain_step i4 (by omega)),by omega,e6,rfl⟩,(show s.size - (i + 1) < s.size - i by omega)⟩
  refine c_cond0 (vb (ej rfl rfl) (decide_eq_false h8)) (c_exit (e_then (e_then (e_hit (n_then (c_seq (c_reg (s_assign (v := .bool true) ev_c (w0 rfl) (c_done (n_then (c_ret ?_)))))))))))
  refine ret1 (v := .bool true) rfl rfl rfl ?_
  refine ⟨_,rfl,?_,x2⟩
  (exact congrArg Value.bool (plain_yes (i := i) (by omega) i4).symm)
end Go.Proofs.Dw

set_option linter.unusedVariables false
set_option linter.unusedSimpArgs false
set_option maxRecDepth 10000
namespace Go.Proofs.Dw
open Go Go.Wk Go.Proofs Go.Lib
attribute [local irreducible] Go.wpList Go.wpStill Go.wpQuiet Go.Code.wp Go.Calls
theorem F_e38 : enterable Tryd.prog 38 = true := by kernel_rfl
theorem F_e40 : enterable Tryd.prog 40 = true := by kernel_rfl
theorem F_m61 : many Tryd.prog 61 2 = true := by kernel_rfl
theorem F_sz61 : (Tryd.prog.info? 61).map (·.size) = some 2 := by kernel_rfl
theorem F_z61 : (Tryd.prog.info? 61).bind (·.zero) = some (.agg #[.string (⟨#[]⟩ : ByteArray),.slice none 0 0]) := by kernel_rfl
theorem p_facts1 (i : Nat) (x : Fc) (A : Option Addr) (c g p2 : Nat) (s0 : ByteArray) (wz : World) (w : World) (x0 : Ext wz w) (tb : Tabs Tryd.prog wz) (hb : BW 5 85 wz.heap.size w g s0) (hr : Row RV 3 wz A x.args) (hp2 : w.heap[p2]? = some (.cells #[.string x.p,.slice A x.args.length c] 61 (0,0))) (hi : i < x.args.length) (hv : okV (vlAt x.args i) = true) (hs : s0.size ≤ 100000000000000) :
    Rt Tryd.prog 40 #[.int .i64 ((i : Nat) : Int),.pointer (some ⟨g,0,none⟩),.pointer (some ⟨p2,0,none⟩)] w fun v w' => v = .tuple #[] ∧ Wr 5 85 wz.heap.size g (s0 ++ termW (vT (vlAt x.args i))) w w' := by
  refine enter Tryd.func40 rfl (l := [.int .i64 ((i : Nat) : Int),.pointer (some ⟨g,0,none⟩),.pointer (some ⟨p2,0,none⟩)]) rfl Tryd.ntmps40 (Nat.le_of_ble_eq_true rfl) ?_
  have hB_ := Keep.size x0
  refine c_reg (s_field (off := 1) (o' := 1) F_f61_1 (ej rfl rfl) rfl (w0 rfl) (s_load (v := .slice A x.args.length c) F_o59 (ej rfl rfl) (cell_of_blk (i := 1) hp2 rfl) (w0 rfl) (s_move (v := .int .i64 ((i : Nat) : Int)) (ej rfl rfl) (w0 rfl) ?_)))
  obtain ⟨b21,o22,x23,csx23,hA24,hx25,hR26,hc27⟩ := Row.at_ hr i (by omega)
  obtain rfl := vlAt_of hx25
  obtain ⟨rfl,wf28⟩ := hR26
  refine s_indexR (j := i) F_l59 (ej rfl rfl) hA24 (ej rfl rfl) rfl (by omega) (w0 rfl) (s_loadL (cs := [.int .i8 ((vlAt x.args i).k),.int .i64 ((vlAt x.args i).n),.string ((vlAt x.args i).s)]) F_m26 (ej rfl rfl) rfl rfl (sub_cells (cells_ext x0 hc27) 0 rfl) (w0 rfl) (s_build (v := .agg #[.string (⟨#[]⟩ : ByteArray),.int .i8 ((vlAt x.args i).k),.int .i64 ((vlAt x.args i).n),.string ((vlAt x.args i).s)]) (vs := [(1,.agg #[.int .i8 ((vlAt x.args i).k),.int .i64 ((vlAt x.args i).n),.string ((vlAt x.args i).s)])]) (b1 (ej rfl rfl)) (bd28_1ii8_1ii64_1s ((vlAt x.args i).k) ((vlAt x.args i).n) ((vlAt x.args i).s)) (w0 rfl) (s_call F_e41 (w0 rfl) ev_f (m2 (ej rfl rfl) (ej rfl rfl)) (args := #[.pointer (some ⟨g,0,none⟩),.agg #[.string (⟨#[]⟩ : ByteArray),.int .i8 ((vlAt x.args i).k),.int .i64 ((vlAt x.args i).n),.string ((vlAt x.args i).s)]]) rfl (p_term (vT (vlAt x.args i)) g (s0) wz _ x0 tb hb (vT_wf wf28) (by have := termW_size (tmB_vT hv) (vT_wf (RV_wf hr hi)); omega)) ?_)))
  rintro _ w29 ⟨rfl,wr30⟩
  refine c_done (ret0 rfl ?_)
  exact ⟨_,rfl,rfl,Wr.cast wr30 (rfl)⟩
theorem p_columnsF (nm : ByteArray) (n : Nat) (l : List ByteArray) (g p2 : Nat) (s0 : ByteArray) (wz : World) (w : World) (x0 : Ext wz w) (tb : Tabs Tryd.prog wz) (hb : BW 5 85 wz.heap.size w g s0) (hnl : n = l.length) (hn : l.length ≤ 24) (hM : ∀ i,i < l.length → (l.getD i ⟨#[]⟩).size ≤ 1000) (hs : s0.size + nm.size + 30000 ≤ 100000000000000) (hone : ∀ (i : Nat) (w' : World) (s1 : ByteArray),i < l.length → Ext wz w' → Bld 5 g w w' → BW 5 85 wz.heap.size w' g s1 → s1.size ≤ 100000000000000 → Rt Tryd.prog 40 #[.int .i64 ((i : Nat) : Int),.pointer (some ⟨g,0,none⟩),.pointer (some ⟨p2,0,none⟩)] w' fun v w2 => v = .tuple #[] ∧ Wr 5 85 wz.heap.size g (s1 ++ l.getD i ⟨#[]⟩) w' w2) :
    Rt Tryd.prog 39 #[.pointer (some ⟨g,0,none⟩),.string nm,.int .i64 ((n : Nat) : Int),.func (.func 40) #[] #[.pointer (some ⟨g,0,none⟩),.pointer (some ⟨p2,0,none⟩)]] w fun v w' => v = .tuple #[] ∧ Wr 5 85 wz.heap.size g (s0 ++ colW nm l) w w' := by
  refine enter Tryd.func39 rfl (l := [.pointer (some ⟨g,0,none⟩),.string nm,.int .i64 ((n : Nat) : Int),.func (.func 40) #[] #[.pointer (some ⟨g,0,none⟩),.pointer (some ⟨p2,0,none⟩)]]) rfl Tryd.ntmps39 (Nat.le_of_ble_eq_true rfl) ?_
  subst hnl
  have hB_ := Keep.size x0
  refine c_seq (c_reg (s_move (v := .pointer (some ⟨g,0,none⟩)) (ej rfl rfl) (w0 rfl) (s_move (v := .string nm) (ej rfl rfl) (w0 rfl) (s_bslice (vs := [(0,.string nm)]) (cs := #[.string nm]) (b1 (ej rfl rfl)) (bs122_1_0s nm) (w0 rfl) ?_))))
  intro w2 g1 n3
  have ne_g1 : g1 ≠ g := by have a_ := NewB.eq n3; have b_ := BW.lt hb; omega
  refine s_call F_e35 (w0 rfl) ev_f (m2 (ej rfl rfl) (ej rfl rfl)) (args := #[.pointer (some ⟨g,0,none⟩),.slice (some ⟨g1,0,none⟩) 1 1]) rfl (p_put 85 _ g g1 (s0) [nm] _ (BW.ext hb (NewB.ext n3)) (Nat.le_trans hB_ (Keep.size (NewB.ext n3))) (by decide) F_lies85 (NewB.blk n3) (by simp only [catL,ByteArray.size_append,z0,z1,z2,z3,z4,z5,z6]; omega) (by simp)) ?_
  rintro _ w4 ⟨rfl,wr5⟩
  refine c_done (n_then (c_seq (c_seq (c_reg (s_move (v := .int .i64 ((l.length : Nat) : Int)) (ej rfl rfl) (w0 rfl) (s_move (v := .int .i64 0) ev_c (w0 rfl) (c_done (n_then (c_block (c_loop (α := Nat) (fun (i : Nat) env_ w_ => Wr 5 85 wz.heap.size g (s0 ++ nm ++ colP l i) w w_ ∧ i ≤ l.length ∧ env_ 0 = .pointer (some ⟨g,0,none⟩) ∧ env_ 2 = .int .i64 ((l.length : Nat) : Int) ∧ env_ 3 = .func (.func 40) #[] #[.pointer (some ⟨g,0,none⟩),.pointer (some ⟨p2,0,none⟩)] ∧ env_ 13 = .int .i64 ((l.length : Nat) : Int) ∧ env_ 14 = .int .i64 ((i : Nat) : Int)) (fun i => l.length - i) (0) ⟨(Wr.cast (Wr.then_ (Wr.of_ext hb (NewB.ext n3) hB_) wr5) (by simp [catL,app_nil,colP])),Nat.zero_le _,rfl,rfl,rfl,rfl,rfl⟩ ?_))))))))))
  rintro i env8 w6 ⟨x7,i9,e10,e11,e12,e13,e14⟩
  have hP_ := colP_le hM i i9
  have hM2_ := hM i
  refine c_seq (c_reg (s_cmp (r := decide (((i : Nat) : Int) < ((l.length : Nat) : Int))) (ej rfl e14) (ej rfl e13) rfl (w0 rfl) (c_done (n_then (c_seq ?_)))))
  by_cases h15 : ((i : Nat) : Int) < ((l.length : Nat) : Int)
  · refine c_cond1 (vb (ej rfl rfl) (decide_eq_true h15)) (c_skip (n_then (c_seq (c_block (c_seq (c_reg (s_move (v := .int .i64 ((i : Nat) : Int)) (ej rfl e14) (w0 rfl) (s_assign (v := .int .i64 ((i : Nat) : Int)) (ej rfl rfl) (w0 rfl) (c_done (n_then (c_seq ?_)))))))))))
    refine c_seq (c_reg (s_move (v := .int .i64 ((i : Nat) : Int)) (ej rfl rfl) (w0 rfl) (s_cmp (r := decide (((i : Nat) : Int) = 0)) (ej rfl rfl) ev_c rfl (w0 rfl) (c_done (n_then ?_)))))
    by_cases h16 : ((i : Nat) : Int) = 0
    · refine c_cond1 (vb (ej rfl rfl) (decide_eq_true h16)) (c_reg (s_move (v := .pointer (some ⟨g,0,none⟩)) (ej rfl e10) (w0 rfl) (s_bslice (vs := [(0,.string (⟨#[40]⟩ : ByteArray))]) (cs := #[.string (⟨#[40]⟩ : ByteArray)]) (b1 ev_c) (bs122_1_0s (⟨#[40]⟩ : ByteArray)) (w0 rfl) ?_)))
      intro w18 g17 n19
      have ne_g17 : g17 ≠ g := by have a_ := NewB.eq n19; have b_ := BW.lt (Wr.bw x7); omega
      refine s_call F_e35 (w0 rfl) ev_f (m2 (ej rfl rfl) (ej rfl rfl)) (args := #[.pointer (some ⟨g,0,none⟩),.slice (some ⟨g17,0,none⟩) 1 1]) rfl (p_put 85 _ g g17 (s0 ++ nm ++ colP l i) [(⟨#[40]⟩ : ByteArray)] _ (BW.ext (Wr.bw x7) (NewB.ext n19)) (Nat.le_trans (Nat.le_trans hB_ (Wr.size x7)) (Keep.size (NewB.ext n19))) (by decide) F_lies85 (NewB.blk n19) (by simp only [catL,ByteArray.size_append,z0,z1,z2,z3,z4,z5,z6]; omega) (by simp)) ?_
      rintro _ w20 ⟨rfl,wr21⟩
      refine c_done (n_then (c_reg (s_move (v := .func (.func 40) #[] #[.pointer (some ⟨g,0,none⟩),.pointer (some ⟨p2,0,none⟩)]) (ej rfl e12) (w0 rfl) (s_move (v := .int .i64 ((i : Nat) : Int)) (ej rfl rfl) (w0 rfl) (s_call F_e40 (w0 rfl) (ej rfl rfl) (m1 (ej rfl rfl)) (args := #[.int .i64 ((i : Nat) : Int),.pointer (some ⟨g,0,none⟩),.pointer (some ⟨p2,0,none⟩)]) rfl (hone i _ (s0 ++ nm ++ colP l i ++ (catL [(⟨#[40]⟩ : ByteArray)])) (by omega) (Wr.after wr21 (Ext.trans (Wr.after x7 x0 rfl) (NewB.ext n19)) rfl) (Wr.bld (Wr.then_ (Wr.ext x7 (NewB.ext n19) hB_) wr21)) (Wr.bw wr21) (by simp only [catL,ByteArray.size_append,z0,z1,z2]; omega)) ?_)))))
      rintro _ w22 ⟨rfl,wr23⟩
      refine c_done (n_block (n_then (c_reg (s_add (r := ((i + 1 : Nat) : Int)) (ej rfl e14) ev_c (by omega) (by omega) (w0 rfl) (s_move (v := .int .i64 ((i + 1 : Nat) : Int)) (ej rfl rfl) (w0 rfl) (c_done ?_))))))
      exact ⟨(i + 1),_,rfl,⟨(Wr.cast (Wr.then_ (Wr.then_ (Wr.ext x7 (NewB.ext n19) hB_) wr21) wr23) (by simp only [colP]; (first | rw [if_pos (by omega)] | rw [if_neg (by omega)]); simp only [catL,app_nil,app_assoc])),by omega,e10,e11,e12,e13,rfl⟩,(show l.length - (i + 1) < l.length - i by omega)⟩
    refine c_cond0 (vb (ej rfl rfl) (decide_eq_false h16)) (c_reg (s_move (v := .pointer (some ⟨g,0,none⟩)) (ej rfl e10) (w0 rfl) (s_bslice (vs := [(0,.string (⟨#[44,32]⟩ : ByteArray))]) (cs := #[.string (⟨#[44,32]⟩ : ByteArray)]) (b1 ev_c) (bs122_1_0s (⟨#[44,32]⟩ : ByteArray)) (w0 rfl) ?_)))
    intro w25 g24 n26
    have ne_g24 : g24 ≠ g := by have a_ := NewB.eq n26; have b_ := BW.lt (Wr.bw x7); omega
    refine s_call F_e35 (w0 rfl) ev_f (m2 (ej rfl rfl) (ej rfl rfl)) (args := #[.pointer (some ⟨g,0,none⟩),.slice (some ⟨g24,0,none⟩) 1 1]) rfl (p_put 85 _ g g24 (s0 ++ nm ++ colP l i) [(⟨#[44,32]⟩ : ByteArray)] _ (BW.ext (Wr.bw x7) (NewB.ext n26)) (Nat.le_trans (Nat.le_trans hB_ (Wr.size x7)) (Keep.size (NewB.ext n26))) (by decide) F_lies85 (NewB.blk n26) (by simp only [catL,ByteArray.size_append,z0,z1,z2,z3,z4,z5,z6]; omega) (by simp)) ?_
    rintro _ w27 ⟨rfl,wr28⟩
    refine c_done (n_then (c_reg (s_move (v := .func (.func 40) #[] #[.pointer (some ⟨g,0,none⟩),.pointer (some ⟨p2,0,none⟩)]) (ej rfl e12) (w0 rfl) (s_move (v := .int .i64 ((i : Nat) : Int)) (ej rfl rfl) (w0 rfl) (s_call F_e40 (w0 rfl) (ej rfl rfl) (m1 (ej rfl rfl)) (args := #[.int .i64 ((i : Nat) : Int),.pointer (some ⟨g,0,none⟩),.pointer (some ⟨p2,0,none⟩)]) rfl (hone i _ (s0 ++ nm ++ colP l i ++ (catL [(⟨#[44,32]⟩ : ByteArray)])) (by omega) (Wr.after wr28 (Ext.trans (Wr.after x7 x0 rfl) (NewB.ext n26)) rfl) (Wr.bld (Wr.then_ (Wr.ext x7 (NewB.ext n26) hB_) wr28)) (Wr.bw wr28) (by simp only [catL,ByteArray.size_append,z0,z1,z2]; omega)) ?_)))))
    rintro _ w29 ⟨rfl,wr30⟩
    refine c_done (n_block (n_then (c_reg (s_add (r := ((i + 1 : Nat) : Int)) (ej rfl e14) ev_c (by omega) (by omega) (w0 rfl) (s_move (v := .int .i64 ((i + 1 : Nat) : Int)) (ej rfl rfl) (w0 rfl) (c_done ?_))))))
    exact ⟨(i + 1),_,rfl,⟨(Wr.cast (Wr.then_ (Wr.then_ (Wr.ext x7 (NewB.ext n26) hB_) wr28) wr30) (by simp only [colP]; (first | rw [if_pos (by omega)] | rw [if_neg (by omega)]); simp only [catL,app_nil,app_assoc])),by omega,e10,e11,e12,e13,rfl⟩,(show l.length - (i + 1) < l.length - i by omega)⟩
  refine c_cond0 (vb (ej rfl rfl) (decide_eq_false h15)) (c_exit (e_then (e_then (e_hit (n_then (c_seq (c_reg (s_move (v := .int .i64 ((l.length : Nat) : Int)) (ej rfl e11) (w0 rfl) (s_cmp (r := decide (0 < ((l.length : Nat) : Int))) (ej rfl rfl) ev_c rfl (w0 rfl) (c_done (n_then ?_)))))))))))
  by_cases h31 : 0 < ((l.length : Nat) : Int)
  · refine c_cond1 (vb (ej rfl rfl) (decide_eq_true h31)) (c_reg (s_move (v := .pointer (some ⟨g,0,none⟩)) (ej rfl e10) (w0 rfl) (s_bslice (vs := [(0,.string (⟨#[41]⟩ : ByteArray))]) (cs := #[.string (⟨#[41]⟩ : ByteArray)]) (b1 ev_c) (bs122_1_0s (⟨#[41]⟩ : ByteArray)) (w0 rfl) ?_)))
    intro w33 g32 n34
    have ne_g32 : g32 ≠ g := by have a_ := NewB.eq n34; have b_ := BW.lt (Wr.bw x7); omega
    refine s_call F_e35 (w0 rfl) ev_f (m2 (ej rfl rfl) (ej rfl rfl)) (args := #[.pointer (some ⟨g,0,none⟩),.slice (some ⟨g32,0,none⟩) 1 1]) rfl (p_put 85 _ g g32 (s0 ++ nm ++ colP l i) [(⟨#[41]⟩ : ByteArray)] _ (BW.ext (Wr.bw x7) (NewB.ext n34)) (Nat.le_trans (Nat.le_trans hB_ (Wr.size x7)) (Keep.size (NewB.ext n34))) (by decide) F_lies85 (NewB.blk n34) (by simp only [catL,ByteArray.size_append,z0,z1,z2,z3,z4,z5,z6]; omega) (by simp)) ?_
    rintro _ w35 ⟨rfl,wr36⟩
    refine c_done (ret0 rfl ?_)
    exact ⟨_,rfl,rfl,Wr.cast (Wr.then_ (Wr.ext x7 (NewB.ext n34) hB_) wr36) (by (have e_ : i = l.length := by omega); subst e_; unfold colW; first | (rw [if_neg (by omega)]; simp only [catL,app_nil,app_assoc]; done) | ((have e2_ : l.length = 0 := by omega); rw [if_pos e2_,e2_]; simp [colP,app_nil]))⟩
  refine c_cond0 (vb (ej rfl rfl) (decide_eq_false h31)) (c_skip (ret0 rfl ?_))
  exact ⟨_,rfl,rfl,Wr.cast x7 (by (have e_ : i = l.length := by omega); subst e_; unfold colW; first | (rw [if_neg (by omega)]; simp only [catL,app_nil,app_assoc]; done) | ((have e2_ : l.length = 0 := by omega); rw [if_pos e2_,e2_]; simp [colP,app_nil]))⟩
theorem p_Facts0 (A : Option Addr) (c : Nat) (w : World) (tb : Tabs Tryd.prog w) :
    Rt Tryd.prog 17 #[.slice A 0 c] w fun v w' => v = .tuple #[.string (⟨#[]⟩ : ByteArray),.int .i64 0] ∧ Ext w w' := by
  refine enter Tryd.func17 rfl (l := [.slice A 0 c]) rfl Tryd.ntmps17 (Nat.le_of_ble_eq_true rfl) ?_
  refine c_seq (c_reg (s_assign (v := .string (⟨#[]⟩ : ByteArray)) ev_c (w0 rfl) (s_assign (v := .int .i64 0) ev_c (w0 rfl) (c_done (n_then (c_seq (c_reg (s_alloc (cs := #[.pointer none,.slice none 0 0]) (w0 rfl) F_z85 rfl ?_))))))))
  intro w2 g1 n3
  refine c_done (n_then (c_seq (c_seq (c_reg (s_move (v := .slice A 0 c) (ej rfl rfl) (w0 rfl) (s_lenL F_l43 (ej rfl rfl) (w0 rfl) (s_move (v := .int .i64 0) ev_c (w0 rfl) (c_done (n_then (c_block ?_))))))))))
  have ge4 : w.heap.size ≤ g1 := by have a_ := NewB.eq n3; have b_ := Keep.size (Ext.refl w); omega
  refine c_loop (α := Unit) (fun (_ : Unit) env_ w_ => Ext w w_ ∧ w_.heap[g1]? = some (.cells #[.pointer none,.slice none 0 0] 85 (0,0)) ∧ env_ 4 = .pointer (some ⟨g1,0,none⟩) ∧ env_ 7 = .slice A 0 c ∧ env_ 8 = .int .i64 0 ∧ env_ 9 = .int .i64 0) (fun _ => 0) (()) ⟨(NewB.ext n3),(NewB.blk n3),rfl,rfl,rfl,rfl⟩ ?_
  rintro _ env7 w5 ⟨x6,bk12,e8,e9,e10,e11⟩
  refine c_seq (c_reg (s_cmp (r := false) (ej rfl e11) (ej rfl e10) rfl (w0 rfl) (c_done (n_then (c_seq (c_cond0 (ej rfl rfl) (c_exit (e_then (e_then (e_hit (n_then ?_)))))))))))
  refine c_seq (c_reg (s_field (off := 0) (o' := 0) F_f85_0 (ej rfl e8) rfl (w0 rfl) (s_call F_e36 (w0 rfl) ev_f (m1 (ej rfl rfl)) (args := #[.pointer (some ⟨g1,0,none⟩)]) rfl (b_String0 _ g1 _ bk12) ?_)))
  rintro _ w14 ⟨rfl,x13⟩
  refine s_assign (v := .string (⟨#[]⟩ : ByteArray)) (ej rfl rfl) (w0 rfl) (s_assign (v := .int .i64 0) ev_c (w0 rfl) (c_done (n_then (c_ret (ret2 (v := .string (⟨#[]⟩ : ByteArray)) (v2 := .int .i64 0) rfl rfl rfl rfl rfl ?_)))))
  refine ⟨_,rfl,?_,(Ext.trans x6 x13)⟩
  rfl
theorem p_Facts1 (l : List Fc) (A : Option Addr) (c : Nat) (w : World) (hl : l.length * 40 ≤ 140737488351232) (hr : Row RF 2 w A l) (hfewf : l.length ≤ 1048577) (tb : Tabs Tryd.prog w) (tk : KwT Tryd.prog w) (hne_ : l.length ≠ 0) :
    Rt Tryd.prog 17 #[.slice A l.length c] w fun v w' => v = .tuple #[.string (if l.all mayB then fsT l else ⟨#[]⟩),.int .i64 (code10 (l.all mayB))] ∧ Ext w w' := by
  refine enter Tryd.func17 rfl (l := [.slice A l.length c]) rfl Tryd.ntmps17 (Nat.le_of_ble_eq_true rfl) ?_
  refine c_seq (c_reg (s_assign (v := .string (⟨#[]⟩ : ByteArray)) ev_c (w0 rfl) (s_assign (v := .int .i64 0) ev_c (w0 rfl) (c_done (n_then (c_seq (c_reg (s_alloc (cs := #[.pointer none,.slice none 0 0]) (w0 rfl) F_z85 rfl ?_))))))))
  intro w2 g1 n3
  have bw_ : BW 5 85 w.heap.size w2 g1 ⟨#[]⟩ := BW.new n3 rfl (by decide) (Keep.size (Ext.refl w))
  have hB_ := Keep.size (NewB.ext n3)
  refine c_done (n_then (c_seq (c_seq (c_reg (s_move (v := .slice A l.length c) (ej rfl rfl) (w0 rfl) (s_lenL F_l43 (ej rfl rfl) (w0 rfl) (s_move (v := .int .i64 0) ev_c (w0 rfl) (c_done (n_then (c_block ?_))))))))))
  refine c_loop (α := Nat) (fun (i : Nat) env_ w_ => Wr 5 85 w.heap.size g1 (fsW l i) w2 w_ ∧ i ≤ l.length ∧ (∀ j y,j < i → l[j]? = some y → mayB y = true) ∧ env_ 4 = .pointer (some ⟨g1,0,none⟩) ∧ env_ 7 = .slice A l.length c ∧ env_ 8 = .int .i64 (l.length : Int) ∧ env_ 9 = .int .i64 ((i : Nat) : Int)) (fun i => l.length - i) (0) ⟨(Wr.cast (Wr.refl bw_) (by first | rfl | (rw [nil_app]; rfl))),Nat.zero_le _,(fun j y h => absurd h (Nat.not_lt_zero j)),rfl,rfl,rfl,rfl⟩ ?_
  rintro i env6 w4 ⟨x5,i7,i8,e9,e10,e11,e12⟩
  have hP_ := fsW_le hr i i7 i8
  refine c_seq (c_reg (s_cmp (r := decide (((i : Nat) : Int) < (l.length : Int))) (ej rfl e12) (ej rfl e11) rfl (w0 rfl) (c_done (n_then (c_seq ?_)))))
  by_cases h13 : ((i : Nat) : Int) < (l.length : Int)
  · refine c_cond1 (vb (ej rfl rfl) (decide_eq_true h13)) (c_skip (n_then (c_seq (c_block (c_seq (c_reg ?_))))))
    obtain ⟨b14,o15,x16,csx16,hA17,hx18,hR19,hc20⟩ := Row.at_ hr i (by omega)
    obtain rfl := fcAt_of hx18
    obtain ⟨A21,c22,rfl,ho23,hr24⟩ := hR19
    have := Fc.okc.p ho23
    have := Fc.okc.l ho23
    have := Fc.okc.c ho23
    refine s_indexR (j := i) F_l43 (ej rfl e10) hA17 (ej rfl e12) rfl (by omega) (w0 rfl) (s_loadL (cs := [.string ((fcAt l i).p),.slice A21 ((fcAt l i).args.length) c22]) F_m61 (ej rfl rfl) rfl rfl (sub_cells (cells_ext (Wr.after x5 (NewB.ext n3) rfl) hc20) 0 rfl) (w0 rfl) (s_alloc (cs := #[.string (⟨#[]⟩ : ByteArray),.slice none 0 0]) (w0 rfl) F_z61 rfl ?_))
    intro w26 g25 n27
    have ne_g25 : g25 ≠ g1 := by have a_ := NewB.eq n27; have b_ := BW.lt (Wr.bw x5); omega
    refine s_store (cs' := #[.string ((fcAt l i).p),.slice A21 ((fcAt l i).args.length) c22]) F_sz61 (ej rfl rfl) (ej rfl rfl) (l := [.string ((fcAt l i).p),.slice A21 ((fcAt l i).args.length) c22]) rfl rfl rfl (NewB.blk n27) (Nat.le_of_ble_eq_true rfl) rfl (w0 rfl) ?_
    intro w28 k29
    refine c_done (n_then (c_seq (c_seq (c_reg (s_loadL (cs := [.string ((fcAt l i).p),.slice A21 ((fcAt l i).args.length) c22]) F_m61 (ej rfl rfl) rfl rfl (blk_cells (Wrote.blk k29) 0 rfl) (w0 rfl) (s_call F_e38 (w0 rfl) ev_f (m1 (ej rfl rfl)) (args := #[.agg #[.string ((fcAt l i).p),.slice A21 ((fcAt l i).args.length) c22]]) rfl (p_mayBe (fcAt l i) A21 c22 _ ho23 (Row.extV hr24 (Keep.then_ (Ext.trans (Wr.after x5 (NewB.ext n3) rfl) (NewB.ext n27)) (Wrote.keep k29) (fun i_ hi_ h_ => by have a_ := NewB.eq n27; have b_ := Keep.size (Wr.after x5 (NewB.ext n3) rfl); omega))) (KwT.ext tk (Keep.then_ (Ext.trans (Wr.after x5 (NewB.ext n3) rfl) (NewB.ext n27)) (Wrote.keep k29) (fun i_ hi_ h_ => by have a_ := NewB.eq n27; have b_ := Keep.size (Wr.after x5 (NewB.ext n3) rfl); omega)))) ?_))))))
    rintro _ w31 ⟨rfl,x30⟩
    refine s_not (b := mayB (fcAt l i)) (ej rfl rfl) (w0 rfl) (c_done (n_then ?_))
    rcases Bool.eq_false_or_eq_true (mayB (fcAt l i)) with h32 | h32
    · refine c_cond0 (vb (ej rfl rfl) (nbt h32)) (c_skip (n_then (c_seq (c_reg (s_field (off := 0) (o' := 0) F_f61_0 (ej rfl rfl) rfl (w0 rfl) (s_load (v := .string ((fcAt l i).p)) F_o9 (ej rfl rfl) (cell_of_blk (i := 0) (Ext.blk x30 (Wrote.blk k29)) rfl) (w0 rfl) (s_field (off := 1) (o' := 1) F_f61_1 (ej rfl rfl) rfl (w0 rfl) (s_load (v := .slice A21 ((fcAt l i).args.length) c22) F_o59 (ej rfl rfl) (cell_of_blk (i := 1) (Ext.blk x30 (Wrote.blk k29)) rfl) (w0 rfl) (s_lenL F_l59 (ej rfl rfl) (w0 rfl) (s_makeFunc (vf := #[]) (vc := #[.pointer (some ⟨g1,0,none⟩),.pointer (some ⟨g25,0,none⟩)]) m0 (m2 (ej rfl e9) (ej rfl rfl)) (w0 rfl) ?_))))))))))
      obtain ⟨_,hm33p,hm33n,hm33v⟩ := mayB_parts (x := (fcAt l i)) (by assumption)
      refine s_call F_e39 (w0 rfl) ev_f (m4 (ej rfl e9) (ej rfl rfl) (ej rfl rfl) (ej rfl rfl)) (args := #[.pointer (some ⟨g1,0,none⟩),.string ((fcAt l i).p),.int .i64 ((fcAt l i).args.length : Int),.func (.func 40) #[] #[.pointer (some ⟨g1,0,none⟩),.pointer (some ⟨g25,0,none⟩)]]) rfl (p_columnsF ((fcAt l i).p) _ ((fcAt l i).args.map (fun v_ => termW (vT v_))) g1 g25 (fsW l i) w _ (Ext.trans (Keep.then_ (Ext.trans (Wr.after x5 (NewB.ext n3) rfl) (NewB.ext n27)) (Wrote.keep k29) (fun i_ hi_ h_ => by have a_ := NewB.eq n27; have b_ := Keep.size (Wr.after x5 (NewB.ext n3) rfl); omega)) x30) tb (BW.ext (Wr.bw x5) (Ext.trans (Keep.then_ (NewB.ext n27) (Wrote.keep k29) (fun i_ hi_ h_ => by have a_ := NewB.eq n27; have b_ := Keep.size (Ext.refl w4); omega)) x30)) (by rw [List.length_map]) (by rw [List.length_map]; exact hm33n) (fun i_ hi_ => by rw [List.length_map] at hi_; rw [vW_at hi_]; have z_ := termW_size (tmB_vT (hm33v i_ hi_)) (vT_wf (RV_wf hr24 hi_)); omega) (by omega) (fun i_ w_ s_ hi_ x_ bl_ hb_ hs_ => by rw [List.length_map] at hi_; rw [vW_at hi_]; exact p_facts1 i_ (fcAt l i) A21 c22 g1 g25 s_ w w_ x_ tb hb_ hr24 (Bld.blk bl_ (Ext.blk x30 (Wrote.blk k29)) (Or.inl (by decide)) ne_g25) hi_ (hm33v i_ hi_) hs_)) ?_
      rintro _ w34 ⟨rfl,wr35⟩
      refine c_done (n_then (c_reg (s_bslice (vs := [(0,.string (⟨#[46,10]⟩ : ByteArray))]) (cs := #[.string (⟨#[46,10]⟩ : ByteArray)]) (b1 ev_c) (bs122_1_0s (⟨#[46,10]⟩ : ByteArray)) (w0 rfl) ?_)))
      intro w37 g36 n38
      have ne_g36 : g36 ≠ g1 := by have a_ := NewB.eq n38; have b_ := BW.lt (Wr.bw wr35); omega
      refine s_call F_e35 (w0 rfl) ev_f (m2 (ej rfl e9) (ej rfl rfl)) (args := #[.pointer (some ⟨g1,0,none⟩),.slice (some ⟨g36,0,none⟩) 1 1]) rfl (p_put 85 _ g1 g36 (fsW l i ++ (fcW (fcAt l i))) [(⟨#[46,10]⟩ : ByteArray)] _ (BW.ext (Wr.bw wr35) (NewB.ext n38)) (Nat.le_trans (Nat.le_trans (Nat.le_trans (Nat.le_trans (Nat.le_trans (Nat.le_trans hB_ (Wr.size x5)) (Keep.size (NewB.ext n27))) (Keep.size (Wrote.keep k29))) (Keep.size x30)) (Wr.size wr35)) (Keep.size (NewB.ext n38))) (by decide) F_lies85 (NewB.blk n38) (by have hq_ := fcW_at hr (i := i) (by omega) (by assumption); (try simp only [catL,ByteArray.size_append,z0,z1,z2]); omega) (by simp)) ?_
      rintro _ w39 ⟨rfl,wr40⟩
      refine c_done (n_block (n_then (c_reg (s_add (r := ((i + 1 : Nat) : Int)) (ej rfl e12) ev_c (by omega) (by omega) (w0 rfl) (s_move (v := .int .i64 ((i + 1 : Nat) : Int)) (ej rfl rfl) (w0 rfl) (c_done ?_))))))
      exact ⟨(i + 1),_,rfl,⟨(Wr.cast (Wr.then_ (Wr.ext (Wr.then_ (Wr.ext x5 (Ext.trans (Keep.then_ (NewB.ext n27) (Wrote.keep k29) (fun i_ hi_ h_ => by have a_ := NewB.eq n27; have b_ := Keep.size (Ext.refl w4); omega)) x30) hB_) wr35) (NewB.ext n38) hB_) wr40) (by simp only [fsW,catL,app_nil,app_assoc])),by omega,(kids_step i8 (fcAt_there (by omega)) (by assumption)),e9,e10,e11,rfl⟩,(show l.length - (i + 1) < l.length - i by omega)⟩
    refine c_cond1 (vb (ej rfl rfl) (nbf h32)) (c_seq (c_reg (s_assign (v := .string (⟨#[]⟩ : ByteArray)) ev_c (w0 rfl) (s_assign (v := .int .i64 10) ev_c (w0 rfl) (c_done (n_then (c_ret (r_then (r_block (r_then (r_then ?_)))))))))))
    refine r_block (r_then (ret2 (v := .string (⟨#[]⟩ : ByteArray)) (v2 := .int .i64 10) rfl rfl rfl rfl rfl ?_))
    refine ⟨_,rfl,?_,(Ext.trans (Keep.then_ (Ext.trans (Wr.after x5 (NewB.ext n3) rfl) (NewB.ext n27)) (Wrote.keep k29) (fun i_ hi_ h_ => by have a_ := NewB.eq n27; have b_ := Keep.size (Wr.after x5 (NewB.ext n3) rfl); omega)) x30)⟩
    (rw [all_no (fcAt_there (l := l) (j := i) (by omega)) (by assumption)]; rfl)
  refine c_cond0 (vb (ej rfl rfl) (decide_eq_false h13)) (c_exit (e_then (e_then (e_hit (n_then (c_seq (c_reg (s_field (off := 0) (o' := 0) F_f85_0 (ej rfl e9) rfl (w0 rfl) (s_call F_e36 (w0 rfl) ev_f (m1 (ej rfl rfl)) (args := #[.pointer (some ⟨g1,0,none⟩)]) rfl (b_String 85 _ g1 (fsW l i) _ (Wr.bw x5) (Nat.le_trans hB_ (Wr.size x5)) (by (have e_ : i = l.length := (by omega)); subst e_; exact fsT_ne hne_)) ?_)))))))))
  rintro _ w41 ⟨rfl,bl42⟩
  refine s_assign (v := .string (fsW l i)) (ej rfl rfl) (w0 rfl) (s_assign (v := .int .i64 0) ev_c (w0 rfl) (c_done (n_then (c_ret (ret2 (v := .string (fsW l i)) (v2 := .int .i64 0) rfl rfl rfl rfl rfl ?_)))))
  refine ⟨_,rfl,?_,(ext_bel (Wr.after x5 (NewB.ext n3) rfl) bl42)⟩
  (rw [all_yes (by omega) i8]; (have e_ : i = l.length := (by omega)); subst e_; rfl)
theorem p_Facts (l : List Fc) (A : Option Addr) (c : Nat) (w : World) (hl : l.length * 40 ≤ 140737488351232) (hr : Row RF 2 w A l) (hfewf : l.length ≤ 1048577) (tb : Tabs Tryd.prog w) (tk : KwT Tryd.prog w) : Rt Tryd.prog 17 #[.slice A l.length c] w fun v w' => v = .tuple #[.string (if l.all mayB then fsT l else ⟨#[]⟩),.int .i64 (code10 (l.all mayB))] ∧ Ext w w' := by
  by_cases h0 : l.length = 0
  · obtain rfl : l = [] := List.length_eq_zero_iff.1 h0
    exact Rt.mono (p_Facts0 A c w tb) (fun v w' h => h)
  exact p_Facts1 l A c w hl hr hfewf tb tk h0
end Go.Proofs.Dw

set_option linter.unusedVariables false
set_option linter.unusedSimpArgs false
namespace Go.Wk
open Go Go.RowKit Go.Lib Go.Sort
/-! ### a printed text is plain -/
def plainC (b : UInt8) : Bool := decide (32 ≤ b.toNat ∧ b.toNat ≤ 126)
def PL (s : ByteArray) : Prop := ∀ b,b ∈ s.data.toList → plainC b = true
theorem byteAt_at {s : ByteArray} {j : Nat} (h : j < s.size) : ∃ b,s.data.toList[j]? = some b ∧ byteAt s j = b.toNat := by
  have h' : j < s.data.size := h
  refine ⟨s.data[j],by simp [h'],?_⟩
  exact (byteAt_get h).symm
theorem PL.plain {s : ByteArray} (h : PL s) : plainB s = true := by
  simp only [plainB,decide_eq_true_eq]
  intro j hj
  obtain ⟨b,hb,e⟩ := byteAt_at hj
  have := h b (List.mem_of_getElem? hb)
  simp only [plainC,decide_eq_true_eq] at this
  omega
theorem PL.app {a b : ByteArray} (ha : PL a) (hb : PL b) : PL (a ++ b) := by
  intro c hc
  have e : (a ++ b).data.toList = a.data.toList ++ b.data.toList := by simp
  rw [e,List.mem_append] at hc
  exact hc.elim (ha c) (hb c)
theorem PL.of {l : List UInt8} (h : l.all plainC = true) : PL ⟨l.toArray⟩ := by
  intro c hc
  have : c ∈ l := by simpa using hc
  exact List.all_eq_true.1 h c this
theorem letter_plain {b : UInt8} (h : letterB (b.toNat : Int) = true) : plainC b = true := by
  simp only [letterB,decide_eq_true_eq] at h
  simp only [plainC,decide_eq_true_eq]
  omega
theorem word_letters {s : ByteArray} {lo hi : Int} (h : wordB s lo hi = true) : ∀ b,b ∈ s.data.toList → letterB (b.toNat : Int) = true := by
  intro b hb
  simp only [wordB,decide_eq_true_eq] at h
  obtain ⟨j,hj⟩ := List.mem_iff_getElem?.1 hb
  have hlt : j < s.data.toList.length := (List.getElem?_eq_some_iff.1 hj).1
  have hlt' : j < s.size := by simpa using hlt
  obtain ⟨c,hc,e⟩ := byteAt_at hlt'
  have : c = b := by rw [hc] at hj; exact Option.some.inj hj
  subst this
  rw [← e]; exact h.2.2.2.2 j hlt'
theorem PL.word {s : ByteArray} {lo hi : Int} (h : wordB s lo hi = true) : PL s := fun b hb => letter_plain (word_letters h b hb)
theorem PL.name {s : ByteArray} (h : nameB s = true) : PL s := by
  simp only [nameB,Bool.and_eq_true] at h; exact PL.word h.1
def digitC (b : UInt8) : Bool := decide (48 ≤ b.toNat ∧ b.toNat ≤ 57)
theorem digit_digit {k : Nat} (h : k < 10) : digitC (UInt8.ofNat (48 + k)) = true := by
  have : k = 0 ∨ k = 1 ∨ k = 2 ∨ k = 3 ∨ k = 4 ∨ k = 5 ∨ k = 6 ∨ k = 7 ∨ k = 8 ∨ k = 9 := by omega
  rcases this with rfl | rfl | rfl | rfl | rfl | rfl | rfl | rfl | rfl | rfl <;> decide
theorem decDigits_digit (u : Nat) : ∀ c,c ∈ decDigits u → digitC c = true := by
  induction u using Nat.strongRecOn with
  | ind u ih =>
    intro c hc
    rw [decDigits] at hc
    split at hc
    · rename_i h
      simp only [List.mem_singleton] at hc
      subst hc; exact digit_digit h
    · rename_i h
      simp only [List.mem_append,List.mem_singleton] at hc
      rcases hc with hc | rfl
      · exact ih (u / 10) (by omega) c hc
      · exact digit_digit (by omega)
theorem digitC_plain {b : UInt8} (h : digitC b = true) : plainC b = true := by
  simp only [digitC,decide_eq_true_eq] at h; simp only [plainC,decide_eq_true_eq]; omega
theorem PL.num (n : Int) : PL (itoaB n) := by
  intro b hb
  have hb : b ∈ itoa n := by simpa [itoaB] using hb
  unfold itoa at hb
  split at hb
  · rcases List.mem_cons.1 hb with rfl | hb
    · decide
    · exact digitC_plain (decDigits_digit _ b hb)
  · exact digitC_plain (decDigits_digit _ b hb)
theorem hex_plain {k : Nat} (h : k < 16) : plainC (hexS.data.getD k 0) = true := by
  have : ∀ k : Fin 16,plainC (hexS.data.getD k.1 0) = true := by decide
  exact this ⟨k,h⟩
theorem enc_plain (b : UInt8) : ∀ c,c ∈ encB b → plainC c = true := by
  intro c hc
  have hb : b.toNat < 256 := UInt8.toNat_lt b
  unfold encB at hc
  split at hc
  · simp only [List.mem_cons,List.not_mem_nil,or_false] at hc
    rcases hc with rfl | rfl <;> decide
  · split at hc
    · rename_i h0 h1
      simp only [List.mem_cons,List.not_mem_nil,or_false] at hc
      rcases hc with rfl | rfl
      · decide
      · simp only [plainC,decide_eq_true_eq]; omega
    · split at hc
      · rename_i h0 h1 h2
        simp only [List.mem_singleton] at hc
        subst hc
        simp only [plainC,decide_eq_true_eq]; omega
      · simp only [List.mem_cons,List.not_mem_nil,or_false] at hc
        rcases hc with rfl | rfl | rfl | rfl
        · decide
        · decide
        · exact hex_plain (by omega)
        · exact hex_plain (by omega)
theorem PL.quot (s : ByteArray) : PL (quotB s) := by
  intro b hb
  have hb : b ∈ quotL s s.size ++ [34] := by simpa [quotB] using hb
  rcases List.mem_append.1 hb with hb | hb
  · unfold quotL at hb
    rcases List.mem_cons.1 hb with rfl | hb
    · decide
    · obtain ⟨c,_,hc⟩ := List.mem_flatMap.1 hb
      exact enc_plain c b hc
  · simp only [List.mem_singleton] at hb; subst hb; decide
theorem PL.show_ (x : Vl) : PL (showB x) := by
  unfold showB
  split
  · exact PL.num _
  · split
    · exact PL.name (by assumption)
    · exact PL.quot _
theorem PL.term {t : Tm} (h : tmB t = true) : PL (termW t) := by
  unfold termW
  unfold tmB at h
  split
  · rename_i h0
    rw [if_pos h0] at h
    rw [if_pos h]
    exact PL.show_ _
  · rename_i h0
    rw [if_neg h0] at h
    split at h
    · rename_i h1; rw [h1]; exact PL.of (by decide)
    · simp only [Bool.and_eq_true,varB] at h
      exact PL.word h.1
theorem PL.in_ {b : Bool} {s : ByteArray} (h : PL s) : PL (inB b s) := by
  unfold inB
  split
  · exact ((PL.of (l := [40]) (by decide)).app h).app (PL.of (l := [41]) (by decide))
  · exact h
theorem PL.sign (op : Int) : PL (signW op) := by
  unfold signW
  repeat' split
  all_goals exact PL.of (by decide)
theorem PL.wordW (op : Int) : PL (wordW op) := by
  unfold Go.Wk.wordW
  repeat' split
  all_goals exact PL.of (by decide)
theorem PL.rel (r : Int) : PL (relW r) := by
  unfold relW
  repeat' split
  all_goals exact PL.of (by decide)
theorem PL.fold (k : Int) : PL (foldB k) := by
  unfold foldB
  repeat' split
  all_goals exact PL.of (by decide)
theorem PL.ex : ∀ (d : Nat) (x : Ex),exB d x = true → PL (exW d x)
  | 0,x,h => by simp [exB] at h
  | d + 1,x,h => by
    rw [exW_pos (by omega)]
    simp only [Nat.add_sub_cancel]
    split
    · rename_i h0
      exact PL.term ((exB_parts h).2.1 h0).2.2
    · rename_i h0
      split
      · rename_i h1
        obtain ⟨h2,h3⟩ := ex_one h (.inr h1)
        exact (((PL.wordW _).app (PL.of (l := [40]) (by decide))).app (PL.ex d _ h3)).app (PL.of (l := [41]) (by decide))
      · rename_i h1
        split
        · rename_i h2
          obtain ⟨h2,h3⟩ := ex_one h (.inl h2)
          exact (PL.of (l := [45]) (by decide)).app (PL.in_ (PL.ex d _ h3))
        · rename_i h2
          obtain ⟨h3,h4,h5⟩ := ex_two h h0 h2 h1
          exact ((((PL.in_ (PL.ex d _ h4)).app (PL.of (l := [32]) (by decide))).app (PL.sign _)).app (PL.of (l := [32]) (by decide))).app (PL.in_ (PL.ex d _ h5))
theorem PL.nil : PL ⟨#[]⟩ := PL.of (l := []) rfl
theorem PL.colP {l : List ByteArray} (h : ∀ i,i < l.length → PL (l.getD i ⟨#[]⟩)) : ∀ i,i ≤ l.length → PL (colP l i)
  | 0,_ => PL.nil
  | i + 1,hi => by
    refine ((PL.colP h i (by omega)).app ?_).app (h i (by omega))
    split
    · exact PL.of (by decide)
    · exact PL.of (by decide)
theorem PL.col {nm : ByteArray} {l : List ByteArray} (hn : PL nm) (h : ∀ i,i < l.length → PL (l.getD i ⟨#[]⟩)) : PL (colW nm l) := by
  unfold colW
  split
  · exact hn
  · exact (hn.app (PL.colP h _ (Nat.le_refl _))).app (PL.of (l := [41]) (by decide))
theorem PL.at_ {x : At} (h : atB x = true) : PL (atW x) := by
  simp only [atB,Bool.and_eq_true,decide_eq_true_eq] at h
  refine PL.col (PL.name h.1.1) (fun i hi => ?_)
  rw [List.length_map] at hi
  rw [termW_at hi]
  exact PL.term (all_kid h.2 (tmAt_there hi))
theorem PL.lt {x : Lt} (h : ltB x = true) : PL (ltW x) := by
  unfold ltW
  split
  · rename_i hk; exact PL.at_ (lt_at h (.inl hk))
  · split
    · rename_i hk; exact (PL.of (l := [110,111,116,32]) (by decide)).app (PL.at_ (lt_at h (.inr hk)))
    · rename_i h1 h2
      obtain ⟨_,_,_,he1,he2⟩ := lt_cmp h h1 h2
      exact ((((PL.ex 8 _ he1).app (PL.of (l := [32]) (by decide))).app (PL.rel _)).app (PL.of (l := [32]) (by decide))).app (PL.ex 8 _ he2)
theorem PL.arg {x : Ag} (h : argB x = true) : PL (argW x) := by
  unfold argW
  split
  · exact PL.of (by decide)
  · split
    · rename_i h1 h0
      obtain ⟨hv,ht⟩ := arg_var h h0
      have hp := PL.term ht
      unfold termW at hp; rw [if_neg hv] at hp
      exact (((PL.fold _).app (PL.of (l := [40]) (by decide))).app hp).app (PL.of (l := [41]) (by decide))
    · rename_i h1 h2
      have := arg_kinds h
      exact PL.term (arg_term h (by omega))
theorem PL.ruP {l : List Lt} (hb : ∀ i,i < l.length → ltB (ltAt l i) = true) : ∀ i,i ≤ l.length → PL (ruP l i)
  | 0,_ => PL.nil
  | i + 1,hi => by
    refine ((PL.ruP hb i (by omega)).app ?_).app (PL.lt (hb i (by omega)))
    split
    · exact PL.of (by decide)
    · exact PL.of (by decide)
theorem PL.ru {x : Ru} (h : ruB x = true) : PL (ruW x) := by
  obtain ⟨hn,_,_,_,hh,hb⟩ := ruB_parts h
  refine ((PL.col (PL.name hn) (fun i hi => ?_)).app (PL.ruP hb _ (Nat.le_refl _))).app (PL.of (l := [46]) (by decide))
  rw [List.length_map] at hi
  rw [argW_at hi]; exact PL.arg (hh i hi)
theorem plain_ru (x : Ru) : plainB (if ruB x then ruW x else ⟨#[]⟩) = true := by
  split
  · exact (PL.ru (by assumption)).plain
  · exact PL.nil.plain
/-! ### the lines of rules, of facts -/
def linR (l : List Ru) : Nat → ByteArray
  | 0 => ⟨#[]⟩
  | i + 1 => linR l i ++ (if ruB (ruAt l i) then ruW (ruAt l i) else ⟨#[]⟩) ++ ⟨#[10]⟩
def linF (l : List Fc) : Nat → ByteArray
  | 0 => ⟨#[]⟩
  | i + 1 => linF l i ++ (if ruB (ruOf (fcAt l i)) then ruW (ruOf (fcAt l i)) else ⟨#[]⟩) ++ ⟨#[10]⟩
def allR (l : List Ru) (i : Nat) : Bool := (l.take i).all ruB
theorem allR_zero (l : List Ru) : allR l 0 = true := by simp [allR]
theorem allR_succ {l : List Ru} {i : Nat} (h : i < l.length) : allR l (i + 1) = (allR l i && ruB (ruAt l i)) := by
  have e : l[i] = ruAt l i := Option.some.inj ((List.getElem?_eq_getElem h).symm.trans (ruAt_there h))
  unfold allR
  rw [List.take_succ_eq_append_getElem h,List.all_append,e]; simp
theorem allR_all {l : List Ru} {i : Nat} (h : l.length ≤ i) : allR l i = l.all ruB := by unfold allR; rw [List.take_of_length_le h]
theorem ruAt_all {l : List Ru} (h : l.all ruB = true) {i : Nat} (hi : i < l.length) : ruB (ruAt l i) = true := List.all_eq_true.1 h _ (List.mem_of_getElem? (ruAt_there hi))
theorem linR_pg {l : List Ru} (h : l.all ruB = true) : ∀ i,i ≤ l.length → linR l i = pgW l i
  | 0,_ => rfl
  | i + 1,hi => by
    have hb := ruAt_all h (i := i) (by omega)
    simp only [linR,pgW,linR_pg h i (by omega),hb,if_true]
theorem linR_le {w : World} {A : Option Addr} {l : List Ru} (hr : Row RU 3 w A l) : ∀ i,i ≤ l.length → (linR l i).size ≤ i * 8100001
  | 0,_ => by simp [linR,z0]
  | i + 1,hi => by
    have h1 := linR_le hr i (by omega)
    have h2 : (if ruB (ruAt l i) then ruW (ruAt l i) else (⟨#[]⟩ : ByteArray)).size ≤ 8100000 := by
      split
      · exact ruW_at hr (by omega) (by assumption)
      · rw [z0]; omega
    simp only [linR,ByteArray.size_append,Nat.add_mul,Nat.one_mul,z1]; omega
theorem ruT_le {w : World} {A : Option Addr} {l : List Ru} (hr : Row RU 3 w A l) {i : Nat} (hi : i < l.length) : (if ruB (ruAt l i) then ruW (ruAt l i) else (⟨#[]⟩ : ByteArray)).size ≤ 8100000 := by
  split
  · exact ruW_at hr (by omega) (by assumption)
  · rw [z0]; omega
theorem fc_head_at {x : Fc} {j : Nat} (h : j < x.args.length) : agAt (ruOf x).head j = ⟨0,vT (vlAt x.args j)⟩ := by
  simp [agAt,ruOf,vlAt,List.getD_eq_getElem?_getD,h]
theorem fc_texts (x : Fc) : (ruOf x).head.map argW = x.args.map (fun v => termW (vT v)) := by
  simp only [ruOf,List.map_map]
  apply List.map_congr_left
  intro v _
  simp [argW]
theorem ruW_fc (x : Fc) : ruW (ruOf x) = fcW x ++ ⟨#[46]⟩ := by
  unfold ruW fcW
  rw [fc_texts]
  show colW x.p _ ++ (⟨#[]⟩ : ByteArray) ++ _ = _
  rw [app_nil]
theorem argB_vT (v : Vl) : argB ⟨0,vT v⟩ = okV v := by
  unfold argB
  rw [if_pos rfl]
  have e1 : (!decide ((vT v).v = (⟨#[95]⟩ : ByteArray))) = true := (by decide : (!decide ((⟨#[]⟩ : ByteArray) = ⟨#[95]⟩)) = true)
  show ((!decide ((vT v).v = (⟨#[95]⟩ : ByteArray))) && tmB (vT v)) = okV v
  rw [e1,Bool.true_and]
  unfold tmB
  rw [if_pos (show (vT v).v = ⟨#[]⟩ from rfl)]; rfl
theorem colL_nil (S : List ByteArray) : ∀ ts : List Tm,(∀ t,t ∈ ts → t.v = ⟨#[]⟩) → colL S ts = S
  | [],_ => rfl
  | t :: ts,h => by
    have e : colL S (t :: ts) = colL (colT S t.v) ts := rfl
    rw [e,show colT S t.v = S from if_pos (.inl (h t (by simp)))]
    exact colL_nil S ts (fun u hu => h u (by simp [hu]))
theorem rvL_fc (x : Fc) : rvL (ruOf x) = [] := by
  unfold rvL
  refine colL_nil [] _ (fun t ht => ?_)
  simp only [ruTs,ruOf,List.flatMap_nil,List.append_nil,List.mem_map] at ht
  obtain ⟨a,⟨v,_,rfl⟩,rfl⟩ := ht
  rfl
theorem ruB_fc (x : Fc) : ruB (ruOf x) = mayB x := by
  have e1 : (ruOf x).head.all argB = x.args.all okV := by
    show (x.args.map (fun v => (⟨0,vT v⟩ : Ag))).all argB = _
    rw [List.all_map]
    exact congrArg (fun f => x.args.all f) (funext argB_vT)
  have e2 : (ruOf x).head.length = x.args.length := by simp [ruOf]
  have e3 : (ruOf x).body = [] := rfl
  have e4 : (ruOf x).p = x.p := rfl
  unfold ruB mayB
  rw [e1,e2,e3,e4,rvL_fc]
  simp only [List.all_nil,List.length_nil]
  cases x.args.all okV <;> cases nameB x.p <;> simp
theorem fcT_le {w : World} {A : Option Addr} {l : List Fc} (hr : Row RF 2 w A l) {i : Nat} (hi : i < l.length) : (if ruB (ruOf (fcAt l i)) then ruW (ruOf (fcAt l i)) else (⟨#[]⟩ : ByteArray)).size ≤ 30001 := by
  split
  · rename_i h
    rw [ruB_fc] at h
    rw [ruW_fc,ByteArray.size_append,z1]
    have := fcW_at hr hi h
    omega
  · rw [z0]; omega
theorem linF_le {w : World} {A : Option Addr} {l : List Fc} (hr : Row RF 2 w A l) : ∀ i,i ≤ l.length → (linF l i).size ≤ i * 30002
  | 0,_ => by simp [linF,z0]
  | i + 1,hi => by
    have h1 := linF_le hr i (by omega)
    have h2 := fcT_le hr (i := i) (by omega)
    simp only [linF,ByteArray.size_append,Nat.add_mul,Nat.one_mul,z1]; omega
theorem fcAt_all {l : List Fc} (h : l.all mayB = true) {i : Nat} (hi : i < l.length) : mayB (fcAt l i) = true := List.all_eq_true.1 h _ (List.mem_of_getElem? (fcAt_there hi))
theorem linF_fs {l : List Fc} (h : l.all mayB = true) : ∀ i,i ≤ l.length → linF l i = fsW l i
  | 0,_ => rfl
  | i + 1,hi => by
    have hb := fcAt_all h (i := i) (by omega)
    rw [← ruB_fc] at hb
    simp only [linF,fsW,linF_fs h i (by omega),hb,if_true,ruW_fc]
    rw [app_assoc,app_assoc,app_assoc]; rfl
/-! ### the fact's arguments, laid -/
def agCs (x : Ag) : List Value := [.int .i8 x.k,.string x.t.v,.int .i8 x.t.l.k,.int .i64 x.t.l.n,.string x.t.l.s]
def fcC (x : Fc) (k : Nat) : List Value := ((ruOf x).head.take k).flatMap agCs
theorem fcC_zero (x : Fc) : fcC x 0 = [] := by simp [fcC]
theorem fcC_succ {x : Fc} {k : Nat} (h : k < x.args.length) : fcC x (k + 1) = fcC x k ++ [.int .i8 0,.string ⟨#[]⟩,.int .i8 (vlAt x.args k).k,.int .i64 (vlAt x.args k).n,.string (vlAt x.args k).s] := by
  have hk : k < (ruOf x).head.length := by simpa [ruOf] using h
  have e : (ruOf x).head[k] = ⟨0,vT (vlAt x.args k)⟩ := by
    rw [← fc_head_at h]
    exact Option.some.inj ((List.getElem?_eq_getElem hk).symm.trans (agAt_there hk))
  unfold fcC
  rw [List.take_succ_eq_append_getElem hk,List.flatMap_append,e]
  simp [agCs,vT]
def OF (e B : Nat) (w : World) (A : Option Addr) (c : Nat) (x : Fc) (k : Nat) : Prop := w.ownsRow B e 5 (.slice A k c) k (fcC x k)
theorem OF.nil {e B : Nat} {w : World} {x : Fc} : OF e B w none 0 x 0 := by unfold OF; rw [fcC_zero]; exact own_nil _ _ _
theorem OF.own {e B : Nat} {w : World} {A : Option Addr} {c : Nat} {x : Fc} {k : Nat} (h : OF e B w A c x k) : w.ownsRow B e 5 (.slice A k c) k (fcC x k) := h
theorem OF.snoc {e B : Nat} {w : World} {A : Option Addr} {c : Nat} {x : Fc} {k : Nat} (hk : k < x.args.length) (h : w.ownsRow B e 5 (.slice A (k + 1) c) (k + 1) (fcC x k ++ [.int .i8 0,.string ⟨#[]⟩,.int .i8 (vlAt x.args k).k,.int .i64 (vlAt x.args k).n,.string (vlAt x.args k).s])) : OF e B w A c x (k + 1) := by
  unfold OF; rw [fcC_succ hk]; exact h
theorem agsC_at : ∀ (ts : List Ag) (j i : Nat) (y : Ag) (u : Value),ts[j]? = some y → (agCs y)[i]? = some u → (ts.flatMap agCs)[j * 5 + i]? = some u
  | [],j,i,y,u,h,_ => by simp at h
  | t :: ts,0,i,y,u,h,hu => by
    have : t = y := by simpa using h
    subst this
    have hi : i < (agCs t).length := (List.getElem?_eq_some_iff.1 hu).1
    simp only [List.flatMap_cons,Nat.zero_mul,Nat.zero_add]
    rw [List.getElem?_append_left hi]; exact hu
  | t :: ts,j + 1,i,y,u,h,hu => by
    have h' : ts[j]? = some y := by simpa using h
    have := agsC_at ts j i y u h' hu
    simp only [List.flatMap_cons]
    have hl : (agCs t).length = 5 := rfl
    rw [List.getElem?_append_right (by rw [hl]; omega),hl,show (j + 1) * 5 + i - 5 = j * 5 + i by omega]
    exact this
theorem OF.row {e B : Nat} {w : World} {A : Option Addr} {c : Nat} {x : Fc} (h : OF e B w A c x x.args.length) (hw : ∀ i,i < x.args.length → (vlAt x.args i).wf) : Row RG 5 w A (ruOf x).head := by
  by_cases h0 : (ruOf x).head = []
  · exact .inl h0
  · have hpos : 0 < (ruOf x).head.length := List.length_pos_iff.2 h0
    have el : (ruOf x).head.length = x.args.length := by simp [ruOf]
    obtain ⟨b,hA,hc⟩ := own_cells h (by omega)
    refine .inr ⟨b,0,hA,fun j y hy => ⟨agCs y,⟨rfl,?_⟩,fun i u hu => ?_⟩⟩
    · have hj : j < x.args.length := by have := (List.getElem?_eq_some_iff.1 hy).1; omega
      rw [← agAt_of hy,fc_head_at hj]
      exact ⟨⟨(show (-128 : Int) ≤ 0 by decide),(show (0 : Int) ≤ 127 by decide)⟩,vT_wf (hw j hj)⟩
    · rw [Nat.zero_add]
      have e2 : fcC x x.args.length = (ruOf x).head.flatMap agCs := by unfold fcC; rw [← el,List.take_length]
      exact hc _ _ (by rw [e2]; exact agsC_at _ j i y u hy hu)
theorem OF.okc {e B : Nat} {w : World} {A : Option Addr} {c : Nat} {x : Fc} (h : OF e B w A c x x.args.length) (hp : x.p.size ≤ 140737488351232) (hl : x.args.length ≤ 1048576) : (ruOf x).okc c 0 := by
  have el : (ruOf x).head.length = x.args.length := by simp [ruOf]
  have hc : x.args.length ≤ c := by
    rcases h.2 with ⟨h1,h2⟩ | ⟨g,cap,cur,h1,_,_,h2,_⟩
    · omega
    · injection h1 with _ _ h1; omega
  exact ⟨hp,by omega,by omega,Nat.le_refl 0,(show 0 ≤ 140737488351232 by decide)⟩
theorem OF.keep {e B : Nat} {w w' : World} {A : Option Addr} {c : Nat} {x : Fc} {k g t : Nat} {cs : Array Value} {fz : Nat × Nat} (h : OF e B w A c x k) (kp : Keep (fun j => j = g) w w') (hb : w.heap[g]? = some (.cells cs t fz)) (ht : e ≠ t) : OF e B w' A c x k :=
  own_move h fun i hi => kp.block i (own_lt h i hi) (fun ig => own_ne h (ig ▸ hb) ht hi)
theorem OF.ext {e B : Nat} {w w' : World} {A : Option Addr} {c : Nat} {x : Fc} {k : Nat} (h : OF e B w A c x k) (k2 : Ext w w') : OF e B w' A c x k := own_ext k2 h
theorem cmpS_eqn {a b : ByteArray} (h : a = b) : cmpS .neq a b = some false := by simp [cmpS,h]
theorem cmpS_eqt {a b : ByteArray} (h : a = b) : cmpS .eql a b = some true := by simp [cmpS,h]
theorem linR_text {l : List Ru} {i : Nat} (h : l.all ruB = true) (hi : i = l.length) : (if l.all ruB then pgT l else ⟨#[]⟩) = linR l i := by
  subst hi; rw [if_pos h,linR_pg h _ (Nat.le_refl _)]; rfl
theorem linF_text {l : List Fc} {i : Nat} (h : l.all mayB = true) (hi : i = l.length) : (if l.all mayB then fsT l else ⟨#[]⟩) = linF l i := by
  subst hi; rw [if_pos h,linF_fs h _ (Nat.le_refl _)]; rfl
theorem fc_code {l : List Fc} {j : Nat} (h : l.all mayB = true) (hj : j < l.length) : cmpI .neq (code (ruB (ruOf (fcAt l j)))) 0 = some false := by
  rw [ruB_fc,fcAt_all h hj]; rfl
theorem plain_val {v : Value} {w w' : World} {x : Ru} (h : v = .bool (plainB (if ruB x then ruW x else ⟨#[]⟩)) ∧ Ext w w') : v = .bool true ∧ Ext w w' := ⟨h.1.trans (congrArg Value.bool (plain_ru x)),h.2⟩
/-! ### the orders of a region, level by level -/
def insL (a : List Bool) (r : List (List Bool)) : List (List Bool) := bif r.any (fun b => b == a) then r else a :: r
theorem insL_self (a : List Bool) (r : List (List Bool)) : a ∈ insL a r := by
  unfold insL
  cases h : r.any (fun b => b == a)
  · simp
  · obtain ⟨b,hb,e⟩ := List.any_eq_true.1 h
    have : b = a := by simpa using e
    subst this; exact hb
theorem insL_mem {a b : List Bool} {r : List (List Bool)} (h : b ∈ r) : b ∈ insL a r := by
  unfold insL
  cases r.any (fun b => b == a)
  · exact List.mem_cons_of_mem _ h
  · exact h
def ddL (l : List (List Bool)) : List (List Bool) := l.foldr insL []
theorem ddL_mem {a : List Bool} : ∀ {l : List (List Bool)},a ∈ l → a ∈ ddL l
  | b :: l,h => by
    rcases List.mem_cons.1 h with rfl | h
    · exact insL_self _ _
    · exact insL_mem (ddL_mem h)
def freeM (md : Region.Mode) (ops : Array Oper) (pre : Nat → List Nat) (m : Nat) : Nat → List (List Bool) → Bool
  | 0,L => L.all fun s => (List.range m).all (fun k => s.toArray.getD k false) && Region.seqB md ops (ops.size - m) m s.toArray
  | f + 1,L => L.all (fun s => !(Region.ready md ops s.toArray).isEmpty && (Region.ready md ops s.toArray).all fun i => decide (i < m) && (pre i).all (fun j => s.toArray.getD j false && decide (j < m)) && !s.toArray.getD i true) &&
      freeM md ops pre m f (ddL (L.flatMap fun s => (Region.ready md ops s.toArray).map fun i => s.set i true))
theorem freeB_of {md : Region.Mode} {ops : Array Oper} {pre : Nat → List Nat} {m : Nat} : ∀ (f : Nat) (L : List (List Bool)),freeM md ops pre m f L = true → ∀ s,s ∈ L → freeB md ops pre m f s.toArray = true
  | 0,L,h,s,hs => List.all_eq_true.1 h s hs
  | f + 1,L,h,s,hs => by
    simp only [freeM,Bool.and_eq_true] at h
    have h1 := List.all_eq_true.1 h.1 s hs
    simp only [Bool.and_eq_true,List.all_eq_true] at h1
    simp only [freeB,Bool.and_eq_true,List.all_eq_true]
    refine ⟨h1.1,fun i hi => ⟨h1.2 i hi,?_⟩⟩
    have := freeB_of f _ h.2 (s.set i true) (ddL_mem (List.mem_flatMap.2 ⟨s,hs,List.mem_map.2 ⟨i,hi,rfl⟩⟩))
    have e : s.toArray.setIfInBounds i true = (s.set i true).toArray := by simp
    rw [e]; exact this
def traceMB (ops : Array Oper) (pre : Nat → List Nat) (m : Nat) : Bool := decide (m ≤ ops.size) && freeM .any ops pre m m [List.replicate ops.size false]
theorem traceB_of {ops : Array Oper} {pre : Nat → List Nat} {m : Nat} (h : traceMB ops pre m = true) : traceB ops pre m = true := by
  simp only [traceMB,Bool.and_eq_true] at h
  simp only [traceB,Bool.and_eq_true]
  refine ⟨h.1,?_⟩
  have := freeB_of _ _ h.2 (List.replicate ops.size false) (by simp)
  simpa using this
end Go.Wk

set_option linter.unusedVariables false
set_option linter.unusedSimpArgs false
set_option maxRecDepth 10000
namespace Go.Proofs.Dw
open Go Go.Wk Go.Proofs Go.Lib
attribute [local irreducible] Go.wpList Go.wpStill Go.wpQuiet Go.Code.wp Go.Calls
theorem F_e13 : enterable Tryd.prog 13 = true := by kernel_rfl
theorem F_e14 : enterable Tryd.prog 14 = true := by kernel_rfl
theorem F_e15 : enterable Tryd.prog 15 = true := by kernel_rfl
theorem F_e16 : enterable Tryd.prog 16 = true := by kernel_rfl
theorem F_e17 : enterable Tryd.prog 17 = true := by kernel_rfl
theorem F_if64 : (Tryd.prog.info? 64).map (fun i => (i.zero,i.size,i.bytes)) = some (some (.agg #[.int .i8 0,.string (⟨#[]⟩ : ByteArray),.int .i8 0,.int .i64 0,.string (⟨#[]⟩ : ByteArray)]),5,56) := by kernel_rfl
theorem F_sz39 : (Tryd.prog.info? 39).map (·.size) = some 1 := by kernel_rfl
theorem F_ul39 : Tryd.prog.underlying 39 = some (.slice 64) := by kernel_rfl
theorem bd42_0s : ∀ (a0 : ByteArray),∀ w : World,(Instr.build 42 [(0,.string a0)].toArray).run Tryd.prog w = .ok (.agg #[.string a0,.slice none 0 0,.slice none 0 0]) w := by
  intros
  kernel_rfl
theorem bd55_0s : ∀ (a0 : Option Addr) (a0n a0c : Nat),∀ w : World,(Instr.build 55 [(0,.slice a0 a0n a0c)].toArray).run Tryd.prog w = .ok (.agg #[.slice a0 a0n a0c]) w := by
  intros
  kernel_rfl
theorem bd64_1s_1ii8_1ii64_1s : ∀ (a0 : ByteArray) (a1 : Int) (a2 : Int) (a3 : ByteArray),∀ w : World,(Instr.build 64 [(1,.agg #[.string a0,.int .i8 a1,.int .i64 a2,.string a3])].toArray).run Tryd.prog w = .ok (.agg #[.int .i8 0,.string a0,.int .i8 a1,.int .i64 a2,.string a3]) w := by
  intros
  kernel_rfl
theorem bs39_1_0ii8_0s_0ii8_0ii64_0s : ∀ (a0 : Int) (a1 : ByteArray) (a2 : Int) (a3 : Int) (a4 : ByteArray),∀ w : World,(Instr.buildSlice 39 1 [(0,.agg #[.int .i8 a0,.string a1,.int .i8 a2,.int .i64 a3,.string a4])].toArray).run Tryd.prog w = .ok (.slice (some ⟨w.heap.size,0,none⟩) 1 1) (w.alloc (.cells #[.int .i8 a0,.string a1,.int .i8 a2,.int .i64 a3,.string a4] 64)) := by
  intros
  kernel_rfl
theorem eqbn4 (a : Bool) (x y : Operand) (w : World) : (do eqGuard .neq 4 x y (.bool a) (.bool a); binOp .neq 4 (.bool a) (.bool a) : Sem Value).run Tryd.prog w = .ok (.bool false) w := by
  have hu := Tryd.underlying4
  go_simp
theorem p_RuleF (x : Fc) (A : Option Addr) (c k e B : Nat) (w : World) (hk : k = x.args.length) (h : OF e B w A c x k) (hp : x.p.size ≤ 140737488351232) (hl : x.args.length ≤ 1048576) (hw : ∀ i,i < x.args.length → (vlAt x.args i).wf) (tb : Tabs Tryd.prog w) (tr : RelT Tryd.prog w) (tf : FoldT Tryd.prog w) : Rt Tryd.prog 15 #[.agg #[.string x.p,.slice A k c,.slice none 0 0]] w fun v w' => v = .tuple #[.string (if ruB (ruOf x) then ruW (ruOf x) else ⟨#[]⟩),.int .i64 (code (ruB (ruOf x)))] ∧ Ext w w' := by
  subst hk
  have e_ : (ruOf x).head.length = x.args.length := by simp [ruOf]
  have z_ := p_Rule (ruOf x) A none c 0 w (OF.okc h hp hl) (OF.row h hw) Row.nil tb tr tf
  rw [e_] at z_
  exact z_
theorem l_PrintLines (rs : List Ru) (Ar : Option Addr) (cr : Nat) (l : List Fc) (A : Option Addr) (c : Nat) (w : World) (hl : rs.length * 64 ≤ 140737488351232) (hrr : Row RU 3 w Ar rs) (hlf : l.length * 40 ≤ 140737488351232) (hr : Row RF 2 w A l) (tb : Tabs Tryd.prog w) (tr : RelT Tryd.prog w) (tf : FoldT Tryd.prog w) (tk : KwT Tryd.prog w) :
    Rt Tryd.prog 5 #[.slice Ar rs.length cr,.slice A l.length c] w fun v w' => v = .bool true ∧ Ext w w' := by
  refine enter Tryd.func5 rfl (l := [.slice Ar rs.length cr,.slice A l.length c]) rfl Tryd.ntmps5 (Nat.le_of_ble_eq_true rfl) ?_
  refine c_seq (c_reg (s_assign (v := .bool false) ev_c (w0 rfl) (c_done (n_then (c_seq (c_seq (c_reg (s_move (v := .slice Ar rs.length cr) (ej rfl rfl) (w0 rfl) (s_move (v := .slice A l.length c) (ej rfl rfl) (w0 rfl) (s_call F_e13 (w0 rfl) ev_f (m2 (ej rfl rfl) (ej rfl rfl)) (args := #[.slice Ar rs.length cr,.slice A l.length c]) rfl (l_BeyondJob rs Ar cr l A c _ hl hrr hlf hr) ?_))))))))))
  rintro _ w62 ⟨⟨z61,rfl,hfew64⟩,x63⟩
  refine c_done (n_then ?_)
  rcases Bool.eq_false_or_eq_true z61 with h65 | h65
  · refine c_cond1 (vb (ej rfl rfl) h65) (c_seq (c_reg (s_assign (v := .bool true) ev_c (w0 rfl) (c_done (n_then (c_ret (r_then (ret1 (v := .bool true) rfl rfl rfl ?_))))))))
    refine ⟨_,rfl,?_,x63⟩
    rfl
  refine c_cond0 (vb (ej rfl rfl) h65) (c_skip (n_then (c_seq (c_reg (s_move (v := .slice Ar rs.length cr) (ej rfl rfl) (w0 rfl) (s_build (v := .agg #[.slice Ar rs.length cr]) (vs := [(0,.slice Ar rs.length cr)]) (b1 (ej rfl rfl)) (bd55_0s Ar rs.length cr) (w0 rfl) ?_))))))
  obtain ⟨hfr_,hfl_,hfa_⟩ := hfew64 (by assumption)
  refine s_call F_e14 (w0 rfl) ev_f (m1 (ej rfl rfl)) (args := #[.agg #[.slice Ar rs.length cr]]) rfl (p_Program rs Ar cr _ hl (Row.extU hrr x63) hfr_ (Tabs.ext tb x63) (RelT.ext tr x63) (FoldT.ext tf x63)) ?_
  rintro _ w67 ⟨rfl,x66⟩
  refine s_move (v := .tuple #[.string (if rs.all ruB then pgT rs else ⟨#[]⟩),.int .i64 (code (rs.all ruB))]) (ej rfl rfl) (w0 rfl) (s_extract (v := .string (if rs.all ruB then pgT rs else ⟨#[]⟩)) (ej rfl rfl) rfl (w0 rfl) (s_extract (v := .int .i64 (code (rs.all ruB))) (ej rfl rfl) rfl (w0 rfl) (s_assign (v := .string (if rs.all ruB then pgT rs else ⟨#[]⟩)) (ej rfl rfl) (w0 rfl) (s_assign (v := .int .i64 (code (rs.all ruB))) (ej rfl rfl) (w0 rfl) (c_done (n_then (c_seq (c_reg (s_assign (v := .string (⟨#[]⟩ : ByteArray)) ev_c (w0 rfl) (c_done (n_then ?_)))))))))))
  refine c_seq (c_reg (s_assign (v := .bool true) ev_c (w0 rfl) (c_done (n_then (c_seq (c_seq (c_reg (s_assign (v := .int .i64 0) ev_c (w0 rfl) (c_done (n_then (c_block ?_)))))))))))
  refine c_loop (α := Nat × Bool) (fun x_ env_ w_ => match x_ with | (i,okb) => Ext w w_ ∧ i ≤ rs.length ∧ okb = allR rs i ∧ env_ 0 = .slice Ar rs.length cr ∧ env_ 1 = .slice A l.length c ∧ env_ 5 = .string (if rs.all ruB then pgT rs else ⟨#[]⟩) ∧ env_ 6 = .int .i64 (code (rs.all ruB)) ∧ env_ 7 = .string (linR rs i) ∧ env_ 8 = .bool okb ∧ env_ 9 = .int .i64 ((i : Nat) : Int)) (fun x_ => match x_ with | (i,okb) => rs.length - i) (0,true) ⟨(Ext.trans x63 x66),Nat.zero_le _,(allR_zero rs).symm,rfl,rfl,rfl,rfl,rfl,rfl,rfl⟩ ?_
  rintro ⟨i,okb⟩ env70 w68 ⟨x69,i71,i72,e73,e74,e75,e76,e77,e78,e79⟩
  have hP_ := linR_le hrr i i71
  have hT_ := fun (h_ : i < rs.length) => ruT_le hrr h_
  refine c_seq (c_seq (c_reg (s_move (v := .int .i64 ((i : Nat) : Int)) (ej rfl e79) (w0 rfl) (s_move (v := .slice Ar rs.length cr) (ej rfl e73) (w0 rfl) (s_lenL F_l51 (ej rfl rfl) (w0 rfl) (s_cmp (r := decide (((i : Nat) : Int) < (rs.length : Int))) (ej rfl rfl) (ej rfl rfl) rfl (w0 rfl) (c_done (n_then ?_))))))))
  by_cases h80 : ((i : Nat) : Int) < (rs.length : Int)
  · refine c_cond1 (vb (ej rfl rfl) (decide_eq_true h80)) (c_skip (n_then (c_seq (c_block (c_seq (c_reg (s_move (v := .slice Ar rs.length cr) (ej rfl e73) (w0 rfl) (s_move (v := .int .i64 ((i : Nat) : Int)) (ej rfl e79) (w0 rfl) ?_))))))))
    obtain ⟨b81,o82,x83,csx83,hA84,hx85,hR86,hc87⟩ := Row.at_ hrr i (by omega)
    obtain rfl := ruAt_of hx85
    obtain ⟨Ah88,Ab89,ch90,cb91,rfl,ho92,rh93,rb94⟩ := hR86
    have := Ru.okc.p ho92
    have := Ru.okc.hl ho92
    have := Ru.okc.hc ho92
    have := Ru.okc.bl ho92
    have := Ru.okc.bc ho92
    refine s_indexR (j := i) F_l51 (ej rfl rfl) hA84 (ej rfl rfl) rfl (by omega) (w0 rfl) (s_loadL (cs := [.string ((ruAt rs i).p),.slice Ah88 ((ruAt rs i).head.length) ch90,.slice Ab89 ((ruAt rs i).body.length) cb91]) F_m42 (ej rfl rfl) rfl rfl (sub_cells (cells_ext x69 hc87) 0 rfl) (w0 rfl) (s_call F_e15 (w0 rfl) ev_f (m1 (ej rfl rfl)) (args := #[.agg #[.string ((ruAt rs i).p),.slice Ah88 ((ruAt rs i).head.length) ch90,.slice Ab89 ((ruAt rs i).body.length) cb91]]) rfl (p_Rule (ruAt rs i) Ah88 Ab89 ch90 cb91 _ ho92 (Row.extG rh93 x69) (Row.extL rb94 x69) (Tabs.ext tb x69) (RelT.ext tr x69) (FoldT.ext tf x69)) ?_))
    rintro _ w96 ⟨rfl,x95⟩
    refine s_move (v := .tuple #[.string (if ruB (ruAt rs i) then ruW (ruAt rs i) else ⟨#[]⟩),.int .i64 (code (ruB (ruAt rs i)))]) (ej rfl rfl) (w0 rfl) (s_extract (v := .string (if ruB (ruAt rs i) then ruW (ruAt rs i) else ⟨#[]⟩)) (ej rfl rfl) rfl (w0 rfl) (s_extract (v := .int .i64 (code (ruB (ruAt rs i)))) (ej rfl rfl) rfl (w0 rfl) (s_assign (v := .string (if ruB (ruAt rs i) then ruW (ruAt rs i) else ⟨#[]⟩)) (ej rfl rfl) (w0 rfl) (s_assign (v := .int .i64 (code (ruB (ruAt rs i)))) (ej rfl rfl) (w0 rfl) (c_done (n_then (c_seq (c_reg (s_move (v := .bool okb) (ej rfl e78) (w0 rfl) ?_)))))))))
    rcases Bool.eq_false_or_eq_true okb with h97 | h97
    · refine s_move (v := .bool true) (vb (ej rfl rfl) h97) (w0 rfl) (s_move (v := .int .i64 (code (ruB (ruAt rs i)))) (ej rfl rfl) (wy rfl rfl rfl rfl) (s_cmp (r := ruB (ruAt rs i)) (ej rfl rfl) ev_c (ci_t (b := (ruB (ruAt rs i))) (by decide)) (wy rfl rfl rfl rfl) (s_pick1 (v := .bool (ruB (ruAt rs i))) (ej rfl rfl) (ej rfl rfl) (w0 rfl) (s_assign (v := .bool (ruB (ruAt rs i))) (ej rfl rfl) (w0 rfl) (c_done (n_then (c_seq (c_reg (s_move (v := .string (linR rs i)) (ej rfl e77) (w0 rfl) (s_move (v := .string (if ruB (ruAt rs i) then ruW (ruAt rs i) else ⟨#[]⟩)) (ej rfl rfl) (w0 rfl) (s_cat (ej rfl rfl) (ej rfl rfl) (by have z_ := hT_ (by omega); (try simp only [ByteArray.size_append,z1]); omega) (w0 rfl) ?_)))))))))))
      refine s_cat (ej rfl rfl) ev_c (by have z_ := hT_ (by omega); (try simp only [ByteArray.size_append,z1]); omega) (w0 rfl) (s_assign (v := .string ((linR rs i) ++ (if ruB (ruAt rs i) then ruW (ruAt rs i) else ⟨#[]⟩) ++ (⟨#[10]⟩ : ByteArray))) (ej rfl rfl) (w0 rfl) (c_done (n_then (c_seq (c_reg (s_move (v := .string (if ruB (ruAt rs i) then ruW (ruAt rs i) else ⟨#[]⟩)) (ej rfl rfl) (w0 rfl) (s_call F_e16 (w0 rfl) ev_f (m1 (ej rfl rfl)) (args := #[.string (if ruB (ruAt rs i) then ruW (ruAt rs i) else ⟨#[]⟩)]) rfl (Rt.mono (l_plain _ _ (by have z_ := hT_ (by omega); omega)) (fun _ _ h_ => plain_val h_)) ?_)))))))
      rintro _ w99 ⟨rfl,x98⟩
      refine s_not (b := true) (ej rfl rfl) (w0 rfl) (c_done (n_then (c_cond0 (ej rfl rfl) (c_skip (n_block (n_then (c_reg (s_move (v := .int .i64 ((i : Nat) : Int)) (ej rfl e79) (w0 rfl) (s_add (r := ((i + 1 : Nat) : Int)) (ej rfl rfl) ev_c (by omega) (by omega) (w0 rfl) (s_assign (v := .int .i64 ((i + 1 : Nat) : Int)) (ej rfl rfl) (w0 rfl) (c_done ?_)))))))))))
      exact ⟨(i + 1,ruB (ruAt rs i)),_,rfl,⟨(Ext.trans (Ext.trans x69 x95) x98),by omega,(by rw [allR_succ (by omega),← i72]; first | (rw [show okb = true by assumption]; exact (Bool.true_and _).symm) | (rw [show okb = false by assumption]; exact (Bool.false_and _).symm)),e73,e74,e75,e76,(congrArg Value.string (show linR rs i ++ (if ruB (ruAt rs i) then ruW (ruAt rs i) else ⟨#[]⟩) ++ (⟨#[10]⟩ : ByteArray) = linR rs (i + 1) from rfl)),rfl,rfl⟩,(show rs.length - (i + 1) < rs.length - i by omega)⟩
    refine s_move (v := .bool false) (vb (ej rfl rfl) h97) (w0 rfl) (s_skip (wn rfl rfl rfl rfl rfl) (s_skip (wn rfl rfl rfl rfl rfl) (s_pick0 (v := .bool false) (ej rfl rfl) ev_c (w0 rfl) (s_assign (v := .bool false) (ej rfl rfl) (w0 rfl) (c_done (n_then (c_seq (c_reg (s_move (v := .string (linR rs i)) (ej rfl e77) (w0 rfl) (s_move (v := .string (if ruB (ruAt rs i) then ruW (ruAt rs i) else ⟨#[]⟩)) (ej rfl rfl) (w0 rfl) (s_cat (ej rfl rfl) (ej rfl rfl) (by have z_ := hT_ (by omega); (try simp only [ByteArray.size_append,z1]); omega) (w0 rfl) ?_)))))))))))
    refine s_cat (ej rfl rfl) ev_c (by have z_ := hT_ (by omega); (try simp only [ByteArray.size_append,z1]); omega) (w0 rfl) (s_assign (v := .string ((linR rs i) ++ (if ruB (ruAt rs i) then ruW (ruAt rs i) else ⟨#[]⟩) ++ (⟨#[10]⟩ : ByteArray))) (ej rfl rfl) (w0 rfl) (c_done (n_then (c_seq (c_reg (s_move (v := .string (if ruB (ruAt rs i) then ruW (ruAt rs i) else ⟨#[]⟩)) (ej rfl rfl) (w0 rfl) (s_call F_e16 (w0 rfl) ev_f (m1 (ej rfl rfl)) (args := #[.string (if ruB (ruAt rs i) then ruW (ruAt rs i) else ⟨#[]⟩)]) rfl (Rt.mono (l_plain _ _ (by have z_ := hT_ (by omega); omega)) (fun _ _ h_ => plain_val h_)) ?_)))))))
    rintro _ w101 ⟨rfl,x100⟩
    refine s_not (b := true) (ej rfl rfl) (w0 rfl) (c_done (n_then (c_cond0 (ej rfl rfl) (c_skip (n_block (n_then (c_reg (s_move (v := .int .i64 ((i : Nat) : Int)) (ej rfl e79) (w0 rfl) (s_add (r := ((i + 1 : Nat) : Int)) (ej rfl rfl) ev_c (by omega) (by omega) (w0 rfl) (s_assign (v := .int .i64 ((i + 1 : Nat) : Int)) (ej rfl rfl) (w0 rfl) (c_done ?_)))))))))))
    exact ⟨(i + 1,false),_,rfl,⟨(Ext.trans (Ext.trans x69 x95) x100),by omega,(by rw [allR_succ (by omega),← i72]; first | (rw [show okb = true by assumption]; exact (Bool.true_and _).symm) | (rw [show okb = false by assumption]; exact (Bool.false_and _).symm)),e73,e74,e75,e76,(congrArg Value.string (show linR rs i ++ (if ruB (ruAt rs i) then ruW (ruAt rs i) else ⟨#[]⟩) ++ (⟨#[10]⟩ : ByteArray) = linR rs (i + 1) from rfl)),rfl,rfl⟩,(show rs.length - (i + 1) < rs.length - i by omega)⟩
  refine c_cond0 (vb (ej rfl rfl) (decide_eq_false h80)) (c_exit (e_then (e_then (e_hit (n_then (c_seq (c_seq (c_reg (s_move (v := .int .i64 (code (rs.all ruB))) (ej rfl e76) (w0 rfl) (s_cmp (r := (rs.all ruB)) (ej rfl rfl) ev_c (ci_t (b := (rs.all ruB)) (by decide)) (w0 rfl) (s_move (v := .bool okb) (ej rfl e78) (w0 rfl) ?_)))))))))))
  obtain rfl : okb = rs.all ruB := by rw [i72,allR_all (by omega)]
  refine s_cmpG (r := false) (ej rfl rfl) (ej rfl rfl) (fun w_ => eqbn4 _ _ _ w_) (w0 rfl) (s_move (v := .bool false) (ej rfl rfl) (w0 rfl) (s_move (v := .bool (rs.all ruB)) (ej rfl e78) (wy rfl rfl rfl rfl) ?_))
  rcases Bool.eq_false_or_eq_true (rs.all ruB) with h102 | h102
  · refine s_move (v := .bool true) (vb (ej rfl rfl) h102) (wy rfl rfl rfl rfl) (s_move (v := .string (if rs.all ruB then pgT rs else ⟨#[]⟩)) (ej rfl e75) (wy rfl rfl rfl rfl) (s_move (v := .string (linR rs i)) (ej rfl e77) (wy rfl rfl rfl rfl) (s_cmpS (r := false) (ej rfl rfl) (ej rfl rfl) (cmpS_eqn (linR_text (by assumption) (by omega))) (wy rfl rfl rfl rfl) (s_pick1 (v := .bool false) (ej rfl rfl) (ej rfl rfl) (wy rfl rfl rfl rfl) (s_pick0 (v := .bool false) (ej rfl rfl) (ej rfl rfl) (w0 rfl) (c_done (n_then (c_cond0 (ej rfl rfl) (c_skip (n_then (c_seq ?_)))))))))))
    refine c_reg (s_move (v := .slice A l.length c) (ej rfl e74) (w0 rfl) (s_call F_e17 (w0 rfl) ev_f (m1 (ej rfl rfl)) (args := #[.slice A l.length c]) rfl (p_Facts l A c _ hlf (Row.extF hr x69) hfl_ (Tabs.ext tb x69) (KwT.ext tk x69)) ?_))
    rintro _ w104 ⟨rfl,x103⟩
    refine s_move (v := .tuple #[.string (if l.all mayB then fsT l else ⟨#[]⟩),.int .i64 (code10 (l.all mayB))]) (ej rfl rfl) (w0 rfl) (s_extract (v := .string (if l.all mayB then fsT l else ⟨#[]⟩)) (ej rfl rfl) rfl (w0 rfl) (s_extract (v := .int .i64 (code10 (l.all mayB))) (ej rfl rfl) rfl (w0 rfl) (s_assign (v := .string (if l.all mayB then fsT l else ⟨#[]⟩)) (ej rfl rfl) (w0 rfl) (s_assign (v := .int .i64 (code10 (l.all mayB))) (ej rfl rfl) (w0 rfl) (c_done (n_then (c_seq (c_reg (s_assign (v := .string (⟨#[]⟩ : ByteArray)) ev_c (w0 rfl) (c_done (n_then ?_)))))))))))
    refine c_seq (c_seq (c_reg (s_assign (v := .int .i64 0) ev_c (w0 rfl) (c_done (n_then (c_block (c_loop (α := Nat) (fun (j : Nat) env_ w_ => Ext w w_ ∧ j ≤ l.length ∧ env_ 1 = .slice A l.length c ∧ env_ 5 = .string (if l.all mayB then fsT l else ⟨#[]⟩) ∧ env_ 6 = .int .i64 (code10 (l.all mayB)) ∧ env_ 7 = .string (linF l j) ∧ env_ 12 = .int .i64 ((j : Nat) : Int)) (fun j => l.length - j) (0) ⟨(Ext.trans x69 x103),Nat.zero_le _,e74,rfl,rfl,rfl,rfl⟩ ?_)))))))
    rintro j env107 w105 ⟨x106,i108,e109,e110,e111,e112,e113⟩
    have hP_ := linF_le hr j i108
    have hT_ := fun (h_ : j < l.length) => fcT_le hr h_
    refine c_seq (c_seq (c_reg (s_move (v := .int .i64 ((j : Nat) : Int)) (ej rfl e113) (w0 rfl) (s_move (v := .slice A l.length c) (ej rfl e109) (w0 rfl) (s_lenL F_l43 (ej rfl rfl) (w0 rfl) (s_cmp (r := decide (((j : Nat) : Int) < (l.length : Int))) (ej rfl rfl) (ej rfl rfl) rfl (w0 rfl) (c_done (n_then ?_))))))))
    by_cases h114 : ((j : Nat) : Int) < (l.length : Int)
    · refine c_cond1 (vb (ej rfl rfl) (decide_eq_true h114)) (c_skip (n_then (c_seq (c_block (c_seq (c_reg (s_move (v := .slice A l.length c) (ej rfl e109) (w0 rfl) (s_move (v := .int .i64 ((j : Nat) : Int)) (ej rfl e113) (w0 rfl) ?_))))))))
      obtain ⟨b115,o116,x117,csx117,hA118,hx119,hR120,hc121⟩ := Row.at_ hr j (by omega)
      obtain rfl := fcAt_of hx119
      obtain ⟨A122,c123,rfl,ho124,hr125⟩ := hR120
      have := Fc.okc.p ho124
      have := Fc.okc.l ho124
      have := Fc.okc.c ho124
      refine s_indexR (j := j) F_l43 (ej rfl rfl) hA118 (ej rfl rfl) rfl (by omega) (w0 rfl) (s_field (off := 0) (o' := o116 + j * 2) F_f61_0 (ej rfl rfl) rfl (w0 rfl) (s_load (v := .string ((fcAt l j).p)) F_o9 (ej rfl rfl) ((cells_ext x106 hc121) 0 _ rfl) (w0 rfl) (s_build (v := .agg #[.string ((fcAt l j).p),.slice none 0 0,.slice none 0 0]) (vs := [(0,.string ((fcAt l j).p))]) (b1 (ej rfl rfl)) (bd42_0s ((fcAt l j).p)) (w0 rfl) (s_alloc (cs := #[.string (⟨#[]⟩ : ByteArray),.slice none 0 0,.slice none 0 0]) (w0 rfl) F_z42 rfl ?_))))
      intro w127 g126 n128
      refine s_store (cs' := #[.string ((fcAt l j).p),.slice none 0 0,.slice none 0 0]) F_sz42 (ej rfl rfl) (ej rfl rfl) (l := [.string ((fcAt l j).p),.slice none 0 0,.slice none 0 0]) rfl rfl rfl (NewB.blk n128) (Nat.le_of_ble_eq_true rfl) rfl (w0 rfl) ?_
      intro w129 k130
      refine c_done (n_then (c_seq (c_seq (c_reg (s_assign (v := .int .i64 0) ev_c (w0 rfl) (c_done (n_then (c_block ?_))))))))
      have ge131 : w.heap.size ≤ g126 := by have a_ := NewB.eq n128; have b_ := Keep.size x106; omega
      refine c_loop (α := Nat × Option Addr × Nat) (fun x_ env_ w_ => match x_ with | (m,A1,c1) => Ext w w_ ∧ w_.heap[g126]? = some (.cells #[.string ((fcAt l j).p),.slice A1 m c1,.slice none 0 0] 42 (0,0)) ∧ m ≤ (fcAt l j).args.length ∧ OF 64 w.heap.size w_ A1 c1 (fcAt l j) m ∧ env_ 1 = .slice A l.length c ∧ env_ 5 = .string (if l.all mayB then fsT l else ⟨#[]⟩) ∧ env_ 6 = .int .i64 (code10 (l.all mayB)) ∧ env_ 7 = .string (linF l j) ∧ env_ 12 = .int .i64 ((j : Nat) : Int) ∧ env_ 13 = .pointer (some ⟨g126,0,none⟩) ∧ env_ 14 = .int .i64 ((m : Nat) : Int)) (fun x_ => match x_ with | (m,A1,c1) => (fcAt l j).args.length - m) (0,none,0) ⟨(Keep.then_ (Ext.trans x106 (NewB.ext n128)) (Wrote.keep k130) (fun i_ hi_ h_ => by have a_ := ge131; omega)),(Wrote.blk k130),Nat.zero_le _,OF.nil,e109,e110,e111,e112,e113,rfl,rfl⟩ ?_
      rintro ⟨m,A1,c1⟩ env134 w132 ⟨x133,bk144,i135,i136,e137,e138,e139,e140,e141,e142,e143⟩
      refine c_seq (c_seq (c_reg (s_move (v := .int .i64 ((m : Nat) : Int)) (ej rfl e143) (w0 rfl) (s_move (v := .slice A l.length c) (ej rfl e137) (w0 rfl) (s_move (v := .int .i64 ((j : Nat) : Int)) (ej rfl e141) (w0 rfl) ?_)))))
      obtain ⟨b145,o146,x147,csx147,hA148,hx149,hR150,hc151⟩ := Row.at_ hr j (by omega)
      obtain rfl := fcAt_of hx149
      obtain ⟨A152,c153,rfl,ho154,hr155⟩ := hR150
      have := Fc.okc.p ho154
      have := Fc.okc.l ho154
      have := Fc.okc.c ho154
      refine s_indexR (j := j) F_l43 (ej rfl rfl) hA148 (ej rfl rfl) rfl (by omega) (w0 rfl) (s_field (off := 1) (o' := o146 + j * 2 + 1) F_f61_1 (ej rfl rfl) rfl (w0 rfl) (s_load (v := .slice A152 ((fcAt l j).args.length) c153) F_o59 (ej rfl rfl) ((cells_ext x133 hc151) 1 _ rfl) (w0 rfl) (s_lenL F_l59 (ej rfl rfl) (w0 rfl) (s_cmp (r := decide (((m : Nat) : Int) < ((fcAt l j).args.length : Int))) (ej rfl rfl) (ej rfl rfl) rfl (w0 rfl) (c_done (n_then ?_))))))
      by_cases h156 : ((m : Nat) : Int) < ((fcAt l j).args.length : Int)
      · refine c_cond1 (vb (ej rfl rfl) (decide_eq_true h156)) (c_skip (n_then (c_seq (c_block ?_))))
        obtain ⟨b177,o178,x179,csx179,hA180,hx181,hR182,hc183⟩ := Row.at_ hr j (by omega)
        obtain rfl := fcAt_of hx181
        obtain ⟨A184,c185,rfl,ho186,hr187⟩ := hR182
        have := Fc.okc.p ho186
        have := Fc.okc.l ho186
        have := Fc.okc.c ho186
        obtain ⟨b188,o189,x190,csx190,hA191,hx192,hR193,hc194⟩ := Row.at_ hr187 m (by omega)
        obtain rfl := vlAt_of hx192
        obtain ⟨rfl,wf195⟩ := hR193
        refine c_trace (fun k v wb wa => match k with | 0 => v = .pointer (some ⟨g126,1,none⟩) | 1 => v = .slice A1 m c1 | 2 => v = .slice A l.length c | 3 => v = .int .i64 ((j : Nat) : Int) | 4 => v = .pointer (some ⟨b177,o178 + j * 2,none⟩) | 5 => v = .pointer (some ⟨b177,o178 + j * 2 + 1,none⟩) | 6 => v = .slice A184 ((fcAt l j).args.length) c185 | 7 => v = .int .i64 ((m : Nat) : Int) | 8 => v = .pointer (some ⟨b188,o189 + m * 3,none⟩) | 9 => v = .agg #[.int .i8 ((vlAt (fcAt l j).args m).k),.int .i64 ((vlAt (fcAt l j).args m).n),.string ((vlAt (fcAt l j).args m).s)] | 10 => v = .agg #[.string (⟨#[]⟩ : ByteArray),.int .i8 ((vlAt (fcAt l j).args m).k),.int .i64 ((vlAt (fcAt l j).args m).n),.string ((vlAt (fcAt l j).args m).s)] | 11 => v = .agg #[.int .i8 0,.string (⟨#[]⟩ : ByteArray),.int .i8 ((vlAt (fcAt l j).args m).k),.int .i64 ((vlAt (fcAt l j).args m).n),.string ((vlAt (fcAt l j).args m).s)] | 12 => ∃ g_,v = .slice (some ⟨g_,0,none⟩) 1 1 ∧ NewB wb g_ (.cells #[.int .i8 0,.string (⟨#[]⟩ : ByteArray),.int .i8 ((vlAt (fcAt l j).args m).k),.int .i64 ((vlAt (fcAt l j).args m).n),.string ((vlAt (fcAt l j).args m).s)] 64 (0,0)) wa | _ => True) (fun k => [91,92,93,94,95,96,97,98,99,100,101,102,103].getD k 999) (fun k => [[],[0],[],[],[2,3],[4],[5],[],[6,7],[8],[9],[10],[11]].getD k []) 13 mixed (traceB_of (by kernel_rfl)) (by decide) ?_ ?_
        · intro wd xd k_ hk_ env_ B_ A_ w_ hx_
          have hkm : k_ = 0 ∨ k_ = 1 ∨ k_ = 2 ∨ k_ = 3 ∨ k_ = 4 ∨ k_ = 5 ∨ k_ = 6 ∨ k_ = 7 ∨ k_ = 8 ∨ k_ = 9 ∨ k_ = 10 ∨ k_ = 11 ∨ k_ = 12 := by omega
          rcases hkm with rfl | rfl | rfl | rfl | rfl | rfl | rfl | rfl | rfl | rfl | rfl | rfl | rfl
          · refine ⟨_,rfl,?_⟩
            refine s_field (off := 1) (o' := 1) F_f42_1 (ej rfl ((Tr.env hx_ 13 (by decide)).trans e142)) rfl (w0 rfl) ?_
            exact tl_done ⟨_,rfl,rfl,Ext.refl _⟩
          · refine ⟨_,rfl,?_⟩
            refine s_load (v := .slice A1 m c1) F_o39 (ej rfl (Tr.g hx_ 0 (by decide))) (cell_of_blk (i := 1) (Ext.blk (Tr.ext hx_) (Ext.blk xd bk144)) rfl) (w0 rfl) ?_
            exact tl_done ⟨_,rfl,rfl,Ext.refl _⟩
          · refine ⟨_,rfl,?_⟩
            refine s_move (v := .slice A l.length c) (ej rfl ((Tr.env hx_ 1 (by decide)).trans e137)) (w0 rfl) ?_
            exact tl_done ⟨_,rfl,rfl,Ext.refl _⟩
          · refine ⟨_,rfl,?_⟩
            refine s_move (v := .int .i64 ((j : Nat) : Int)) (ej rfl ((Tr.env hx_ 12 (by decide)).trans e141)) (w0 rfl) ?_
            exact tl_done ⟨_,rfl,rfl,Ext.refl _⟩
          · refine ⟨_,rfl,?_⟩
            refine s_indexR (j := j) F_l43 (ej rfl (Tr.g hx_ 2 (by decide))) hA180 (ej rfl (Tr.g hx_ 3 (by decide))) rfl (by omega) (w0 rfl) ?_
            exact tl_done ⟨_,rfl,rfl,Ext.refl _⟩
          · refine ⟨_,rfl,?_⟩
            refine s_field (off := 1) (o' := o178 + j * 2 + 1) F_f61_1 (ej rfl (Tr.g hx_ 4 (by decide))) rfl (w0 rfl) ?_
            exact tl_done ⟨_,rfl,rfl,Ext.refl _⟩
          · refine ⟨_,rfl,?_⟩
            refine s_load (v := .slice A184 ((fcAt l j).args.length) c185) F_o59 (ej rfl (Tr.g hx_ 5 (by decide))) ((cells_ext (Tr.ext hx_) (cells_ext xd (cells_ext x133 hc183))) 1 _ rfl) (w0 rfl) ?_
            exact tl_done ⟨_,rfl,rfl,Ext.refl _⟩
          · refine ⟨_,rfl,?_⟩
            refine s_move (v := .int .i64 ((m : Nat) : Int)) (ej rfl ((Tr.env hx_ 14 (by decide)).trans e143)) (w0 rfl) ?_
            exact tl_done ⟨_,rfl,rfl,Ext.refl _⟩
          · refine ⟨_,rfl,?_⟩
            refine s_indexR (j := m) F_l59 (ej rfl (Tr.g hx_ 6 (by decide))) hA191 (ej rfl (Tr.g hx_ 7 (by decide))) rfl (by omega) (w0 rfl) ?_
            exact tl_done ⟨_,rfl,rfl,Ext.refl _⟩
          · refine ⟨_,rfl,?_⟩
            refine s_loadL (cs := [.int .i8 ((vlAt (fcAt l j).args m).k),.int .i64 ((vlAt (fcAt l j).args m).n),.string ((vlAt (fcAt l j).args m).s)]) F_m26 (ej rfl (Tr.g hx_ 8 (by decide))) rfl rfl (sub_cells (cells_ext (Tr.ext hx_) (cells_ext xd (cells_ext x133 hc194))) 0 rfl) (w0 rfl) ?_
            exact tl_done ⟨_,rfl,rfl,Ext.refl _⟩
          · refine ⟨_,rfl,?_⟩
            refine s_build (v := .agg #[.string (⟨#[]⟩ : ByteArray),.int .i8 ((vlAt (fcAt l j).args m).k),.int .i64 ((vlAt (fcAt l j).args m).n),.string ((vlAt (fcAt l j).args m).s)]) (vs := [(1,.agg #[.int .i8 ((vlAt (fcAt l j).args m).k),.int .i64 ((vlAt (fcAt l j).args m).n),.string ((vlAt (fcAt l j).args m).s)])]) (b1 (ej rfl (Tr.g hx_ 9 (by decide)))) (bd28_1ii8_1ii64_1s ((vlAt (fcAt l j).args m).k) ((vlAt (fcAt l j).args m).n) ((vlAt (fcAt l j).args m).s)) (w0 rfl) ?_
            exact tl_done ⟨_,rfl,rfl,Ext.refl _⟩
          · refine ⟨_,rfl,?_⟩
            refine s_build (v := .agg #[.int .i8 0,.string (⟨#[]⟩ : ByteArray),.int .i8 ((vlAt (fcAt l j).args m).k),.int .i64 ((vlAt (fcAt l j).args m).n),.string ((vlAt (fcAt l j).args m).s)]) (vs := [(1,.agg #[.string (⟨#[]⟩ : ByteArray),.int .i8 ((vlAt (fcAt l j).args m).k),.int .i64 ((vlAt (fcAt l j).args m).n),.string ((vlAt (fcAt l j).args m).s)])]) (b1 (ej rfl (Tr.g hx_ 10 (by decide)))) (bd64_1s_1ii8_1ii64_1s (⟨#[]⟩ : ByteArray) ((vlAt (fcAt l j).args m).k) ((vlAt (fcAt l j).args m).n) ((vlAt (fcAt l j).args m).s)) (w0 rfl) ?_
            exact tl_done ⟨_,rfl,rfl,Ext.refl _⟩
          refine ⟨_,rfl,?_⟩
          refine s_bslice (vs := [(0,.agg #[.int .i8 0,.string (⟨#[]⟩ : ByteArray),.int .i8 ((vlAt (fcAt l j).args m).k),.int .i64 ((vlAt (fcAt l j).args m).n),.string ((vlAt (fcAt l j).args m).s)])]) (cs := #[.int .i8 0,.string (⟨#[]⟩ : ByteArray),.int .i8 ((vlAt (fcAt l j).args m).k),.int .i64 ((vlAt (fcAt l j).args m).n),.string ((vlAt (fcAt l j).args m).s)]) (b1 (ej rfl (Tr.g hx_ 11 (by decide)))) (bs39_1_0ii8_0s_0ii8_0ii64_0s 0 (⟨#[]⟩ : ByteArray) ((vlAt (fcAt l j).args m).k) ((vlAt (fcAt l j).args m).n) ((vlAt (fcAt l j).args m).s)) (w0 rfl) ?_
          intro w197 g196 n198
          exact tl_done ⟨_,rfl,⟨g196,rfl,n198⟩,(NewB.ext n198)⟩
        intro wd xd env_ B_ A_ w_ hx_
        obtain ⟨g196,e199,n200⟩ := Tr.g hx_ 12 (by decide)
        replace e199 : env_ 103 = _ := e199
        refine tl_cons ?_
        refine s_append (m := 5) (k := 1) (news := [.int .i8 0,.string (⟨#[]⟩ : ByteArray),.int .i8 ((vlAt (fcAt l j).args m).k),.int .i64 ((vlAt (fcAt l j).args m).n),.string ((vlAt (fcAt l j).args m).s)]) F_ul39 F_if64 rfl (by decide) (ej rfl (Tr.g hx_ 1 (by decide))) (own_ext (Tr.ext hx_) (own_ext xd (OF.own i136))) (ej rfl e199) rfl (by have z_ := blk_cells (Ext.blk (Tr.x2 hx_ 12 (by decide)) (NewB.blk n200)) 0 (cs := [.int .i8 0,.string (⟨#[]⟩ : ByteArray),.int .i8 ((vlAt (fcAt l j).args m).k),.int .i64 ((vlAt (fcAt l j).args m).n),.string ((vlAt (fcAt l j).args m).s)]) rfl; exact z_) rfl (by have z_ := hfa_ j _ (fcAt_there (by omega)); omega) (by have z_ := hfa_ j _ (fcAt_there (by omega)); omega) (Keep.size (Ext.trans (Ext.trans x133 xd) (Tr.ext hx_))) (w0 rfl) ?_
        intro A203 c204 w201 ow205 k202
        refine tl_done ⟨trivial,?_⟩
        refine tl_cons ?_
        refine s_field (off := 1) (o' := 1) F_f42_1 (ej rfl ((Tr.env hx_ 13 (by decide)).trans e142)) rfl (w0 rfl) ?_
        refine tl_done ⟨trivial,?_⟩
        refine tl_cons ?_
        refine s_store (cs' := #[.string ((fcAt l j).p),.slice A203 (m + 1) c204,.slice none 0 0]) F_sz39 (ej rfl rfl) (ej rfl rfl) (l := [.slice A203 (m + 1) c204]) rfl rfl rfl (Keep.blk k202 (Ext.blk (Tr.ext hx_) (Ext.blk xd bk144)) (own_ne (own_ext (Tr.ext hx_) (own_ext xd (OF.own i136))) (Ext.blk (Tr.ext hx_) (Ext.blk xd bk144)) (by first | decide | assumption))) (Nat.le_of_ble_eq_true rfl) rfl (w0 rfl) ?_
        intro w206 k207
        refine tl_done ⟨trivial,?_⟩
        refine tl_nil ?_
        refine n_block (n_then (c_reg (s_move (v := .int .i64 ((m : Nat) : Int)) (ej rfl ((Tr.env hx_ 14 (by decide)).trans e143)) (w0 rfl) (s_add (r := ((m + 1 : Nat) : Int)) (ej rfl rfl) ev_c (by omega) (by omega) (w0 rfl) (s_assign (v := .int .i64 ((m + 1 : Nat) : Int)) (ej rfl rfl) (w0 rfl) (c_done ?_))))))
        exact ⟨(m + 1,A203,c204),_,rfl,⟨(Keep.then_ (Keep.then_ (Ext.trans (Ext.trans x133 xd) (Tr.ext hx_)) k202 (fun i_ hi_ h_ => by have a_ := own_ge (own_ext (Tr.ext hx_) (own_ext xd (OF.own i136))) i_ h_; omega)) (Wrote.keep k207) (fun i_ hi_ h_ => by have a_ := ge131; omega)),(Wrote.blk k207),by omega,(OF.keep (OF.snoc (by omega) ow205) (Wrote.keep k207) (Keep.blk k202 (Ext.blk (Tr.ext hx_) (Ext.blk xd bk144)) (own_ne (own_ext (Tr.ext hx_) (own_ext xd (OF.own i136))) (Ext.blk (Tr.ext hx_) (Ext.blk xd bk144)) (by first | decide | assumption))) (by decide)),((Tr.env hx_ 1 (by decide)).trans e137),((Tr.env hx_ 5 (by decide)).trans e138),((Tr.env hx_ 6 (by decide)).trans e139),((Tr.env hx_ 7 (by decide)).trans e140),((Tr.env hx_ 12 (by decide)).trans e141),((Tr.env hx_ 13 (by decide)).trans e142),rfl⟩,(show (fcAt l j).args.length - (m + 1) < (fcAt l j).args.length - m by omega)⟩
      refine c_cond0 (vb (ej rfl rfl) (decide_eq_false h156)) (c_exit (e_then (e_then (e_hit (n_then (c_seq (c_reg (s_loadL (cs := [.string ((fcAt l j).p),.slice A1 m c1,.slice none 0 0]) F_m42 (ej rfl e142) rfl rfl (blk_cells bk144 0 rfl) (w0 rfl) ?_))))))))
      obtain ⟨_,_,_,_,_,hxf_,⟨_,_,_,hof_,hrv_⟩,_⟩ := Row.at_ hr j (by omega)
      obtain rfl := fcAt_of hxf_
      refine s_call F_e15 (w0 rfl) ev_f (m1 (ej rfl rfl)) (args := #[.agg #[.string ((fcAt l j).p),.slice A1 m c1,.slice none 0 0]]) rfl (p_RuleF (fcAt l j) A1 c1 m 64 _ _ (by omega) i136 (Fc.okc.p hof_) (hfa_ j _ (fcAt_there (by omega))) (fun i_ hi_ => RV_wf hrv_ hi_) (Tabs.ext tb x133) (RelT.ext tr x133) (FoldT.ext tf x133)) ?_
      rintro _ w209 ⟨rfl,x208⟩
      refine s_move (v := .tuple #[.string (if ruB (ruOf (fcAt l j)) then ruW (ruOf (fcAt l j)) else ⟨#[]⟩),.int .i64 (code (ruB (ruOf (fcAt l j))))]) (ej rfl rfl) (w0 rfl) (s_extract (v := .string (if ruB (ruOf (fcAt l j)) then ruW (ruOf (fcAt l j)) else ⟨#[]⟩)) (ej rfl rfl) rfl (w0 rfl) (s_extract (v := .int .i64 (code (ruB (ruOf (fcAt l j))))) (ej rfl rfl) rfl (w0 rfl) (s_assign (v := .string (if ruB (ruOf (fcAt l j)) then ruW (ruOf (fcAt l j)) else ⟨#[]⟩)) (ej rfl rfl) (w0 rfl) (s_assign (v := .int .i64 (code (ruB (ruOf (fcAt l j))))) (ej rfl rfl) (w0 rfl) (c_done (n_then (c_seq (c_seq (c_reg (s_move (v := .int .i64 (code10 (l.all mayB))) (ej rfl e139) (w0 rfl) (s_cmp (r := (l.all mayB)) (ej rfl rfl) ev_c (ci_t (b := (l.all mayB)) (by decide)) (w0 rfl) ?_)))))))))))
      rcases Bool.eq_false_or_eq_true (l.all mayB) with h210 | h210
      · refine s_move (v := .bool true) (vb (ej rfl rfl) h210) (w0 rfl) (s_move (v := .int .i64 (code (ruB (ruOf (fcAt l j))))) (ej rfl rfl) (wy rfl rfl rfl rfl) (s_cmp (r := false) (ej rfl rfl) ev_c (fc_code (by assumption) (by omega)) (wy rfl rfl rfl rfl) (s_move (v := .bool false) (ej rfl rfl) (wy rfl rfl rfl rfl) (s_move (v := .string (if ruB (ruOf (fcAt l j)) then ruW (ruOf (fcAt l j)) else ⟨#[]⟩)) (ej rfl rfl) (wy rfl rfl rfl rfl) (s_call F_e16 (wy rfl rfl rfl rfl) ev_f (m1 (ej rfl rfl)) (args := #[.string (if ruB (ruOf (fcAt l j)) then ruW (ruOf (fcAt l j)) else ⟨#[]⟩)]) rfl (Rt.mono (l_plain _ _ (by have z_ := hT_ (by omega); omega)) (fun _ _ h_ => plain_val h_)) ?_)))))
        rintro _ w212 ⟨rfl,x211⟩
        refine s_not (b := true) (ej rfl rfl) (wy rfl rfl rfl rfl) (s_pick0 (v := .bool false) (ej rfl rfl) (ej rfl rfl) (wy rfl rfl rfl rfl) (s_pick1 (v := .bool false) (ej rfl rfl) (ej rfl rfl) (w0 rfl) (c_done (n_then (c_cond0 (ej rfl rfl) (c_skip (n_then (c_reg (s_move (v := .string (linF l j)) (ej rfl e140) (w0 rfl) (s_move (v := .string (if ruB (ruOf (fcAt l j)) then ruW (ruOf (fcAt l j)) else ⟨#[]⟩)) (ej rfl rfl) (w0 rfl) (s_cat (ej rfl rfl) (ej rfl rfl) (by have z_ := hT_ (by omega); (try simp only [ByteArray.size_append,z1]); omega) (w0 rfl) ?_)))))))))))
        refine s_cat (ej rfl rfl) ev_c (by have z_ := hT_ (by omega); (try simp only [ByteArray.size_append,z1]); omega) (w0 rfl) (s_assign (v := .string ((linF l j) ++ (if ruB (ruOf (fcAt l j)) then ruW (ruOf (fcAt l j)) else ⟨#[]⟩) ++ (⟨#[10]⟩ : ByteArray))) (ej rfl rfl) (w0 rfl) (c_done (n_block (n_then (c_reg (s_move (v := .int .i64 ((j : Nat) : Int)) (ej rfl e141) (w0 rfl) (s_add (r := ((j + 1 : Nat) : Int)) (ej rfl rfl) ev_c (by omega) (by omega) (w0 rfl) (s_assign (v := .int .i64 ((j + 1 : Nat) : Int)) (ej rfl rfl) (w0 rfl) (c_done ?_)))))))))
        exact ⟨(j + 1),_,rfl,⟨(Ext.trans (Ext.trans x133 x208) x211),by omega,e137,e138,e139,(congrArg Value.string (show linF l j ++ (if ruB (ruOf (fcAt l j)) then ruW (ruOf (fcAt l j)) else ⟨#[]⟩) ++ (⟨#[10]⟩ : ByteArray) = linF l (j + 1) from rfl)),rfl⟩,(show l.length - (j + 1) < l.length - j by omega)⟩
      refine s_move (v := .bool false) (vb (ej rfl rfl) h210) (w0 rfl) (s_skip (wn rfl rfl rfl rfl rfl) (s_skip (wn rfl rfl rfl rfl rfl) (s_skip (wn rfl rfl rfl rfl rfl) (s_skip (wu rfl rfl rfl rfl) (s_skip (wu rfl rfl rfl rfl) (s_skip (wu rfl rfl rfl rfl) (s_skip (wn rfl rfl rfl rfl rfl) (s_pick0 (v := .bool false) (ej rfl rfl) ev_c (w0 rfl) (c_done (n_then (c_cond0 (ej rfl rfl) ?_)))))))))))
      refine c_skip (n_then (c_reg (s_move (v := .string (linF l j)) (ej rfl e140) (w0 rfl) (s_move (v := .string (if ruB (ruOf (fcAt l j)) then ruW (ruOf (fcAt l j)) else ⟨#[]⟩)) (ej rfl rfl) (w0 rfl) (s_cat (ej rfl rfl) (ej rfl rfl) (by have z_ := hT_ (by omega); (try simp only [ByteArray.size_append,z1]); omega) (w0 rfl) (s_cat (ej rfl rfl) ev_c (by have z_ := hT_ (by omega); (try simp only [ByteArray.size_append,z1]); omega) (w0 rfl) (s_assign (v := .string ((linF l j) ++ (if ruB (ruOf (fcAt l j)) then ruW (ruOf (fcAt l j)) else ⟨#[]⟩) ++ (⟨#[10]⟩ : ByteArray))) (ej rfl rfl) (w0 rfl) (c_done (n_block (n_then (c_reg ?_)))))))))))
      refine s_move (v := .int .i64 ((j : Nat) : Int)) (ej rfl e141) (w0 rfl) (s_add (r := ((j + 1 : Nat) : Int)) (ej rfl rfl) ev_c (by omega) (by omega) (w0 rfl) (s_assign (v := .int .i64 ((j + 1 : Nat) : Int)) (ej rfl rfl) (w0 rfl) (c_done ?_)))
      exact ⟨(j + 1),_,rfl,⟨(Ext.trans x133 x208),by omega,e137,e138,e139,(congrArg Value.string (show linF l j ++ (if ruB (ruOf (fcAt l j)) then ruW (ruOf (fcAt l j)) else ⟨#[]⟩) ++ (⟨#[10]⟩ : ByteArray) = linF l (j + 1) from rfl)),rfl⟩,(show l.length - (j + 1) < l.length - j by omega)⟩
    refine c_cond0 (vb (ej rfl rfl) (decide_eq_false h114)) (c_exit (e_then (e_then (e_hit (n_then (c_seq (c_reg (s_move (v := .int .i64 (code10 (l.all mayB))) (ej rfl e111) (w0 rfl) (s_cmp (r := !(l.all mayB)) (ej rfl rfl) ev_c (ci_tn (b := (l.all mayB)) (by decide)) (w0 rfl) ?_)))))))))
    rcases Bool.eq_false_or_eq_true (l.all mayB) with h213 | h213
    · refine s_move (v := .bool false) (vb (ej rfl rfl) (nbt h213)) (w0 rfl) (s_move (v := .string (if l.all mayB then fsT l else ⟨#[]⟩)) (ej rfl e110) (wy rfl rfl rfl rfl) (s_move (v := .string (linF l j)) (ej rfl e112) (wy rfl rfl rfl rfl) (s_cmpS (r := true) (ej rfl rfl) (ej rfl rfl) (cmpS_eqt (linF_text (by assumption) (by omega))) (wy rfl rfl rfl rfl) (s_pick0 (v := .bool true) (ej rfl rfl) (ej rfl rfl) (w0 rfl) (s_move (v := .bool true) (ej rfl rfl) (w0 rfl) (s_call F_e11 (wy rfl rfl rfl rfl) ev_f m0 (args := #[]) rfl (l_lives _ (Tabs.ext tb x106)) ?_))))))
      rintro _ w215 ⟨rfl,x214⟩
      refine s_pick1 (v := .bool true) (ej rfl rfl) (ej rfl rfl) (w0 rfl) (s_assign (v := .bool true) (ej rfl rfl) (w0 rfl) (c_done (n_then (c_ret (ret1 (v := .bool true) rfl rfl rfl ?_)))))
      refine ⟨_,rfl,?_,(Ext.trans x106 x214)⟩
      rfl
    refine s_move (v := .bool true) (vb (ej rfl rfl) (nbf h213)) (w0 rfl) (s_skip (wn rfl rfl rfl rfl rfl) (s_skip (wn rfl rfl rfl rfl rfl) (s_skip (wn rfl rfl rfl rfl rfl) (s_pick1 (v := .bool true) (ej rfl rfl) ev_c (w0 rfl) (s_move (v := .bool true) (ej rfl rfl) (w0 rfl) (s_call F_e11 (wy rfl rfl rfl rfl) ev_f m0 (args := #[]) rfl (l_lives _ (Tabs.ext tb x106)) ?_))))))
    rintro _ w217 ⟨rfl,x216⟩
    refine s_pick1 (v := .bool true) (ej rfl rfl) (ej rfl rfl) (w0 rfl) (s_assign (v := .bool true) (ej rfl rfl) (w0 rfl) (c_done (n_then (c_ret (ret1 (v := .bool true) rfl rfl rfl ?_)))))
    refine ⟨_,rfl,?_,(Ext.trans x106 x216)⟩
    rfl
  refine s_move (v := .bool false) (vb (ej rfl rfl) h102) (wy rfl rfl rfl rfl) (s_skip (wn rfl rfl rfl rfl rfl) (s_skip (wn rfl rfl rfl rfl rfl) (s_skip (wn rfl rfl rfl rfl rfl) (s_pick0 (v := .bool false) (ej rfl rfl) ev_c (wy rfl rfl rfl rfl) (s_pick0 (v := .bool false) (ej rfl rfl) (ej rfl rfl) (w0 rfl) (c_done (n_then (c_cond0 (ej rfl rfl) (c_skip (n_then (c_seq ?_)))))))))))
  refine c_reg (s_move (v := .slice A l.length c) (ej rfl e74) (w0 rfl) (s_call F_e17 (w0 rfl) ev_f (m1 (ej rfl rfl)) (args := #[.slice A l.length c]) rfl (p_Facts l A c _ hlf (Row.extF hr x69) hfl_ (Tabs.ext tb x69) (KwT.ext tk x69)) ?_))
  rintro _ w219 ⟨rfl,x218⟩
  refine s_move (v := .tuple #[.string (if l.all mayB then fsT l else ⟨#[]⟩),.int .i64 (code10 (l.all mayB))]) (ej rfl rfl) (w0 rfl) (s_extract (v := .string (if l.all mayB then fsT l else ⟨#[]⟩)) (ej rfl rfl) rfl (w0 rfl) (s_extract (v := .int .i64 (code10 (l.all mayB))) (ej rfl rfl) rfl (w0 rfl) (s_assign (v := .string (if l.all mayB then fsT l else ⟨#[]⟩)) (ej rfl rfl) (w0 rfl) (s_assign (v := .int .i64 (code10 (l.all mayB))) (ej rfl rfl) (w0 rfl) (c_done (n_then (c_seq (c_reg (s_assign (v := .string (⟨#[]⟩ : ByteArray)) ev_c (w0 rfl) (c_done (n_then ?_)))))))))))
  refine c_seq (c_seq (c_reg (s_assign (v := .int .i64 0) ev_c (w0 rfl) (c_done (n_then (c_block (c_loop (α := Nat) (fun (j : Nat) env_ w_ => Ext w w_ ∧ j ≤ l.length ∧ env_ 1 = .slice A l.length c ∧ env_ 5 = .string (if l.all mayB then fsT l else ⟨#[]⟩) ∧ env_ 6 = .int .i64 (code10 (l.all mayB)) ∧ env_ 7 = .string (linF l j) ∧ env_ 12 = .int .i64 ((j : Nat) : Int)) (fun j => l.length - j) (0) ⟨(Ext.trans x69 x218),Nat.zero_le _,e74,rfl,rfl,rfl,rfl⟩ ?_)))))))
  rintro j env222 w220 ⟨x221,i223,e224,e225,e226,e227,e228⟩
  have hP_ := linF_le hr j i223
  have hT_ := fun (h_ : j < l.length) => fcT_le hr h_
  refine c_seq (c_seq (c_reg (s_move (v := .int .i64 ((j : Nat) : Int)) (ej rfl e228) (w0 rfl) (s_move (v := .slice A l.length c) (ej rfl e224) (w0 rfl) (s_lenL F_l43 (ej rfl rfl) (w0 rfl) (s_cmp (r := decide (((j : Nat) : Int) < (l.length : Int))) (ej rfl rfl) (ej rfl rfl) rfl (w0 rfl) (c_done (n_then ?_))))))))
  by_cases h229 : ((j : Nat) : Int) < (l.length : Int)
  · refine c_cond1 (vb (ej rfl rfl) (decide_eq_true h229)) (c_skip (n_then (c_seq (c_block (c_seq (c_reg (s_move (v := .slice A l.length c) (ej rfl e224) (w0 rfl) (s_move (v := .int .i64 ((j : Nat) : Int)) (ej rfl e228) (w0 rfl) ?_))))))))
    obtain ⟨b230,o231,x232,csx232,hA233,hx234,hR235,hc236⟩ := Row.at_ hr j (by omega)
    obtain rfl := fcAt_of hx234
    obtain ⟨A237,c238,rfl,ho239,hr240⟩ := hR235
    have := Fc.okc.p ho239
    have := Fc.okc.l ho239
    have := Fc.okc.c ho239
    refine s_indexR (j := j) F_l43 (ej rfl rfl) hA233 (ej rfl rfl) rfl (by omega) (w0 rfl) (s_field (off := 0) (o' := o231 + j * 2) F_f61_0 (ej rfl rfl) rfl (w0 rfl) (s_load (v := .string ((fcAt l j).p)) F_o9 (ej rfl rfl) ((cells_ext x221 hc236) 0 _ rfl) (w0 rfl) (s_build (v := .agg #[.string ((fcAt l j).p),.slice none 0 0,.slice none 0 0]) (vs := [(0,.string ((fcAt l j).p))]) (b1 (ej rfl rfl)) (bd42_0s ((fcAt l j).p)) (w0 rfl) (s_alloc (cs := #[.string (⟨#[]⟩ : ByteArray),.slice none 0 0,.slice none 0 0]) (w0 rfl) F_z42 rfl ?_))))
    intro w242 g241 n243
    refine s_store (cs' := #[.string ((fcAt l j).p),.slice none 0 0,.slice none 0 0]) F_sz42 (ej rfl rfl) (ej rfl rfl) (l := [.string ((fcAt l j).p),.slice none 0 0,.slice none 0 0]) rfl rfl rfl (NewB.blk n243) (Nat.le_of_ble_eq_true rfl) rfl (w0 rfl) ?_
    intro w244 k245
    refine c_done (n_then (c_seq (c_seq (c_reg (s_assign (v := .int .i64 0) ev_c (w0 rfl) (c_done (n_then (c_block ?_))))))))
    have ge246 : w.heap.size ≤ g241 := by have a_ := NewB.eq n243; have b_ := Keep.size x221; omega
    refine c_loop (α := Nat × Option Addr × Nat) (fun x_ env_ w_ => match x_ with | (m,A1,c1) => Ext w w_ ∧ w_.heap[g241]? = some (.cells #[.string ((fcAt l j).p),.slice A1 m c1,.slice none 0 0] 42 (0,0)) ∧ m ≤ (fcAt l j).args.length ∧ OF 64 w.heap.size w_ A1 c1 (fcAt l j) m ∧ env_ 1 = .slice A l.length c ∧ env_ 5 = .string (if l.all mayB then fsT l else ⟨#[]⟩) ∧ env_ 6 = .int .i64 (code10 (l.all mayB)) ∧ env_ 7 = .string (linF l j) ∧ env_ 12 = .int .i64 ((j : Nat) : Int) ∧ env_ 13 = .pointer (some ⟨g241,0,none⟩) ∧ env_ 14 = .int .i64 ((m : Nat) : Int)) (fun x_ => match x_ with | (m,A1,c1) => (fcAt l j).args.length - m) (0,none,0) ⟨(Keep.then_ (Ext.trans x221 (NewB.ext n243)) (Wrote.keep k245) (fun i_ hi_ h_ => by have a_ := ge246; omega)),(Wrote.blk k245),Nat.zero_le _,OF.nil,e224,e225,e226,e227,e228,rfl,rfl⟩ ?_
    rintro ⟨m,A1,c1⟩ env249 w247 ⟨x248,bk259,i250,i251,e252,e253,e254,e255,e256,e257,e258⟩
    refine c_seq (c_seq (c_reg (s_move (v := .int .i64 ((m : Nat) : Int)) (ej rfl e258) (w0 rfl) (s_move (v := .slice A l.length c) (ej rfl e252) (w0 rfl) (s_move (v := .int .i64 ((j : Nat) : Int)) (ej rfl e256) (w0 rfl) ?_)))))
    obtain ⟨b260,o261,x262,csx262,hA263,hx264,hR265,hc266⟩ := Row.at_ hr j (by omega)
    obtain rfl := fcAt_of hx264
    obtain ⟨A267,c268,rfl,ho269,hr270⟩ := hR265
    have := Fc.okc.p ho269
    have := Fc.okc.l ho269
    have := Fc.okc.c ho269
    refine s_indexR (j := j) F_l43 (ej rfl rfl) hA263 (ej rfl rfl) rfl (by omega) (w0 rfl) (s_field (off := 1) (o' := o261 + j * 2 + 1) F_f61_1 (ej rfl rfl) rfl (w0 rfl) (s_load (v := .slice A267 ((fcAt l j).args.length) c268) F_o59 (ej rfl rfl) ((cells_ext x248 hc266) 1 _ rfl) (w0 rfl) (s_lenL F_l59 (ej rfl rfl) (w0 rfl) (s_cmp (r := decide (((m : Nat) : Int) < ((fcAt l j).args.length : Int))) (ej rfl rfl) (ej rfl rfl) rfl (w0 rfl) (c_done (n_then ?_))))))
    by_cases h271 : ((m : Nat) : Int) < ((fcAt l j).args.length : Int)
    · refine c_cond1 (vb (ej rfl rfl) (decide_eq_true h271)) (c_skip (n_then (c_seq (c_block ?_))))
      obtain ⟨b292,o293,x294,csx294,hA295,hx296,hR297,hc298⟩ := Row.at_ hr j (by omega)
      obtain rfl := fcAt_of hx296
      obtain ⟨A299,c300,rfl,ho301,hr302⟩ := hR297
      have := Fc.okc.p ho301
      have := Fc.okc.l ho301
      have := Fc.okc.c ho301
      obtain ⟨b303,o304,x305,csx305,hA306,hx307,hR308,hc309⟩ := Row.at_ hr302 m (by omega)
      obtain rfl := vlAt_of hx307
      obtain ⟨rfl,wf310⟩ := hR308
      refine c_trace (fun k v wb wa => match k with | 0 => v = .pointer (some ⟨g241,1,none⟩) | 1 => v = .slice A1 m c1 | 2 => v = .slice A l.length c | 3 => v = .int .i64 ((j : Nat) : Int) | 4 => v = .pointer (some ⟨b292,o293 + j * 2,none⟩) | 5 => v = .pointer (some ⟨b292,o293 + j * 2 + 1,none⟩) | 6 => v = .slice A299 ((fcAt l j).args.length) c300 | 7 => v = .int .i64 ((m : Nat) : Int) | 8 => v = .pointer (some ⟨b303,o304 + m * 3,none⟩) | 9 => v = .agg #[.int .i8 ((vlAt (fcAt l j).args m).k),.int .i64 ((vlAt (fcAt l j).args m).n),.string ((vlAt (fcAt l j).args m).s)] | 10 => v = .agg #[.string (⟨#[]⟩ : ByteArray),.int .i8 ((vlAt (fcAt l j).args m).k),.int .i64 ((vlAt (fcAt l j).args m).n),.string ((vlAt (fcAt l j).args m).s)] | 11 => v = .agg #[.int .i8 0,.string (⟨#[]⟩ : ByteArray),.int .i8 ((vlAt (fcAt l j).args m).k),.int .i64 ((vlAt (fcAt l j).args m).n),.string ((vlAt (fcAt l j).args m).s)] | 12 => ∃ g_,v = .slice (some ⟨g_,0,none⟩) 1 1 ∧ NewB wb g_ (.cells #[.int .i8 0,.string (⟨#[]⟩ : ByteArray),.int .i8 ((vlAt (fcAt l j).args m).k),.int .i64 ((vlAt (fcAt l j).args m).n),.string ((vlAt (fcAt l j).args m).s)] 64 (0,0)) wa | _ => True) (fun k => [91,92,93,94,95,96,97,98,99,100,101,102,103].getD k 999) (fun k => [[],[0],[],[],[2,3],[4],[5],[],[6,7],[8],[9],[10],[11]].getD k []) 13 mixed (traceB_of (by kernel_rfl)) (by decide) ?_ ?_
      · intro wd xd k_ hk_ env_ B_ A_ w_ hx_
        have hkm : k_ = 0 ∨ k_ = 1 ∨ k_ = 2 ∨ k_ = 3 ∨ k_ = 4 ∨ k_ = 5 ∨ k_ = 6 ∨ k_ = 7 ∨ k_ = 8 ∨ k_ = 9 ∨ k_ = 10 ∨ k_ = 11 ∨ k_ = 12 := by omega
        rcases hkm with rfl | rfl | rfl | rfl | rfl | rfl | rfl | rfl | rfl | rfl | rfl | rfl | rfl
        · refine ⟨_,rfl,?_⟩
          refine s_field (off := 1) (o' := 1) F_f42_1 (ej rfl ((Tr.env hx_ 13 (by decide)).trans e257)) rfl (w0 rfl) ?_
          exact tl_done ⟨_,rfl,rfl,Ext.refl _⟩
        · refine ⟨_,rfl,?_⟩
          refine s_load (v := .slice A1 m c1) F_o39 (ej rfl (Tr.g hx_ 0 (by decide))) (cell_of_blk (i := 1) (Ext.blk (Tr.ext hx_) (Ext.blk xd bk259)) rfl) (w0 rfl) ?_
          exact tl_done ⟨_,rfl,rfl,Ext.refl _⟩
        · refine ⟨_,rfl,?_⟩
          refine s_move (v := .slice A l.length c) (ej rfl ((Tr.env hx_ 1 (by decide)).trans e252)) (w0 rfl) ?_
          exact tl_done ⟨_,rfl,rfl,Ext.refl _⟩
        · refine ⟨_,rfl,?_⟩
          refine s_move (v := .int .i64 ((j : Nat) : Int)) (ej rfl ((Tr.env hx_ 12 (by decide)).trans e256)) (w0 rfl) ?_
          exact tl_done ⟨_,rfl,rfl,Ext.refl _⟩
        · refine ⟨_,rfl,?_⟩
          refine s_indexR (j := j) F_l43 (ej rfl (Tr.g hx_ 2 (by decide))) hA295 (ej rfl (Tr.g hx_ 3 (by decide))) rfl (by omega) (w0 rfl) ?_
          exact tl_done ⟨_,rfl,rfl,Ext.refl _⟩
        · refine ⟨_,rfl,?_⟩
          refine s_field (off := 1) (o' := o293 + j * 2 + 1) F_f61_1 (ej rfl (Tr.g hx_ 4 (by decide))) rfl (w0 rfl) ?_
          exact tl_done ⟨_,rfl,rfl,Ext.refl _⟩
        · refine ⟨_,rfl,?_⟩
          refine s_load (v := .slice A299 ((fcAt l j).args.length) c300) F_o59 (ej rfl (Tr.g hx_ 5 (by decide))) ((cells_ext (Tr.ext hx_) (cells_ext xd (cells_ext x248 hc298))) 1 _ rfl) (w0 rfl) ?_
          exact tl_done ⟨_,rfl,rfl,Ext.refl _⟩
        · refine ⟨_,rfl,?_⟩
          refine s_move (v := .int .i64 ((m : Nat) : Int)) (ej rfl ((Tr.env hx_ 14 (by decide)).trans e258)) (w0 rfl) ?_
          exact tl_done ⟨_,rfl,rfl,Ext.refl _⟩
        · refine ⟨_,rfl,?_⟩
          refine s_indexR (j := m) F_l59 (ej rfl (Tr.g hx_ 6 (by decide))) hA306 (ej rfl (Tr.g hx_ 7 (by decide))) rfl (by omega) (w0 rfl) ?_
          exact tl_done ⟨_,rfl,rfl,Ext.refl _⟩
        · refine ⟨_,rfl,?_⟩
          refine s_loadL (cs := [.int .i8 ((vlAt (fcAt l j).args m).k),.int .i64 ((vlAt (fcAt l j).args m).n),.string ((vlAt (fcAt l j).args m).s)]) F_m26 (ej rfl (Tr.g hx_ 8 (by decide))) rfl rfl (sub_cells (cells_ext (Tr.ext hx_) (cells_ext xd (cells_ext x248 hc309))) 0 rfl) (w0 rfl) ?_
          exact tl_done ⟨_,rfl,rfl,Ext.refl _⟩
        · refine ⟨_,rfl,?_⟩
          refine s_build (v := .agg #[.string (⟨#[]⟩ : ByteArray),.int .i8 ((vlAt (fcAt l j).args m).k),.int .i64 ((vlAt (fcAt l j).args m).n),.string ((vlAt (fcAt l j).args m).s)]) (vs := [(1,.agg #[.int .i8 ((vlAt (fcAt l j).args m).k),.int .i64 ((vlAt (fcAt l j).args m).n),.string ((vlAt (fcAt l j).args m).s)])]) (b1 (ej rfl (Tr.g hx_ 9 (by decide)))) (bd28_1ii8_1ii64_1s ((vlAt (fcAt l j).args m).k) ((vlAt (fcAt l j).args m).n) ((vlAt (fcAt l j).args m).s)) (w0 rfl) ?_
          exact tl_done ⟨_,rfl,rfl,Ext.refl _⟩
        · refine ⟨_,rfl,?_⟩
          refine s_build (v := .agg #[.int .i8 0,.string (⟨#[]⟩ : ByteArray),.int .i8 ((vlAt (fcAt l j).args m).k),.int .i64 ((vlAt (fcAt l j).args m).n),.string ((vlAt (fcAt l j).args m).s)]) (vs := [(1,.agg #[.string (⟨#[]⟩ : ByteArray),.int .i8 ((vlAt (fcAt l j).args m).k),.int .i64 ((vlAt (fcAt l j).args m).n),.string ((vlAt (fcAt l j).args m).s)])]) (b1 (ej rfl (Tr.g hx_ 10 (by decide)))) (bd64_1s_1ii8_1ii64_1s (⟨#[]⟩ : ByteArray) ((vlAt (fcAt l j).args m).k) ((vlAt (fcAt l j).args m).n) ((vlAt (fcAt l j).args m).s)) (w0 rfl) ?_
          exact tl_done ⟨_,rfl,rfl,Ext.refl _⟩
        refine ⟨_,rfl,?_⟩
        refine s_bslice (vs := [(0,.agg #[.int .i8 0,.string (⟨#[]⟩ : ByteArray),.int .i8 ((vlAt (fcAt l j).args m).k),.int .i64 ((vlAt (fcAt l j).args m).n),.string ((vlAt (fcAt l j).args m).s)])]) (cs := #[.int .i8 0,.string (⟨#[]⟩ : ByteArray),.int .i8 ((vlAt (fcAt l j).args m).k),.int .i64 ((vlAt (fcAt l j).args m).n),.string ((vlAt (fcAt l j).args m).s)]) (b1 (ej rfl (Tr.g hx_ 11 (by decide)))) (bs39_1_0ii8_0s_0ii8_0ii64_0s 0 (⟨#[]⟩ : ByteArray) ((vlAt (fcAt l j).args m).k) ((vlAt (fcAt l j).args m).n) ((vlAt (fcAt l j).args m).s)) (w0 rfl) ?_
        intro w312 g311 n313
        exact tl_done ⟨_,rfl,⟨g311,rfl,n313⟩,(NewB.ext n313)⟩
      intro wd xd env_ B_ A_ w_ hx_
      obtain ⟨g311,e314,n315⟩ := Tr.g hx_ 12 (by decide)
      replace e314 : env_ 103 = _ := e314
      refine tl_cons ?_
      refine s_append (m := 5) (k := 1) (news := [.int .i8 0,.string (⟨#[]⟩ : ByteArray),.int .i8 ((vlAt (fcAt l j).args m).k),.int .i64 ((vlAt (fcAt l j).args m).n),.string ((vlAt (fcAt l j).args m).s)]) F_ul39 F_if64 rfl (by decide) (ej rfl (Tr.g hx_ 1 (by decide))) (own_ext (Tr.ext hx_) (own_ext xd (OF.own i251))) (ej rfl e314) rfl (by have z_ := blk_cells (Ext.blk (Tr.x2 hx_ 12 (by decide)) (NewB.blk n315)) 0 (cs := [.int .i8 0,.string (⟨#[]⟩ : ByteArray),.int .i8 ((vlAt (fcAt l j).args m).k),.int .i64 ((vlAt (fcAt l j).args m).n),.string ((vlAt (fcAt l j).args m).s)]) rfl; exact z_) rfl (by have z_ := hfa_ j _ (fcAt_there (by omega)); omega) (by have z_ := hfa_ j _ (fcAt_there (by omega)); omega) (Keep.size (Ext.trans (Ext.trans x248 xd) (Tr.ext hx_))) (w0 rfl) ?_
      intro A318 c319 w316 ow320 k317
      refine tl_done ⟨trivial,?_⟩
      refine tl_cons ?_
      refine s_field (off := 1) (o' := 1) F_f42_1 (ej rfl ((Tr.env hx_ 13 (by decide)).trans e257)) rfl (w0 rfl) ?_
      refine tl_done ⟨trivial,?_⟩
      refine tl_cons ?_
      refine s_store (cs' := #[.string ((fcAt l j).p),.slice A318 (m + 1) c319,.slice none 0 0]) F_sz39 (ej rfl rfl) (ej rfl rfl) (l := [.slice A318 (m + 1) c319]) rfl rfl rfl (Keep.blk k317 (Ext.blk (Tr.ext hx_) (Ext.blk xd bk259)) (own_ne (own_ext (Tr.ext hx_) (own_ext xd (OF.own i251))) (Ext.blk (Tr.ext hx_) (Ext.blk xd bk259)) (by first | decide | assumption))) (Nat.le_of_ble_eq_true rfl) rfl (w0 rfl) ?_
      intro w321 k322
      refine tl_done ⟨trivial,?_⟩
      refine tl_nil ?_
      refine n_block (n_then (c_reg (s_move (v := .int .i64 ((m : Nat) : Int)) (ej rfl ((Tr.env hx_ 14 (by decide)).trans e258)) (w0 rfl) (s_add (r := ((m + 1 : Nat) : Int)) (ej rfl rfl) ev_c (by omega) (by omega) (w0 rfl) (s_assign (v := .int .i64 ((m + 1 : Nat) : Int)) (ej rfl rfl) (w0 rfl) (c_done ?_))))))
      exact ⟨(m + 1,A318,c319),_,rfl,⟨(Keep.then_ (Keep.then_ (Ext.trans (Ext.trans x248 xd) (Tr.ext hx_)) k317 (fun i_ hi_ h_ => by have a_ := own_ge (own_ext (Tr.ext hx_) (own_ext xd (OF.own i251))) i_ h_; omega)) (Wrote.keep k322) (fun i_ hi_ h_ => by have a_ := ge246; omega)),(Wrote.blk k322),by omega,(OF.keep (OF.snoc (by omega) ow320) (Wrote.keep k322) (Keep.blk k317 (Ext.blk (Tr.ext hx_) (Ext.blk xd bk259)) (own_ne (own_ext (Tr.ext hx_) (own_ext xd (OF.own i251))) (Ext.blk (Tr.ext hx_) (Ext.blk xd bk259)) (by first | decide | assumption))) (by decide)),((Tr.env hx_ 1 (by decide)).trans e252),((Tr.env hx_ 5 (by decide)).trans e253),((Tr.env hx_ 6 (by decide)).trans e254),((Tr.env hx_ 7 (by decide)).trans e255),((Tr.env hx_ 12 (by decide)).trans e256),((Tr.env hx_ 13 (by decide)).trans e257),rfl⟩,(show (fcAt l j).args.length - (m + 1) < (fcAt l j).args.length - m by omega)⟩
    refine c_cond0 (vb (ej rfl rfl) (decide_eq_false h271)) (c_exit (e_then (e_then (e_hit (n_then (c_seq (c_reg (s_loadL (cs := [.string ((fcAt l j).p),.slice A1 m c1,.slice none 0 0]) F_m42 (ej rfl e257) rfl rfl (blk_cells bk259 0 rfl) (w0 rfl) ?_))))))))
    obtain ⟨_,_,_,_,_,hxf_,⟨_,_,_,hof_,hrv_⟩,_⟩ := Row.at_ hr j (by omega)
    obtain rfl := fcAt_of hxf_
    refine s_call F_e15 (w0 rfl) ev_f (m1 (ej rfl rfl)) (args := #[.agg #[.string ((fcAt l j).p),.slice A1 m c1,.slice none 0 0]]) rfl (p_RuleF (fcAt l j) A1 c1 m 64 _ _ (by omega) i251 (Fc.okc.p hof_) (hfa_ j _ (fcAt_there (by omega))) (fun i_ hi_ => RV_wf hrv_ hi_) (Tabs.ext tb x248) (RelT.ext tr x248) (FoldT.ext tf x248)) ?_
    rintro _ w324 ⟨rfl,x323⟩
    refine s_move (v := .tuple #[.string (if ruB (ruOf (fcAt l j)) then ruW (ruOf (fcAt l j)) else ⟨#[]⟩),.int .i64 (code (ruB (ruOf (fcAt l j))))]) (ej rfl rfl) (w0 rfl) (s_extract (v := .string (if ruB (ruOf (fcAt l j)) then ruW (ruOf (fcAt l j)) else ⟨#[]⟩)) (ej rfl rfl) rfl (w0 rfl) (s_extract (v := .int .i64 (code (ruB (ruOf (fcAt l j))))) (ej rfl rfl) rfl (w0 rfl) (s_assign (v := .string (if ruB (ruOf (fcAt l j)) then ruW (ruOf (fcAt l j)) else ⟨#[]⟩)) (ej rfl rfl) (w0 rfl) (s_assign (v := .int .i64 (code (ruB (ruOf (fcAt l j))))) (ej rfl rfl) (w0 rfl) (c_done (n_then (c_seq (c_seq (c_reg (s_move (v := .int .i64 (code10 (l.all mayB))) (ej rfl e254) (w0 rfl) (s_cmp (r := (l.all mayB)) (ej rfl rfl) ev_c (ci_t (b := (l.all mayB)) (by decide)) (w0 rfl) ?_)))))))))))
    rcases Bool.eq_false_or_eq_true (l.all mayB) with h325 | h325
    · refine s_move (v := .bool true) (vb (ej rfl rfl) h325) (w0 rfl) (s_move (v := .int .i64 (code (ruB (ruOf (fcAt l j))))) (ej rfl rfl) (wy rfl rfl rfl rfl) (s_cmp (r := false) (ej rfl rfl) ev_c (fc_code (by assumption) (by omega)) (wy rfl rfl rfl rfl) (s_move (v := .bool false) (ej rfl rfl) (wy rfl rfl rfl rfl) (s_move (v := .string (if ruB (ruOf (fcAt l j)) then ruW (ruOf (fcAt l j)) else ⟨#[]⟩)) (ej rfl rfl) (wy rfl rfl rfl rfl) (s_call F_e16 (wy rfl rfl rfl rfl) ev_f (m1 (ej rfl rfl)) (args := #[.string (if ruB (ruOf (fcAt l j)) then ruW (ruOf (fcAt l j)) else ⟨#[]⟩)]) rfl (Rt.mono (l_plain _ _ (by have z_ := hT_ (by omega); omega)) (fun _ _ h_ => plain_val h_)) ?_)))))
      rintro _ w327 ⟨rfl,x326⟩
      refine s_not (b := true) (ej rfl rfl) (wy rfl rfl rfl rfl) (s_pick0 (v := .bool false) (ej rfl rfl) (ej rfl rfl) (wy rfl rfl rfl rfl) (s_pick1 (v := .bool false) (ej rfl rfl) (ej rfl rfl) (w0 rfl) (c_done (n_then (c_cond0 (ej rfl rfl) (c_skip (n_then (c_reg (s_move (v := .string (linF l j)) (ej rfl e255) (w0 rfl) (s_move (v := .string (if ruB (ruOf (fcAt l j)) then ruW (ruOf (fcAt l j)) else ⟨#[]⟩)) (ej rfl rfl) (w0 rfl) (s_cat (ej rfl rfl) (ej rfl rfl) (by have z_ := hT_ (by omega); (try simp only [ByteArray.size_append,z1]); omega) (w0 rfl) ?_)))))))))))
      refine s_cat (ej rfl rfl) ev_c (by have z_ := hT_ (by omega); (try simp only [ByteArray.size_append,z1]); omega) (w0 rfl) (s_assign (v := .string ((linF l j) ++ (if ruB (ruOf (fcAt l j)) then ruW (ruOf (fcAt l j)) else ⟨#[]⟩) ++ (⟨#[10]⟩ : ByteArray))) (ej rfl rfl) (w0 rfl) (c_done (n_block (n_then (c_reg (s_move (v := .int .i64 ((j : Nat) : Int)) (ej rfl e256) (w0 rfl) (s_add (r := ((j + 1 : Nat) : Int)) (ej rfl rfl) ev_c (by omega) (by omega) (w0 rfl) (s_assign (v := .int .i64 ((j + 1 : Nat) : Int)) (ej rfl rfl) (w0 rfl) (c_done ?_)))))))))
      exact ⟨(j + 1),_,rfl,⟨(Ext.trans (Ext.trans x248 x323) x326),by omega,e252,e253,e254,(congrArg Value.string (show linF l j ++ (if ruB (ruOf (fcAt l j)) then ruW (ruOf (fcAt l j)) else ⟨#[]⟩) ++ (⟨#[10]⟩ : ByteArray) = linF l (j + 1) from rfl)),rfl⟩,(show l.length - (j + 1) < l.length - j by omega)⟩
    refine s_move (v := .bool false) (vb (ej rfl rfl) h325) (w0 rfl) (s_skip (wn rfl rfl rfl rfl rfl) (s_skip (wn rfl rfl rfl rfl rfl) (s_skip (wn rfl rfl rfl rfl rfl) (s_skip (wu rfl rfl rfl rfl) (s_skip (wu rfl rfl rfl rfl) (s_skip (wu rfl rfl rfl rfl) (s_skip (wn rfl rfl rfl rfl rfl) (s_pick0 (v := .bool false) (ej rfl rfl) ev_c (w0 rfl) (c_done (n_then (c_cond0 (ej rfl rfl) ?_)))))))))))
    refine c_skip (n_then (c_reg (s_move (v := .string (linF l j)) (ej rfl e255) (w0 rfl) (s_move (v := .string (if ruB (ruOf (fcAt l j)) then ruW (ruOf (fcAt l j)) else ⟨#[]⟩)) (ej rfl rfl) (w0 rfl) (s_cat (ej rfl rfl) (ej rfl rfl) (by have z_ := hT_ (by omega); (try simp only [ByteArray.size_append,z1]); omega) (w0 rfl) (s_cat (ej rfl rfl) ev_c (by have z_ := hT_ (by omega); (try simp only [ByteArray.size_append,z1]); omega) (w0 rfl) (s_assign (v := .string ((linF l j) ++ (if ruB (ruOf (fcAt l j)) then ruW (ruOf (fcAt l j)) else ⟨#[]⟩) ++ (⟨#[10]⟩ : ByteArray))) (ej rfl rfl) (w0 rfl) (c_done (n_block (n_then (c_reg ?_)))))))))))
    refine s_move (v := .int .i64 ((j : Nat) : Int)) (ej rfl e256) (w0 rfl) (s_add (r := ((j + 1 : Nat) : Int)) (ej rfl rfl) ev_c (by omega) (by omega) (w0 rfl) (s_assign (v := .int .i64 ((j + 1 : Nat) : Int)) (ej rfl rfl) (w0 rfl) (c_done ?_)))
    exact ⟨(j + 1),_,rfl,⟨(Ext.trans x248 x323),by omega,e252,e253,e254,(congrArg Value.string (show linF l j ++ (if ruB (ruOf (fcAt l j)) then ruW (ruOf (fcAt l j)) else ⟨#[]⟩) ++ (⟨#[10]⟩ : ByteArray) = linF l (j + 1) from rfl)),rfl⟩,(show l.length - (j + 1) < l.length - j by omega)⟩
  refine c_cond0 (vb (ej rfl rfl) (decide_eq_false h229)) (c_exit (e_then (e_then (e_hit (n_then (c_seq (c_reg (s_move (v := .int .i64 (code10 (l.all mayB))) (ej rfl e226) (w0 rfl) (s_cmp (r := !(l.all mayB)) (ej rfl rfl) ev_c (ci_tn (b := (l.all mayB)) (by decide)) (w0 rfl) ?_)))))))))
  rcases Bool.eq_false_or_eq_true (l.all mayB) with h328 | h328
  · refine s_move (v := .bool false) (vb (ej rfl rfl) (nbt h328)) (w0 rfl) (s_move (v := .string (if l.all mayB then fsT l else ⟨#[]⟩)) (ej rfl e225) (wy rfl rfl rfl rfl) (s_move (v := .string (linF l j)) (ej rfl e227) (wy rfl rfl rfl rfl) (s_cmpS (r := true) (ej rfl rfl) (ej rfl rfl) (cmpS_eqt (linF_text (by assumption) (by omega))) (wy rfl rfl rfl rfl) (s_pick0 (v := .bool true) (ej rfl rfl) (ej rfl rfl) (w0 rfl) (s_move (v := .bool true) (ej rfl rfl) (w0 rfl) (s_call F_e11 (wy rfl rfl rfl rfl) ev_f m0 (args := #[]) rfl (l_lives _ (Tabs.ext tb x221)) ?_))))))
    rintro _ w330 ⟨rfl,x329⟩
    refine s_pick1 (v := .bool true) (ej rfl rfl) (ej rfl rfl) (w0 rfl) (s_assign (v := .bool true) (ej rfl rfl) (w0 rfl) (c_done (n_then (c_ret (ret1 (v := .bool true) rfl rfl rfl ?_)))))
    refine ⟨_,rfl,?_,(Ext.trans x221 x329)⟩
    rfl
  refine s_move (v := .bool true) (vb (ej rfl rfl) (nbf h328)) (w0 rfl) (s_skip (wn rfl rfl rfl rfl rfl) (s_skip (wn rfl rfl rfl rfl rfl) (s_skip (wn rfl rfl rfl rfl rfl) (s_pick1 (v := .bool true) (ej rfl rfl) ev_c (w0 rfl) (s_move (v := .bool true) (ej rfl rfl) (w0 rfl) (s_call F_e11 (wy rfl rfl rfl rfl) ev_f m0 (args := #[]) rfl (l_lives _ (Tabs.ext tb x221)) ?_))))))
  rintro _ w332 ⟨rfl,x331⟩
  refine s_pick1 (v := .bool true) (ej rfl rfl) (ej rfl rfl) (w0 rfl) (s_assign (v := .bool true) (ej rfl rfl) (w0 rfl) (c_done (n_then (c_ret (ret1 (v := .bool true) rfl rfl rfl ?_)))))
  refine ⟨_,rfl,?_,(Ext.trans x221 x331)⟩
  rfl
end Go.Proofs.Dw

set_option linter.unusedVariables false
set_option linter.unusedSimpArgs false
set_option maxRecDepth 10000
namespace Go.Proofs.Dw
open Go Go.Wk Go.Proofs Go.Lib Go.ChangeShapes Go.WideShapes Go.RowKit
section
variable {H : Type} {enc : TypeId × Value → H} {w : World} {sp : Nat → Bool} {held : Bool}
theorem ce2 : Tryd.prog.cellsOf 2 = 1 := by kernel_rfl
theorem ce9 : Tryd.prog.cellsOf 9 = 1 := by kernel_rfl
theorem ce23 : Tryd.prog.cellsOf 23 = 1 := by kernel_rfl
theorem ce24 : Tryd.prog.cellsOf 24 = 1 := by kernel_rfl
theorem ce26 : Tryd.prog.cellsOf 26 = 3 := by kernel_rfl
theorem ce28 : Tryd.prog.cellsOf 28 = 4 := by kernel_rfl
theorem ce29 : Tryd.prog.cellsOf 29 = 1 := by kernel_rfl
theorem ce31 : Tryd.prog.cellsOf 31 = 6 := by kernel_rfl
theorem ce39 : Tryd.prog.cellsOf 39 = 1 := by kernel_rfl
theorem ce40 : Tryd.prog.cellsOf 40 = 1 := by kernel_rfl
theorem ce42 : Tryd.prog.cellsOf 42 = 3 := by kernel_rfl
theorem ce44 : Tryd.prog.cellsOf 44 = 1 := by kernel_rfl
theorem ce46 : Tryd.prog.cellsOf 46 = 2 := by kernel_rfl
theorem ce59 : Tryd.prog.cellsOf 59 = 1 := by kernel_rfl
theorem ce61 : Tryd.prog.cellsOf 61 = 2 := by kernel_rfl
theorem ce62 : Tryd.prog.cellsOf 62 = 1 := by kernel_rfl
theorem ce64 : Tryd.prog.cellsOf 64 = 5 := by kernel_rfl
theorem ce117 : Tryd.prog.cellsOf 117 = 1 := by kernel_rfl
theorem ce118 : Tryd.prog.cellsOf 118 = 1 := by kernel_rfl
theorem ce120 : Tryd.prog.cellsOf 120 = 16 := by kernel_rfl
theorem by26 : Tryd.prog.bytesOf 26 = 32 := by kernel_rfl
theorem by28 : Tryd.prog.bytesOf 28 = 48 := by kernel_rfl
theorem by31 : Tryd.prog.bytesOf 31 = 80 := by kernel_rfl
theorem by42 : Tryd.prog.bytesOf 42 = 64 := by kernel_rfl
theorem by61 : Tryd.prog.bytesOf 61 = 40 := by kernel_rfl
theorem by64 : Tryd.prog.bytesOf 64 = 56 := by kernel_rfl
theorem by120 : Tryd.prog.bytesOf 120 = 216 := by kernel_rfl
theorem len2 {l : List Value} (h : l.length = 2) : ∃ u0 u1,l = [u0,u1] := by
  match l,h with | [u0,u1],_ => exact ⟨u0,u1,rfl⟩
theorem len3 {l : List Value} (h : l.length = 3) : ∃ u0 u1 u2,l = [u0,u1,u2] := by
  match l,h with | [u0,u1,u2],_ => exact ⟨u0,u1,u2,rfl⟩
theorem len4 {l : List Value} (h : l.length = 4) : ∃ u0 u1 u2 u3,l = [u0,u1,u2,u3] := by
  match l,h with | [u0,u1,u2,u3],_ => exact ⟨u0,u1,u2,u3,rfl⟩
theorem len5 {l : List Value} (h : l.length = 5) : ∃ u0 u1 u2 u3 u4,l = [u0,u1,u2,u3,u4] := by
  match l,h with | [u0,u1,u2,u3,u4],_ => exact ⟨u0,u1,u2,u3,u4,rfl⟩
theorem len6 {l : List Value} (h : l.length = 6) : ∃ u0 u1 u2 u3 u4 u5,l = [u0,u1,u2,u3,u4,u5] := by
  match l,h with | [u0,u1,u2,u3,u4,u5],_ => exact ⟨u0,u1,u2,u3,u4,u5,rfl⟩
theorem len16 {l : List Value} (h : l.length = 16) : ∃ u0 u1 u2 u3 u4 u5 u6 u7 u8 u9 u10 u11 u12 u13 u14 u15,l = [u0,u1,u2,u3,u4,u5,u6,u7,u8,u9,u10,u11,u12,u13,u14,u15] := by
  match l,h with | [u0,u1,u2,u3,u4,u5,u6,u7,u8,u9,u10,u11,u12,u13,u14,u15],_ => exact ⟨u0,u1,u2,u3,u4,u5,u6,u7,u8,u9,u10,u11,u12,u13,u14,u15,rfl⟩
theorem xs2 {α : Type} {l : List α} (h : l.length = 2) : ∃ u0 u1,l = [u0,u1] := by
  match l,h with | [u0,u1],_ => exact ⟨u0,u1,rfl⟩
theorem xs3 {α : Type} {l : List α} (h : l.length = 3) : ∃ u0 u1 u2,l = [u0,u1,u2] := by
  match l,h with | [u0,u1,u2],_ => exact ⟨u0,u1,u2,rfl⟩
theorem xs5 {α : Type} {l : List α} (h : l.length = 5) : ∃ u0 u1 u2 u3 u4,l = [u0,u1,u2,u3,u4] := by
  match l,h with | [u0,u1,u2,u3,u4],_ => exact ⟨u0,u1,u2,u3,u4,rfl⟩
theorem small (n : Nat) : n ≤ reachBytes → n ≤ 140737488351232 := fun h => h
theorem i8_wf {n : Int} (h : (Lit.int .i8 n).wf = true) : -128 ≤ n ∧ n ≤ 127 := by
  simp only [Lit.wf,Bool.and_eq_true,decide_eq_true_eq] at h; exact h
theorem i64_wf {n : Int} (h : (Lit.int .i64 n).wf = true) : -9223372036854775808 ≤ n ∧ n ≤ 9223372036854775807 := by
  simp only [Lit.wf,Bool.and_eq_true,decide_eq_true_eq] at h; exact h
theorem weights_all {P : Program} {e : TypeId} {d : DataW H} {k : Nat} : ∀ {l : List (DataW H)},d ∈ l → k ∈ d.weights P e → k ∈ DataW.weightsAll P e l
  | [],h,_ => by simp at h
  | y :: l,h,hk => by
    rcases List.mem_cons.1 h with rfl | h
    · simp [DataW.weightsAll,hk]
    simp [DataW.weightsAll,weights_all h hk]
theorem o_slice {α : Type} (R : World → α → List Value → Prop) (zero : α) {t e : TypeId} {m bytes : Nat} (ht : Tryd.prog.underlying t = some (.slice e)) (hm : Tryd.prog.cellsOf e = m) (h0 : 0 < m) (hby : Tryd.prog.bytesOf e = bytes) {n : Nat}
    (hel : ∀ (n' : Nat),n' < n → ∀ (cs : List Value) (x : DataW H × List MemPlace),DataW.trod enc Tryd.prog w 0 sp held n' e cs = some x → (∀ k ∈ x.1.weights Tryd.prog e,k ≤ reachBytes) → ∃ y,R w y cs)
    {c : Value} {x : DataW H × List MemPlace} (h : DataW.trod enc Tryd.prog w 0 sp held n t [c] = some x) (hs : ∀ k ∈ x.1.weights Tryd.prog t,k ≤ reachBytes) :
    ∃ (l : List α) (A : Option Addr) (cap : Nat),c = .slice A l.length cap ∧ l.length ≤ cap ∧ l.length * bytes ≤ 140737488351232 ∧ Row R m w A l := by
  rcases DataW.trod_slice ht h with ⟨ec,rfl⟩ | ⟨ad,len,cap,elems,rest,n',rfl,ec,rfl,hb,hlc,hmx,hlen,hel1,hrest⟩
  · cases ec
    exact ⟨[],none,0,rfl,Nat.le_refl _,by simp,Row.nil⟩
  cases ec
  have hbytes : len * bytes ≤ 140737488351232 := by
    have h1 := hs ((elems.length + rest.length) * bytes) (by simp [DataW.weights,ht,hby])
    have h2 := small _ h1
    rw [hlen] at h2
    exact Nat.le_trans (Nat.mul_le_mul_right _ (Nat.le_add_right _ _)) h2
  have each : ∀ i,i < len → ∃ (y : α) (l : List Value),R w y l ∧ (i = 0 → ad.spot = none) ∧ ∀ (j : Nat) (u : Value),l[j]? = some u → w.cell? ⟨ad.block,ad.off + i * m + j,none⟩ = some u := by
    intro i hi
    have h1 := hel1 i hi
    rw [hm] at h1
    have hi2 : i < elems.length := by omega
    rw [List.getElem?_eq_getElem hi2] at h1
    obtain ⟨cs',hcs,htr⟩ := Option.bind_eq_some_iff.1 h1
    obtain ⟨hb',hl',hc'⟩ := World.cells?_some hcs
    obtain ⟨y,hy⟩ := hel n' (by omega) cs' _ htr (fun k hk => hs k (by
      simp only [DataW.weights,ht,List.mem_cons,List.mem_append]
      exact .inr (.inl (weights_all (List.mem_map_of_mem (List.getElem_mem hi2)) hk))))
    have hsp : (ad.add (i * m)).spot = none := by
      have := hc' 0 (by omega)
      rw [List.getElem?_eq_getElem (by omega)] at this
      rw [show (ad.add (i * m)).add 0 = ad.add (i * m) from by simp [Addr.add]] at this
      cases hq : (ad.add (i * m)).spot with
      | none => rfl
      | some q =>
        unfold World.cell? at this
        rw [hq] at this
        split at this <;> simp at this
    have had : ad.add (i * m) = ⟨ad.block,ad.off + i * m,none⟩ := by
      unfold Addr.add at hsp ⊢
      split
      · rename_i h0
        rw [if_pos h0] at hsp
        obtain ⟨b1,o1,s1⟩ := ad
        simp only at hsp
        subst hsp
        simp [h0]
      rfl
    refine ⟨y,cs',hy,?_,fun j u hu => ?_⟩
    · intro h0
      subst h0
      simpa [Addr.add] using hsp
    have hj : j < cs'.length := (List.getElem?_eq_some_iff.1 hu).1
    have := hc' j (by omega)
    rw [had,add0] at this
    rw [this]; exact hu
  have hex : ∃ f : Nat → α,∀ i,i < len → ∃ l : List Value,R w (f i) l ∧ (i = 0 → ad.spot = none) ∧ ∀ (j : Nat) (u : Value),l[j]? = some u → w.cell? ⟨ad.block,ad.off + i * m + j,none⟩ = some u := by
    refine ⟨fun i => if hi : i < len then Classical.choose (each i hi) else zero,fun i hi => ?_⟩
    simp only [dif_pos hi]
    exact Classical.choose_spec (each i hi)
  obtain ⟨f,hf⟩ := hex
  have hkl : ((List.range len).map f).length = len := by simp
  refine ⟨(List.range len).map f,some ad,cap,?_,?_,?_,?_⟩
  · rw [hkl]
  · rw [hkl]; exact hlc
  · rw [hkl]; exact hbytes
  by_cases h0 : len = 0
  · subst h0; exact .inl rfl
  obtain ⟨_,_,h2,_⟩ := hf 0 (by omega)
  have hsp := h2 rfl
  obtain ⟨b1,o1,s1⟩ := ad
  simp only at hsp
  subst hsp
  refine .inr ⟨b1,o1,rfl,fun j y hy => ?_⟩
  have hj : j < len := by
    have := (List.getElem?_eq_some_iff.1 hy).1
    rwa [hkl] at this
  obtain ⟨l,a1,_,a3⟩ := hf j hj
  have : y = f j := by simpa [hj] using hy.symm
  subst this
  exact ⟨l,a1,a3⟩
theorem o_V {n : Nat} {cs : List Value} {x : DataW H × List MemPlace} (h : DataW.trod enc Tryd.prog w 0 sp held n 26 cs = some x) (hs : ∀ k ∈ x.1.weights Tryd.prog 26,k ≤ reachBytes) : ∃ y,RV w y cs := by
  obtain ⟨xs,m,rfl,rfl,hl,hx,hf⟩ := DataW.trod_struct Tryd.underlying26 h
  obtain ⟨c0,c1,c2,rfl⟩ := len3 (hl.trans ce26)
  obtain ⟨a0,a1,a2,rfl⟩ := xs3 hx
  have f0 : DataW.trod enc Tryd.prog w 0 sp held m 24 (([c0,c1,c2].drop 0).take (Tryd.prog.cellsOf 24)) = some a0 := hf 0 _ rfl
  rw [ce24] at f0
  have f1 : DataW.trod enc Tryd.prog w 0 sp held m 2 (([c0,c1,c2].drop 1).take (Tryd.prog.cellsOf 2)) = some a1 := hf 1 _ rfl
  rw [ce2] at f1
  have f2 : DataW.trod enc Tryd.prog w 0 sp held m 9 (([c0,c1,c2].drop 2).take (Tryd.prog.cellsOf 9)) = some a2 := hf 2 _ rfl
  rw [ce9] at f2
  obtain ⟨k0,e0,r0,w0⟩ := DataW.trod_int (k := .i8) Tryd.underlying24 (show DataW.trod enc Tryd.prog w 0 sp held m 24 [c0] = some a0 from f0)
  cases e0
  subst r0
  obtain ⟨k1,e1,r1,w1⟩ := DataW.trod_int (k := .i64) Tryd.underlying2 (show DataW.trod enc Tryd.prog w 0 sp held m 2 [c1] = some a1 from f1)
  cases e1
  subst r1
  obtain ⟨s2,e2,r2,w2⟩ := DataW.trod_string Tryd.underlying9 (show DataW.trod enc Tryd.prog w 0 sp held m 9 [c2] = some a2 from f2)
  cases e2
  subst r2
  have z2 : s2.size ≤ 140737488351232 := hs s2.data.toList.length (by simp [DataW.weights,Tryd.underlying26,DataW.weightsEach])
  exact ⟨⟨k0,k1,s2⟩,rfl,⟨i8_wf w0,i64_wf w1,z2⟩⟩
theorem o_T {n : Nat} {cs : List Value} {x : DataW H × List MemPlace} (h : DataW.trod enc Tryd.prog w 0 sp held n 28 cs = some x) (hs : ∀ k ∈ x.1.weights Tryd.prog 28,k ≤ reachBytes) : ∃ y,RT w y cs := by
  obtain ⟨xs,m,rfl,rfl,hl,hx,hf⟩ := DataW.trod_struct Tryd.underlying28 h
  obtain ⟨c0,c1,c2,c3,rfl⟩ := len4 (hl.trans ce28)
  obtain ⟨a0,a1,rfl⟩ := xs2 hx
  have f0 : DataW.trod enc Tryd.prog w 0 sp held m 9 (([c0,c1,c2,c3].drop 0).take (Tryd.prog.cellsOf 9)) = some a0 := hf 0 _ rfl
  rw [ce9] at f0
  have f1 : DataW.trod enc Tryd.prog w 0 sp held m 26 (([c0,c1,c2,c3].drop 1).take (Tryd.prog.cellsOf 26)) = some a1 := hf 1 _ rfl
  rw [ce26] at f1
  obtain ⟨s0,e0,r0,w0⟩ := DataW.trod_string Tryd.underlying9 (show DataW.trod enc Tryd.prog w 0 sp held m 9 [c0] = some a0 from f0)
  cases e0
  subst r0
  have z0 : s0.size ≤ 140737488351232 := hs s0.data.toList.length (by simp [DataW.weights,Tryd.underlying28,DataW.weightsEach])
  obtain ⟨v1,ev1,hw1⟩ := o_V (show DataW.trod enc Tryd.prog w 0 sp held m 26 [c1,c2,c3] = some a1 from f1) (fun k hk => hs k (by simp [DataW.weights,Tryd.underlying28,DataW.weightsEach,hk]))
  simp only [List.cons.injEq,and_true] at ev1
  obtain ⟨rfl,rfl,rfl⟩ := ev1
  exact ⟨⟨s0,v1⟩,rfl,⟨z0,hw1⟩⟩
theorem o_E : ∀ (n : Nat) (cs : List Value) (x : DataW H × List MemPlace),DataW.trod enc Tryd.prog w 0 sp held n 31 cs = some x → (∀ k ∈ x.1.weights Tryd.prog 31,k ≤ reachBytes) → ∃ y,RE w y cs := by
  intro n
  induction n using Nat.strongRecOn with
  | _ n ih =>
    intro cs x h hs
    obtain ⟨xs,m,rfl,rfl,hl,hx,hf⟩ := DataW.trod_struct Tryd.underlying31 h
    obtain ⟨c0,c1,c2,c3,c4,c5,rfl⟩ := len6 (hl.trans ce31)
    obtain ⟨a0,a1,a2,rfl⟩ := xs3 hx
    have f0 : DataW.trod enc Tryd.prog w 0 sp held m 23 (([c0,c1,c2,c3,c4,c5].drop 0).take (Tryd.prog.cellsOf 23)) = some a0 := hf 0 _ rfl
    rw [ce23] at f0
    have f1 : DataW.trod enc Tryd.prog w 0 sp held m 28 (([c0,c1,c2,c3,c4,c5].drop 1).take (Tryd.prog.cellsOf 28)) = some a1 := hf 1 _ rfl
    rw [ce28] at f1
    have f2 : DataW.trod enc Tryd.prog w 0 sp held m 29 (([c0,c1,c2,c3,c4,c5].drop 5).take (Tryd.prog.cellsOf 29)) = some a2 := hf 2 _ rfl
    rw [ce29] at f2
    obtain ⟨k0,e0,r0,w0⟩ := DataW.trod_int (k := .i8) Tryd.underlying23 (show DataW.trod enc Tryd.prog w 0 sp held m 23 [c0] = some a0 from f0)
    cases e0
    subst r0
    obtain ⟨v1,ev1,hw1⟩ := o_T (show DataW.trod enc Tryd.prog w 0 sp held m 28 [c1,c2,c3,c4] = some a1 from f1) (fun k hk => hs k (by simp [DataW.weights,Tryd.underlying31,DataW.weightsEach,hk]))
    simp only [List.cons.injEq,and_true] at ev1
    obtain ⟨rfl,rfl,rfl,rfl⟩ := ev1
    obtain ⟨l2,A2,d2,el2,hl2,hc2,hr2⟩ := o_slice RE Ex.none Tryd.underlying29 ce31 (by decide) by31 (fun n' hn cs x h hs => ih n' (by omega) cs x h hs) (show DataW.trod enc Tryd.prog w 0 sp held m 29 [c5] = some a2 from f2) (fun k hk => hs k (by simp [DataW.weights,Tryd.underlying31,DataW.weightsEach,hk]))
    cases el2
    exact ⟨.mk k0 v1 l2,RE.mk_ (x := .mk k0 v1 l2) (A := A2) (c := d2) ⟨i8_wf w0,hw1,hl2,hc2⟩ hr2⟩
theorem o_A {n : Nat} {cs : List Value} {x : DataW H × List MemPlace} (h : DataW.trod enc Tryd.prog w 0 sp held n 46 cs = some x) (hs : ∀ k ∈ x.1.weights Tryd.prog 46,k ≤ reachBytes) : ∃ y,RA w y cs := by
  obtain ⟨xs,m,rfl,rfl,hl,hx,hf⟩ := DataW.trod_struct Tryd.underlying46 h
  obtain ⟨c0,c1,rfl⟩ := len2 (hl.trans ce46)
  obtain ⟨a0,a1,rfl⟩ := xs2 hx
  have f0 : DataW.trod enc Tryd.prog w 0 sp held m 9 (([c0,c1].drop 0).take (Tryd.prog.cellsOf 9)) = some a0 := hf 0 _ rfl
  rw [ce9] at f0
  have f1 : DataW.trod enc Tryd.prog w 0 sp held m 44 (([c0,c1].drop 1).take (Tryd.prog.cellsOf 44)) = some a1 := hf 1 _ rfl
  rw [ce44] at f1
  obtain ⟨s0,e0,r0,w0⟩ := DataW.trod_string Tryd.underlying9 (show DataW.trod enc Tryd.prog w 0 sp held m 9 [c0] = some a0 from f0)
  cases e0
  subst r0
  have z0 : s0.size ≤ 140737488351232 := hs s0.data.toList.length (by simp [DataW.weights,Tryd.underlying46,DataW.weightsEach])
  obtain ⟨l1,A1,d1,el1,hl1,hc1,hr1⟩ := o_slice RT Tm.none Tryd.underlying44 ce28 (by decide) by28 (fun n' hn cs x h hs => o_T h hs) (show DataW.trod enc Tryd.prog w 0 sp held m 44 [c1] = some a1 from f1) (fun k hk => hs k (by simp [DataW.weights,Tryd.underlying46,DataW.weightsEach,hk]))
  cases el1
  exact ⟨⟨s0,l1⟩,A1,d1,rfl,⟨z0,hl1,hc1⟩,hr1⟩
theorem o_L {n : Nat} {cs : List Value} {x : DataW H × List MemPlace} (h : DataW.trod enc Tryd.prog w 0 sp held n 120 cs = some x) (hs : ∀ k ∈ x.1.weights Tryd.prog 120,k ≤ reachBytes) : ∃ y,RL w y cs := by
  obtain ⟨xs,m,rfl,rfl,hl,hx,hf⟩ := DataW.trod_struct Tryd.underlying120 h
  obtain ⟨c0,c1,c2,c3,c4,c5,c6,c7,c8,c9,c10,c11,c12,c13,c14,c15,rfl⟩ := len16 (hl.trans ce120)
  obtain ⟨a0,a1,a2,a3,a4,rfl⟩ := xs5 hx
  have f0 : DataW.trod enc Tryd.prog w 0 sp held m 117 (([c0,c1,c2,c3,c4,c5,c6,c7,c8,c9,c10,c11,c12,c13,c14,c15].drop 0).take (Tryd.prog.cellsOf 117)) = some a0 := hf 0 _ rfl
  rw [ce117] at f0
  have f1 : DataW.trod enc Tryd.prog w 0 sp held m 46 (([c0,c1,c2,c3,c4,c5,c6,c7,c8,c9,c10,c11,c12,c13,c14,c15].drop 1).take (Tryd.prog.cellsOf 46)) = some a1 := hf 1 _ rfl
  rw [ce46] at f1
  have f2 : DataW.trod enc Tryd.prog w 0 sp held m 118 (([c0,c1,c2,c3,c4,c5,c6,c7,c8,c9,c10,c11,c12,c13,c14,c15].drop 3).take (Tryd.prog.cellsOf 118)) = some a2 := hf 2 _ rfl
  rw [ce118] at f2
  have f3 : DataW.trod enc Tryd.prog w 0 sp held m 31 (([c0,c1,c2,c3,c4,c5,c6,c7,c8,c9,c10,c11,c12,c13,c14,c15].drop 4).take (Tryd.prog.cellsOf 31)) = some a3 := hf 3 _ rfl
  rw [ce31] at f3
  have f4 : DataW.trod enc Tryd.prog w 0 sp held m 31 (([c0,c1,c2,c3,c4,c5,c6,c7,c8,c9,c10,c11,c12,c13,c14,c15].drop 10).take (Tryd.prog.cellsOf 31)) = some a4 := hf 4 _ rfl
  rw [ce31] at f4
  obtain ⟨k0,e0,r0,w0⟩ := DataW.trod_int (k := .i8) Tryd.underlying117 (show DataW.trod enc Tryd.prog w 0 sp held m 117 [c0] = some a0 from f0)
  cases e0
  subst r0
  obtain ⟨v1,A1,d1,ev1,ho1,hr1⟩ := o_A (show DataW.trod enc Tryd.prog w 0 sp held m 46 [c1,c2] = some a1 from f1) (fun k hk => hs k (by simp [DataW.weights,Tryd.underlying120,DataW.weightsEach,hk]))
  simp only [List.cons.injEq,and_true] at ev1
  obtain ⟨rfl,rfl⟩ := ev1
  obtain ⟨k2,e2,r2,w2⟩ := DataW.trod_int (k := .i8) Tryd.underlying118 (show DataW.trod enc Tryd.prog w 0 sp held m 118 [c3] = some a2 from f2)
  cases e2
  subst r2
  obtain ⟨v3,hv3⟩ := o_E m _ _ (show DataW.trod enc Tryd.prog w 0 sp held m 31 [c4,c5,c6,c7,c8,c9] = some a3 from f3) (fun k hk => hs k (by simp [DataW.weights,Tryd.underlying120,DataW.weightsEach,hk]))
  obtain ⟨A3,d3,ev3,ho3,hr3⟩ := RE.open_ hv3
  simp only [List.cons.injEq,and_true] at ev3
  obtain ⟨rfl,rfl,rfl,rfl,rfl,rfl⟩ := ev3
  obtain ⟨v4,hv4⟩ := o_E m _ _ (show DataW.trod enc Tryd.prog w 0 sp held m 31 [c10,c11,c12,c13,c14,c15] = some a4 from f4) (fun k hk => hs k (by simp [DataW.weights,Tryd.underlying120,DataW.weightsEach,hk]))
  obtain ⟨A4,d4,ev4,ho4,hr4⟩ := RE.open_ hv4
  simp only [List.cons.injEq,and_true] at ev4
  obtain ⟨rfl,rfl,rfl,rfl,rfl,rfl⟩ := ev4
  exact ⟨⟨k0,v1,k2,v3,v4⟩,A1,A3,A4,d1,d3,d4,rfl,⟨i8_wf w0,i8_wf w2,ho1,ho3,ho4⟩,hr1,hr3,hr4⟩
theorem o_G {n : Nat} {cs : List Value} {x : DataW H × List MemPlace} (h : DataW.trod enc Tryd.prog w 0 sp held n 64 cs = some x) (hs : ∀ k ∈ x.1.weights Tryd.prog 64,k ≤ reachBytes) : ∃ y,RG w y cs := by
  obtain ⟨xs,m,rfl,rfl,hl,hx,hf⟩ := DataW.trod_struct Tryd.underlying64 h
  obtain ⟨c0,c1,c2,c3,c4,rfl⟩ := len5 (hl.trans ce64)
  obtain ⟨a0,a1,rfl⟩ := xs2 hx
  have f0 : DataW.trod enc Tryd.prog w 0 sp held m 62 (([c0,c1,c2,c3,c4].drop 0).take (Tryd.prog.cellsOf 62)) = some a0 := hf 0 _ rfl
  rw [ce62] at f0
  have f1 : DataW.trod enc Tryd.prog w 0 sp held m 28 (([c0,c1,c2,c3,c4].drop 1).take (Tryd.prog.cellsOf 28)) = some a1 := hf 1 _ rfl
  rw [ce28] at f1
  obtain ⟨k0,e0,r0,w0⟩ := DataW.trod_int (k := .i8) Tryd.underlying62 (show DataW.trod enc Tryd.prog w 0 sp held m 62 [c0] = some a0 from f0)
  cases e0
  subst r0
  obtain ⟨v1,ev1,hw1⟩ := o_T (show DataW.trod enc Tryd.prog w 0 sp held m 28 [c1,c2,c3,c4] = some a1 from f1) (fun k hk => hs k (by simp [DataW.weights,Tryd.underlying64,DataW.weightsEach,hk]))
  simp only [List.cons.injEq,and_true] at ev1
  obtain ⟨rfl,rfl,rfl,rfl⟩ := ev1
  exact ⟨⟨k0,v1⟩,rfl,⟨i8_wf w0,hw1⟩⟩
theorem o_U {n : Nat} {cs : List Value} {x : DataW H × List MemPlace} (h : DataW.trod enc Tryd.prog w 0 sp held n 42 cs = some x) (hs : ∀ k ∈ x.1.weights Tryd.prog 42,k ≤ reachBytes) : ∃ y,RU w y cs := by
  obtain ⟨xs,m,rfl,rfl,hl,hx,hf⟩ := DataW.trod_struct Tryd.underlying42 h
  obtain ⟨c0,c1,c2,rfl⟩ := len3 (hl.trans ce42)
  obtain ⟨a0,a1,a2,rfl⟩ := xs3 hx
  have f0 : DataW.trod enc Tryd.prog w 0 sp held m 9 (([c0,c1,c2].drop 0).take (Tryd.prog.cellsOf 9)) = some a0 := hf 0 _ rfl
  rw [ce9] at f0
  have f1 : DataW.trod enc Tryd.prog w 0 sp held m 39 (([c0,c1,c2].drop 1).take (Tryd.prog.cellsOf 39)) = some a1 := hf 1 _ rfl
  rw [ce39] at f1
  have f2 : DataW.trod enc Tryd.prog w 0 sp held m 40 (([c0,c1,c2].drop 2).take (Tryd.prog.cellsOf 40)) = some a2 := hf 2 _ rfl
  rw [ce40] at f2
  obtain ⟨s0,e0,r0,w0⟩ := DataW.trod_string Tryd.underlying9 (show DataW.trod enc Tryd.prog w 0 sp held m 9 [c0] = some a0 from f0)
  cases e0
  subst r0
  have z0 : s0.size ≤ 140737488351232 := hs s0.data.toList.length (by simp [DataW.weights,Tryd.underlying42,DataW.weightsEach])
  obtain ⟨l1,A1,d1,el1,hl1,hc1,hr1⟩ := o_slice RG Ag.none Tryd.underlying39 ce64 (by decide) by64 (fun n' hn cs x h hs => o_G h hs) (show DataW.trod enc Tryd.prog w 0 sp held m 39 [c1] = some a1 from f1) (fun k hk => hs k (by simp [DataW.weights,Tryd.underlying42,DataW.weightsEach,hk]))
  cases el1
  obtain ⟨l2,A2,d2,el2,hl2,hc2,hr2⟩ := o_slice RL Lt.zero Tryd.underlying40 ce120 (by decide) by120 (fun n' hn cs x h hs => o_L h hs) (show DataW.trod enc Tryd.prog w 0 sp held m 40 [c2] = some a2 from f2) (fun k hk => hs k (by simp [DataW.weights,Tryd.underlying42,DataW.weightsEach,hk]))
  cases el2
  exact ⟨⟨s0,l1,l2⟩,A1,A2,d1,d2,rfl,⟨z0,hl1,hc1,hl2,hc2⟩,hr1,hr2⟩
theorem o_F {n : Nat} {cs : List Value} {x : DataW H × List MemPlace} (h : DataW.trod enc Tryd.prog w 0 sp held n 61 cs = some x) (hs : ∀ k ∈ x.1.weights Tryd.prog 61,k ≤ reachBytes) : ∃ y,RF w y cs := by
  obtain ⟨xs,m,rfl,rfl,hl,hx,hf⟩ := DataW.trod_struct Tryd.underlying61 h
  obtain ⟨c0,c1,rfl⟩ := len2 (hl.trans ce61)
  obtain ⟨a0,a1,rfl⟩ := xs2 hx
  have f0 : DataW.trod enc Tryd.prog w 0 sp held m 9 (([c0,c1].drop 0).take (Tryd.prog.cellsOf 9)) = some a0 := hf 0 _ rfl
  rw [ce9] at f0
  have f1 : DataW.trod enc Tryd.prog w 0 sp held m 59 (([c0,c1].drop 1).take (Tryd.prog.cellsOf 59)) = some a1 := hf 1 _ rfl
  rw [ce59] at f1
  obtain ⟨s0,e0,r0,w0⟩ := DataW.trod_string Tryd.underlying9 (show DataW.trod enc Tryd.prog w 0 sp held m 9 [c0] = some a0 from f0)
  cases e0
  subst r0
  have z0 : s0.size ≤ 140737488351232 := hs s0.data.toList.length (by simp [DataW.weights,Tryd.underlying61,DataW.weightsEach])
  obtain ⟨l1,A1,d1,el1,hl1,hc1,hr1⟩ := o_slice RV Vl.none Tryd.underlying59 ce26 (by decide) by26 (fun n' hn cs x h hs => o_V h hs) (show DataW.trod enc Tryd.prog w 0 sp held m 59 [c1] = some a1 from f1) (fun k hk => hs k (by simp [DataW.weights,Tryd.underlying61,DataW.weightsEach,hk]))
  cases el1
  exact ⟨⟨s0,l1⟩,A1,d1,rfl,⟨z0,hl1,hc1⟩,hr1⟩
theorem o_lU {n : Nat} {c : Value} {x : DataW H × List MemPlace} (h : DataW.trod enc Tryd.prog w 0 sp held n 51 [c] = some x) (hs : ∀ k ∈ x.1.weights Tryd.prog 51,k ≤ reachBytes) : ∃ l A cap,c = .slice A l.length cap ∧ l.length ≤ cap ∧ l.length * 64 ≤ 140737488351232 ∧ Row RU 3 w A l :=
  o_slice RU ⟨⟨#[]⟩,[],[]⟩ Tryd.underlying51 ce42 (by decide) by42 (fun n' hn cs x h hs => o_U h hs) h hs
theorem o_lF {n : Nat} {c : Value} {x : DataW H × List MemPlace} (h : DataW.trod enc Tryd.prog w 0 sp held n 43 [c] = some x) (hs : ∀ k ∈ x.1.weights Tryd.prog 43,k ≤ reachBytes) : ∃ l A cap,c = .slice A l.length cap ∧ l.length ≤ cap ∧ l.length * 40 ≤ 140737488351232 ∧ Row RF 2 w A l :=
  o_slice RF Fc.none Tryd.underlying43 ce61 (by decide) by61 (fun n' hn cs x h hs => o_F h hs) h hs
end
end Go.Proofs.Dw

set_option linter.unusedVariables false
set_option maxRecDepth 100000
namespace Go.Proofs.YtjjkfbjidpolmaaDoor
open Go Go.Proofs Go.ChangeShapes Go.WideShapes Go.RowKit Go.Wk Go.Deep
theorem own_ : ownKnob Tryd.prog.godebug = none := by kernel_rfl
theorem kids_ : Kids Tryd.prog (· < Tryd.prog.types.size) := kids_rows (by kernel_rfl) (by kernel_rfl)
theorem full_ : ∀ t e,t < Tryd.prog.types.size → Tryd.prog.underlying t = some (.slice e) → 0 < Tryd.prog.cellsOf e := slices_full_of Tryd.prog (by kernel_rfl)
def litV : DataW Unit → Option Value
  | .lit (.int k n) => some (.int k n)
  | .lit (.string l) => some (.string ⟨l.toArray⟩)
  | _ => none
theorem litV_of {P : Program} {W : World} {sp : Nat → Bool} {held : Bool} {enc : TypeId × Value → Unit} {m : Nat} {e : TypeId} {c : Value} {x : DataW Unit × List MemPlace} (he : (∃ k,P.underlying e = some (.int k)) ∨ P.underlying e = some .string) (h : DataW.trod enc P W 0 sp held m e [c] = some x) : litV x.1 = some c := by
  rcases he with ⟨k,he⟩ | he
  · obtain ⟨n,h1,h2,_⟩ := DataW.trod_int he h
    cases h1; subst h2; rfl
  obtain ⟨s,h1,h2,_⟩ := DataW.trod_string he h
  cases h1; subst h2
  simp [litV]
theorem var_of {P : Program} {W : World} {nm : String} {d : DataW Unit} {ds : List (DataW Unit)} {g t e n : Nat} {cs : List Value} {l : List (String × DataW Unit)} (h : laidMet P l W) (keep : String × DataW Unit → Bool) (hk : l.filter keep = [(nm,d)]) (hg : P.globalNamed nm = some g) (hty : (P.globals[g]?).map (·.type) = some t) (ht : P.underlying t = some (.array n e))
    (he : (∃ k,P.underlying e = some (.int k)) ∨ P.underlying e = some .string) (hce : P.cellsOf e = 1) (hct : P.cellsOf t = n) (hd : d = .agg ds) (hc : ds.map litV = cs.map some) : W.var? P nm = some cs.toArray := by
  have h1 := h.filter keep
  rw [hk] at h1
  obtain ⟨ps,⟨g',t',cs',fuel,p,q,hg',ht',hv,hd',_,_⟩,_⟩ := h1
  obtain rfl := Option.some.inj (hg.symm.trans hg')
  obtain rfl := Option.some.inj (hty.symm.trans ht')
  obtain ⟨xs,m,_,ex,hl0,hl,hel⟩ := DataW.trod_array ht hd'
  rw [hd] at ex
  have e3 : ds = xs.map (·.1) := DataW.agg.inj (Prod.mk.inj ex).1
  rw [hv]
  congr 1
  apply Array.ext'
  rw [List.toList_toArray]
  have hlen : cs'.toList.length = n := by rw [← hct]; exact hl0
  have key : cs'.toList.map some = cs.map some := by
    rw [← hc,e3,List.map_map]
    apply List.ext_getElem
    · simp [hlen,hl]
    intro i h2 h3
    have hi : i < n := by simpa [hlen] using h2
    have hE := hel i hi
    rw [hce,Nat.mul_one,List.getElem?_eq_getElem (by omega)] at hE
    have hx : (cs'.toList.drop i).take 1 = [cs'.toList[i]'(by omega)] := by
      rw [List.drop_eq_getElem_cons (by omega),List.take_succ_cons,List.take_zero]
    rw [hx] at hE
    have := litV_of he hE
    simp only [List.getElem_map,Function.comp]
    rw [this]
  have h7 := congrArg (List.filterMap id) key
  simpa [List.filterMap_map] using h7
theorem tabs_of {W : World} (h : laidMetH Tryd.prog Rows.printLinesRow.laid W) : Tabs Tryd.prog W := by
  rw [MakeChecks.laidMetH_plain _ _ _ (by kernel_rfl)] at h
  refine ⟨?_,?_,?_,?_⟩
  · exact var_of h (fun x => x.1 == "pedigree/print.hold") (d := Rows.laid_pedigree_print_hold) (by kernel_rfl) (g := 0) (t := 104) (by kernel_rfl) (by kernel_rfl) Tryd.underlying104 (.inl ⟨_, Tryd.underlying3⟩) (by kernel_rfl) (by kernel_rfl) rfl (cs := [.int .i64 4, .int .i64 3, .int .i64 1, .int .i64 1, .int .i64 2, .int .i64 2, .int .i64 2, .int .i64 1, .int .i64 4, .int .i64 4, .int .i64 4]) rfl
  · exact var_of h (fun x => x.1 == "pedigree/print.words") (d := Rows.laid_pedigree_print_words) (by kernel_rfl) (g := 1) (t := 105) (by kernel_rfl) (by kernel_rfl) Tryd.underlying105 (.inr Tryd.underlying9) (by kernel_rfl) (by kernel_rfl) rfl (cs := [.string ⟨#[]⟩, .string ⟨#[]⟩, .string ⟨#[]⟩, .string ⟨#[]⟩, .string ⟨#[]⟩, .string ⟨#[]⟩, .string ⟨#[]⟩, .string ⟨#[]⟩, .string ⟨#[108, 101, 110]⟩, .string ⟨#[99, 104, 97, 114, 115]⟩, .string ⟨#[98, 97, 99, 107]⟩]) rfl
  · exact var_of h (fun x => x.1 == "pedigree/print.signs") (d := Rows.laid_pedigree_print_signs) (by kernel_rfl) (g := 2) (t := 106) (by kernel_rfl) (by kernel_rfl) Tryd.underlying106 (.inr Tryd.underlying9) (by kernel_rfl) (by kernel_rfl) rfl (cs := [.string ⟨#[]⟩, .string ⟨#[]⟩, .string ⟨#[43]⟩, .string ⟨#[45]⟩, .string ⟨#[42]⟩, .string ⟨#[47]⟩, .string ⟨#[37]⟩, .string ⟨#[38]⟩]) rfl
  exact var_of h (fun x => x.1 == "internal/strconv.uint64pow10") (d := Rows.laid_internal_strconv_uint64pow10) (by kernel_rfl) (g := 6) (t := 177) (by kernel_rfl) (by kernel_rfl) Tryd.underlying177 (.inl ⟨_, Tryd.underlying165⟩) (by kernel_rfl) (by kernel_rfl) rfl (cs := Go.Lib.pow10Tab.map fun z => .int .u64 z) rfl
theorem rels_of {W : World} (h : laidMetH Tryd.prog Rows.printLinesRow.laid W) : RelT Tryd.prog W := by
  rw [MakeChecks.laidMetH_plain _ _ _ (by kernel_rfl)] at h
  exact var_of h (fun x => x.1 == "pedigree/print.rels") (d := Rows.laid_pedigree_print_rels) (by kernel_rfl) (g := 4) (t := 158) (by kernel_rfl) (by kernel_rfl) Tryd.underlying158 (.inr Tryd.underlying9) (by kernel_rfl) (by kernel_rfl) rfl (cs := [.string ⟨#[]⟩, .string ⟨#[61]⟩, .string ⟨#[33, 61]⟩, .string ⟨#[60]⟩, .string ⟨#[60, 61]⟩, .string ⟨#[62]⟩, .string ⟨#[62, 61]⟩]) rfl
theorem folds_of {W : World} (h : laidMetH Tryd.prog Rows.printLinesRow.laid W) : FoldT Tryd.prog W := by
  rw [MakeChecks.laidMetH_plain _ _ _ (by kernel_rfl)] at h
  exact var_of h (fun x => x.1 == "pedigree/print.folds") (d := Rows.laid_pedigree_print_folds) (by kernel_rfl) (g := 3) (t := 145) (by kernel_rfl) (by kernel_rfl) Tryd.underlying145 (.inr Tryd.underlying9) (by kernel_rfl) (by kernel_rfl) rfl (cs := [.string ⟨#[]⟩, .string ⟨#[]⟩, .string ⟨#[115, 117, 109]⟩, .string ⟨#[109, 105, 110]⟩, .string ⟨#[109, 97, 120]⟩]) rfl
theorem keywords_of {W : World} (h : laidMetH Tryd.prog Rows.printLinesRow.laid W) : KwT Tryd.prog W := by
  rw [MakeChecks.laidMetH_plain _ _ _ (by kernel_rfl)] at h
  exact var_of h (fun x => x.1 == "pedigree/lex.keywords") (d := Rows.laid_pedigree_lex_keywords) (by kernel_rfl) (g := 5) (t := 106) (by kernel_rfl) (by kernel_rfl) Tryd.underlying106 (.inr Tryd.underlying9) (by kernel_rfl) (by kernel_rfl) rfl (cs := kwC) rfl
theorem lifted (os : Os) (started : os.Started) (H : Type) (enc : TypeId × Value → H) :
    ReturnsInHanded {} Tryd.checked os 5 .any (fun w args => (Rows.printLinesSpec.pre enc Tryd.prog Tryd.f5 [] false w args ∧ laidMetH Tryd.prog Rows.printLinesRow.laid w) ∧ sizedMet enc Tryd.prog Tryd.f5 (OpenSpec.ofChange Rows.printLinesSpec) false w args)
      (Rows.printLinesSpec.post enc Tryd.prog Tryd.f5 false true false false) := by
  refine returnsInHanded_of_change_and (C := Tryd.checked) (X := fun w _ => laidMetH Tryd.prog Rows.printLinesRow.laid w) (fun _ _ _ hh h => h.of_heap hh) own_ started (by kernel_rfl) Tryd.func5
    (ChangeSpec.witness_shaped (enc := enc) (C := Tryd.checked) (os := os) (X := fun w _ => laidMetH Tryd.prog Rows.printLinesRow.laid w) false (World.laidAll Tryd.prog os Rows.printLinesRow.laid) #[.slice none 0 0,.slice none 0 0] 8 (World.laidAll_os _ _ _)
      (World.shaped_of_ZipB (by kernel_rfl) (by kernel_rfl)) (by kernel_rfl) (by kernel_rfl) (by kernel_rfl)
      (by rw [MakeChecks.laidMetH_plain _ _ _ (by kernel_rfl)]; exact laidMet_laidAll _ (by kernel_rfl) (by kernel_rfl))) ?_
  intro W base args ds gs before hval0 hW hc hS hL _
  have hval : ∀ (j : Nat) t v,Tryd.f5.params[j]? = some t → args[j]? = some v → Value.okWide Tryd.prog W .any base t v := hval0
  have hW' := hW
  have hlt := DataW.Whole.lt hW
  obtain ⟨p,q,hA0,hV,rfl,_,_⟩ := hW
  have hA : DataW.TrodAll enc Tryd.prog W 0 (fun _ => true) true Tryd.f5.params.toList args.toList ds p := hA0
  have hAk := hA
  rw [Tryd.params5] at hA hval
  obtain ⟨v0,v1,d0,d1,p0,p1,rfl,rfl,rfl,h0,h1⟩ := trodAll_two hA
  obtain ⟨rfl,rfl⟩ := trodVars_none hV
  have hS' : ((DataW.weightsEach Tryd.prog (Tryd.f5.params.toList ++ DataSpec.varTypes Tryd.prog Rows.printLinesSpec.plain) ([d0,d1] ++ [])).all fun x => decide (x ≤ reachBytes)) = true := hS
  rw [Tryd.params5] at hS'
  obtain ⟨a0,n0,c0,rfl⟩ := okWide_slice Tryd.underlying51 (hval 0 51 v0 rfl rfl)
  obtain ⟨fuel0,hf0⟩ := h0
  replace hf0 : DataW.trod enc Tryd.prog W 0 (fun _ => true) true fuel0 51 [.slice a0 n0 c0] = some (d0,p0) := hf0
  obtain ⟨e0,e0A,e0c,hc0,e0l,e0b,e0r⟩ := Go.Proofs.Dw.o_lU hf0 (fun k hk => by
    have := List.all_eq_true.1 hS' k (DataW.weights_mem_each (j := 0) (t := 51) (d := d0) rfl rfl k hk)
    simpa using this)
  cases hc0
  obtain ⟨a1,n1,c1,rfl⟩ := okWide_slice Tryd.underlying43 (hval 1 43 v1 rfl rfl)
  obtain ⟨fuel1,hf1⟩ := h1
  replace hf1 : DataW.trod enc Tryd.prog W 0 (fun _ => true) true fuel1 43 [.slice a1 n1 c1] = some (d1,p1) := hf1
  obtain ⟨e1,e1A,e1c,hc1,e1l,e1b,e1r⟩ := Go.Proofs.Dw.o_lF hf1 (fun k hk => by
    have := List.all_eq_true.1 hS' k (DataW.weights_mem_each (j := 1) (t := 43) (d := d1) rfl rfl k hk)
    simpa using this)
  cases hc1
  have h2 := DataW.TrodAll.respare (spare' := fun b => decide (b < W.heap.size)) kids_ full_ (by rw [Tryd.params5]; decide) hAk (fun x hx => by simpa using hlt x (by simpa using hx))
  refine Calls.mono (Go.Proofs.Dw.l_PrintLines e0 a0 c0 e1 a1 c1 W e0b e0r e1b e1r (tabs_of hL) (rels_of hL) (folds_of hL) (keywords_of hL)) ?_
  rintro en W' ⟨v,rfl,rfl,x⟩
  have hbl := Ext.below x
  refine ⟨_,rfl,_,_,_,[],p0 ++ p1,[],hW',?_,?_,rfl,hbl.frame _,fun h => by cases h⟩
  · exact trodAll_mk1 (shut_bool Tryd.underlying4 true)
  rw [Tryd.params5] at h2 ⊢
  obtain ⟨u0,u1,b0,b1,q0,q1,hu,hb,hq,⟨fuel2,hf2⟩,⟨fuel3,hf3⟩⟩ := trodAll_two h2
  simp only [List.cons.injEq,and_true] at hb
  obtain ⟨rfl,rfl⟩ := hb
  have hl_ : [.slice a0 e0.length c0,.slice a1 e1.length c1] = [u0,u1] := congrArg Array.toList hu
  obtain rfl := (List.cons.inj hl_).1
  obtain rfl := (List.cons.inj (List.cons.inj hl_).2).1
  rw [hq] at hlt ⊢
  exact trodAll_mk2 ⟨fuel2,DataW.trod_carry fuel2 _ _ _ hf2 (fun q hq => hbl.same (hlt q (by simp [hq])))⟩ ⟨fuel3,DataW.trod_carry fuel3 _ _ _ hf3 (fun q hq => hbl.same (hlt q (by simp [hq])))⟩
theorem f_holds : Rows.PrintLinesSaid :=
  OpenClaim.holds_of_wide 5 Tryd.f5 rfl rfl rfl rfl rfl rfl rfl ⟨rfl,rfl,rfl,rfl,rfl⟩ rfl rfl rfl rfl rfl (by kernel_rfl) Tryd.func5 (by kernel_rfl)
    (of_decide_eq_true (by kernel_rfl)) (by unfold Func.isWrapper; rw [if_neg (of_decide_eq_false (by kernel_rfl))]; exact ⟨rfl,rfl⟩)
    (fun os started H enc _ => lifted os started H enc)
end Go.Proofs.YtjjkfbjidpolmaaDoor

set_option maxRecDepth 100000
namespace Go.Proofs.YtjjkfbjidpolmaaDoor
open Go Go.Proofs
theorem printLines_card : Rows.PrintLinesCardSaid :=
  Claim7.holds_tied_plain_at .later [] [.data, .data, .data, .data, .data, .data, .data, .data, .data] true (true, "f9b163ee32c683b5f99a16a9ac894b2e9d31e0e6d403022d3a5450b1385501f6") true
    f_holds (fun _ h => by cases h) (by kernel_rfl) (fun _ h => by cases h) printLines_row_tie rfl ⟨rfl,rfl⟩ (by kernel_rfl) rfl
    (fun f fn hf hfn => by
      obtain rfl : f = 5 := Option.some.inj ((show Tryd.prog.funcNamed "pedigree/pedigreelaw06.PrintLines" = some 5 by kernel_rfl).symm.trans hf) |>.symm
      obtain rfl : fn = Tryd.f5 := (Option.some.inj (Tryd.func5.symm.trans hfn)).symm
      exact ⟨by kernel_rfl,fun j t ht => by
        rw [Tryd.params5] at ht
        have hm : t ∈ [51,43] := by simpa using Array.mem_of_getElem? ht
        have hall : ([51,43].all fun u => !Tryd.prog.wantsStandIn u) = true := by kernel_rfl
        exact (show Tryd.prog.wantsStandIn t = false by simpa using List.all_eq_true.1 hall t hm)⟩)
    (by kernel_rfl)
end Go.Proofs.YtjjkfbjidpolmaaDoor
