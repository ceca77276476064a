/- YtjjkfbjidpolmaaDoorUC: part of the proof of this seat, by an AI agent: walks of the functions that the law reaches; walks of the functions that the law reaches; walks of the functions that the law reaches. No condition of its own but those that its theorems state. -/
import Derived.Test.YtjjkfbjidpolmaaDoorUB
import Derived.Maps.Own
import Derived.Maps.Views
import Derived.Laws.RangeAny
import Derived.Lib.OthersKept
set_option maxHeartbeats 4000000
set_option linter.unusedVariables false
set_option linter.unusedSimpArgs false
namespace Go.Wk
open Go Go.RowKit Go.Lib
/-! ### copies with a mark behind each list, of any kind -/
structure TwOk {α : Type} (R : Nat → World → α → List Value → Prop) : Prop where
  mono : ∀ {lo lo' : Nat} {w : World} {x : α} {cs : List Value},R lo w x cs → lo' ≤ lo → R lo' w x cs
  keep : ∀ {lo : Nat} {w w' : World} {x : α} {cs : List Value} {S : Nat → Prop},R lo w x cs → Keep S w w' → (∀ i,S i → i < lo) → R lo w' x cs
structure TwG {α : Type} (R : Nat → World → α → List Value → Prop) (mk : List Value) (m lo : Nat) (w : World) (b : Nat) (l : List α) : Prop where
  above : lo ≤ b
  row : ∀ (j : Nat) (x : α),l[j]? = some x → ∃ cs,R lo w x cs ∧ ∀ (i : Nat) (u : Value),cs[i]? = some u → w.cell? ⟨b,0 + j * m + i,none⟩ = some u
  mark : ∀ (i : Nat) (u : Value),mk[i]? = some u → w.cell? ⟨b,0 + l.length * m + i,none⟩ = some u
section
variable {α : Type} {R : Nat → World → α → List Value → Prop} {mk : List Value} {m lo lo' b : Nat} {w w' : World} {l : List α}
theorem TwG.mono (ok : TwOk R) (h : TwG R mk m lo w b l) (hl : lo' ≤ lo) : TwG R mk m lo' w b l :=
  ⟨Nat.le_trans hl h.above,fun j x hx => by obtain ⟨c,h1,h2⟩ := h.row j x hx; exact ⟨c,ok.mono h1 hl,h2⟩,h.mark⟩
theorem TwG.keep (ok : TwOk R) {S : Nat → Prop} (h : TwG R mk m lo w b l) (k : Keep S w w') (hS : ∀ i,S i → i < lo) : TwG R mk m lo w' b l := by
  have hn : ¬ S b := fun hb => by have := hS b hb; have := h.above; omega
  exact ⟨h.above,fun j x hx => by obtain ⟨c,h1,h2⟩ := h.row j x hx; exact ⟨c,ok.keep h1 k hS,fun i u hu => k.cell (h2 i u hu) hn⟩,fun i u hu => k.cell (h.mark i u hu) hn⟩
theorem TwG.ext (ok : TwOk R) (h : TwG R mk m lo w b l) (k : Ext w w') : TwG R mk m lo w' b l := h.keep ok k (fun _ h => h.elim)
theorem TwG.rows {R0 : World → α → List Value → Prop} (h : TwG R mk m lo w b l) (hR : ∀ x cs,R lo w x cs → R0 w x cs) : Row R0 m w (some ⟨b,0,none⟩) l :=
  .inr ⟨b,0,rfl,fun j y hy => by obtain ⟨c,h1,h2⟩ := h.row j y hy; exact ⟨c,hR _ _ h1,h2⟩⟩
/-- What a block to be filled holds at a place. -/
def EG (R : Nat → World → α → List Value → Prop) (mk : List Value) (lo : Nat) (l : List α) (w : World) (j : Nat) (cs : List Value) : Prop := if j < l.length then ∀ x,l[j]? = some x → R lo w x cs else cs = mk
theorem EG.keep (ok : TwOk R) {j : Nat} {cs : List Value} {S : Nat → Prop} (h : EG R mk lo l w j cs) (k : Keep S w w') (hS : ∀ i,S i → i < lo) : EG R mk lo l w' j cs := by
  unfold EG at *
  split
  · rename_i hj; rw [if_pos hj] at h; exact fun x hx => ok.keep (h x hx) k hS
  · rename_i hj; rw [if_neg hj] at h; exact h
theorem EG.of {j : Nat} {x : α} {cs : List Value} (hx : l[j]? = some x) (h : R lo w x cs) : EG R mk lo l w j cs := by
  unfold EG
  rw [if_pos (List.getElem?_eq_some_iff.1 hx).1]
  intro y hy; rw [hx] at hy; cases hy; exact h
theorem EG.mark : EG R mk lo l w l.length mk := by unfold EG; rw [if_neg (Nat.lt_irrefl _)]
end
/-! ### the kinds -/
structure Ag where
  k : Int
  t : Tm
structure Ag.wf (x : Ag) : Prop where
  k : -128 ≤ x.k ∧ x.k ≤ 127
  t : x.t.wf
structure Ru where
  p : ByteArray
  head : List Ag
  body : List Lt
structure Ru.okc (x : Ru) (ch cb : Nat) : Prop where
  p : x.p.size ≤ 140737488351232
  hl : x.head.length ≤ ch
  hc : x.head.length * 56 ≤ 140737488351232
  bl : x.body.length ≤ cb
  bc : x.body.length * 216 ≤ 140737488351232
def Ag.none : Ag := ⟨0,Tm.none⟩
def agAt (l : List Ag) (j : Nat) : Ag := l.getD j Ag.none
theorem agAt_of {l : List Ag} {y : Ag} {j : Nat} (h : l[j]? = some y) : agAt l j = y := by simp [agAt,List.getD_eq_getElem?_getD,h]
theorem agAt_there {l : List Ag} {j : Nat} (h : j < l.length) : l[j]? = some (agAt l j) := by simp [agAt,List.getD_eq_getElem?_getD,h]
def Ex.zero : Ex := .mk 0 Tm.none []
def Lt.zero : Lt := ⟨0,⟨⟨#[]⟩,[]⟩,0,Ex.zero,Ex.zero⟩
def ltAt (l : List Lt) (j : Nat) : Lt := l.getD j Lt.zero
theorem ltAt_of {l : List Lt} {y : Lt} {j : Nat} (h : l[j]? = some y) : ltAt l j = y := by simp [ltAt,List.getD_eq_getElem?_getD,h]
theorem ltAt_there {l : List Lt} {j : Nat} (h : j < l.length) : l[j]? = some (ltAt l j) := by simp [ltAt,List.getD_eq_getElem?_getD,h]
def ruAt (l : List Ru) (j : Nat) : Ru := l.getD j ⟨⟨#[]⟩,[],[]⟩
theorem ruAt_of {l : List Ru} {y : Ru} {j : Nat} (h : l[j]? = some y) : ruAt l j = y := by simp [ruAt,List.getD_eq_getElem?_getD,h]
theorem ruAt_there {l : List Ru} {j : Nat} (h : j < l.length) : l[j]? = some (ruAt l j) := by simp [ruAt,List.getD_eq_getElem?_getD,h]
def tmCs (x : Tm) : List Value := [.string x.v,.int .i8 x.l.k,.int .i64 x.l.n,.string x.l.s]
def ltCs (x : Lt) (Aa A1 A2 : Option Addr) (ca c1 c2 : Nat) : List Value := [.int .i8 x.k,.string x.a.p,.slice Aa x.a.args.length ca,.int .i8 x.r,.int .i8 x.e1.op,.string x.e1.t.v,.int .i8 x.e1.t.l.k,.int .i64 x.e1.t.l.n,.string x.e1.t.l.s,.slice A1 x.e1.kids.length c1,.int .i8 x.e2.op,.string x.e2.t.v,.int .i8 x.e2.t.l.k,.int .i64 x.e2.t.l.n,.string x.e2.t.l.s,.slice A2 x.e2.kids.length c2]
def ruCs (x : Ru) (Ah Ab : Option Addr) (ch cb : Nat) : List Value := [.string x.p,.slice Ah x.head.length ch,.slice Ab x.body.length cb]
def RG (w : World) (x : Ag) (cs : List Value) : Prop := cs = [.int .i8 x.k,.string x.t.v,.int .i8 x.t.l.k,.int .i64 x.t.l.n,.string x.t.l.s] ∧ x.wf
def RL (w : World) (x : Lt) (cs : List Value) : Prop := ∃ Aa A1 A2 ca c1 c2,cs = ltCs x Aa A1 A2 ca c1 c2 ∧ x.okc ca c1 c2 ∧ Row RT 4 w Aa x.a.args ∧ Row RE 6 w A1 x.e1.kids ∧ Row RE 6 w A2 x.e2.kids
def RU (w : World) (x : Ru) (cs : List Value) : Prop := ∃ Ah Ab ch cb,cs = ruCs x Ah Ab ch cb ∧ x.okc ch cb ∧ Row RG 5 w Ah x.head ∧ Row RL 16 w Ab x.body
theorem Row.extG {w w' : World} {A : Option Addr} {xs : List Ag} (h : Row RG 5 w A xs) (k : Ext w w') : Row RG 5 w' A xs := h.ext k (fun _ _ k h => h)
theorem RL.ext {w w' : World} (k : Ext w w') {x : Lt} {cs : List Value} (h : RL w x cs) : RL w' x cs := by
  obtain ⟨Aa,A1,A2,ca,c1,c2,h1,h2,h3,h4,h5⟩ := h; exact ⟨Aa,A1,A2,ca,c1,c2,h1,h2,h3.extT k,h4.extE k,h5.extE k⟩
theorem Row.extL {w w' : World} {A : Option Addr} {xs : List Lt} (h : Row RL 16 w A xs) (k : Ext w w') : Row RL 16 w' A xs := h.ext k (fun _ _ k h => RL.ext k h)
theorem RU.ext {w w' : World} (k : Ext w w') {x : Ru} {cs : List Value} (h : RU w x cs) : RU w' x cs := by
  obtain ⟨Ah,Ab,ch,cb,h1,h2,h3,h4⟩ := h; exact ⟨Ah,Ab,ch,cb,h1,h2,h3.extG k,h4.extL k⟩
/-! ### their copies -/
def markT : List Value := [.string spareW,.int .i8 0,.int .i64 0,.string ⟨#[]⟩]
def markG : List Value := [.int .i8 0,.string spareW,.int .i8 0,.int .i64 0,.string ⟨#[]⟩]
def markL : List Value := [.int .i8 99,.string spareW,.slice none 0 0,.int .i8 0,.int .i8 0,.string ⟨#[]⟩,.int .i8 0,.int .i64 0,.string ⟨#[]⟩,.slice none 0 0,.int .i8 0,.string ⟨#[]⟩,.int .i8 0,.int .i64 0,.string ⟨#[]⟩,.slice none 0 0]
def markU : List Value := [.string spareW,.slice none 0 0,.slice none 0 0]
def QT (lo : Nat) (w : World) (x : Tm) (cs : List Value) : Prop := RT w x cs
def QG (lo : Nat) (w : World) (x : Ag) (cs : List Value) : Prop := RG w x cs
theorem okT : TwOk QT := ⟨fun h _ => h,fun h _ _ => h⟩
theorem okG : TwOk QG := ⟨fun h _ => h,fun h _ _ => h⟩
def QL (lo : Nat) (w : World) (x : Lt) (cs : List Value) : Prop := ∃ ba b1 b2,cs = ltCs x (some ⟨ba,0,none⟩) (some ⟨b1,0,none⟩) (some ⟨b2,0,none⟩) (x.a.args.length + 1) (x.e1.kids.length + 1) (x.e2.kids.length + 1) ∧ x.okc (x.a.args.length + 1) (x.e1.kids.length + 1) (x.e2.kids.length + 1) ∧ TwG QT markT 4 lo w ba x.a.args ∧ TwE lo w b1 x.e1.kids ∧ TwE lo w b2 x.e2.kids
theorem okL : TwOk QL := ⟨fun h hl => by
  obtain ⟨ba,b1,b2,h1,h2,h3,h4,h5⟩ := h; exact ⟨ba,b1,b2,h1,h2,h3.mono okT hl,h4.mono hl,h5.mono hl⟩,fun h k hS => by
  obtain ⟨ba,b1,b2,h1,h2,h3,h4,h5⟩ := h; exact ⟨ba,b1,b2,h1,h2,h3.keep okT k hS,h4.keep k hS,h5.keep k hS⟩⟩
def QU (lo : Nat) (w : World) (x : Ru) (cs : List Value) : Prop := ∃ bh bb,cs = ruCs x (some ⟨bh,0,none⟩) (some ⟨bb,0,none⟩) (x.head.length + 1) (x.body.length + 1) ∧ x.okc (x.head.length + 1) (x.body.length + 1) ∧ TwG QG markG 5 lo w bh x.head ∧ TwG QL markL 16 lo w bb x.body
theorem okU : TwOk QU := ⟨fun h hl => by
  obtain ⟨bh,bb,h1,h2,h3,h4⟩ := h; exact ⟨bh,bb,h1,h2,h3.mono okG hl,h4.mono okL hl⟩,fun h k hS => by
  obtain ⟨bh,bb,h1,h2,h3,h4⟩ := h; exact ⟨bh,bb,h1,h2,h3.keep okG k hS,h4.keep okL k hS⟩⟩
/-! ### a row of literals that a call builds -/
theorem Row.two {w : World} {g t : Nat} {fz : Nat × Nat} {x y : Lt} {Aa A1 A2 Ba B1 B2 : Option Addr} {ca c1 c2 da d1 d2 : Nat} (h : w.heap[g]? = some (.cells (ltCs x Aa A1 A2 ca c1 c2 ++ ltCs y Ba B1 B2 da d1 d2).toArray t fz))
    (hx : x.okc ca c1 c2) (xa : Row RT 4 w Aa x.a.args) (x1 : Row RE 6 w A1 x.e1.kids) (x2 : Row RE 6 w A2 x.e2.kids) (hy : y.okc da d1 d2) (ya : Row RT 4 w Ba y.a.args) (y1 : Row RE 6 w B1 y.e1.kids) (y2 : Row RE 6 w B2 y.e2.kids) : Row RL 16 w (some ⟨g,0,none⟩) [x,y] := by
  refine .inr ⟨g,0,rfl,fun j z hz => ?_⟩
  have hj : j < 2 := by have := (List.getElem?_eq_some_iff.1 hz).1; exact this
  have hj2 : j = 0 ∨ j = 1 := by omega
  rcases hj2 with rfl | rfl
  · have : z = x := by simpa using hz.symm
    subst this
    exact ⟨_,⟨Aa,A1,A2,ca,c1,c2,rfl,hx,xa,x1,x2⟩,blk_cells h 0 (cs := ltCs z Aa A1 A2 ca c1 c2) rfl⟩
  · have : z = y := by simpa using hz.symm
    subst this
    exact ⟨_,⟨Ba,B1,B2,da,d1,d2,rfl,hy,ya,y1,y2⟩,blk_cells h 16 (cs := ltCs z Ba B1 B2 da d1 d2) rfl⟩
end Go.Wk

set_option linter.unusedVariables false
set_option linter.unusedSimpArgs false
namespace Go.Wk
open Go
/-! ### a drawn region whose first operations come in any order, each with its own trace -/
/-- What is known of the operations that are done (L): what each gave, between which worlds. -/
structure Tr (G : Nat → Value → World → World → Prop) (dst : Nat → Nat) (m : Nat) (w0 : World) (env0 env : Nat → Value) (L : Nat → Prop) (B A : Nat → World) (w : World) : Prop where
  ext : Ext w0 w
  g : ∀ k,L k → G k (env (dst k)) (B k) (A k)
  x0 : ∀ k,L k → Ext w0 (B k)
  x1 : ∀ k,L k → Ext (B k) (A k)
  x2 : ∀ k,L k → Ext (A k) w
  ap : ∀ j k,L j → L k → j ≠ k → Ext (A j) (B k) ∨ Ext (A k) (B j)
  env : ∀ s,(∀ k,k < m → dst k ≠ s) → env s = env0 s
section
variable {P : Program} {ops : Array Oper} {Q : Exit → Act → World → Prop} {n : Nat} {ds : List Deferred} {w w0 : World} {G : Nat → Value → World → World → Prop} {dst : Nat → Nat} {m : Nat} {env0 env : Nat → Value} {B A : Nat → World}
theorem Tr.sub {L L' : Nat → Prop} (h : Tr G dst m w0 env0 env L B A w) (hs : ∀ k,L' k → L k) : Tr G dst m w0 env0 env L' B A w :=
  ⟨h.ext,fun k hk => h.g k (hs k hk),fun k hk => h.x0 k (hs k hk),fun k hk => h.x1 k (hs k hk),fun k hk => h.x2 k (hs k hk),fun j k hj hk => h.ap j k (hs j hj) (hs k hk),h.env⟩
def freeB (md : Region.Mode) (ops : Array Oper) (pre : Nat → List Nat) (m : Nat) : Nat → Array Bool → Bool
  | 0,listed => (List.range m).all (fun k => listed.getD k false) && Region.seqB md ops (ops.size - m) m listed
  | f + 1,listed => !(Region.ready md ops listed).isEmpty && (Region.ready md ops listed).all fun i => decide (i < m) && (pre i).all (fun j => listed.getD j false && decide (j < m)) && !listed.getD i true && freeB md ops pre m f (listed.setIfInBounds i true)
theorem getD_set {l : Array Bool} {i k : Nat} (hi : l.getD i true = false) : (l.setIfInBounds i true).getD k false = true ↔ k = i ∨ l.getD k false = true := by
  have hlt : i < l.size := by
    by_cases h : i < l.size
    · exact h
    · simp [Array.getD,h] at hi
  rw [Array.getD_eq_getD_getElem?,Array.getD_eq_getD_getElem?,Array.getElem?_setIfInBounds]
  by_cases h : i = k
  · subst h; simp [hlt]
  · simp [h,Ne.symm h]
theorem upd_eq {f : Nat → Value} {k : Nat} {v : Value} : upd f k v k = v := by simp [upd]
theorem upd_ne {f : Nat → Value} {k s : Nat} {v : Value} (h : s ≠ k) : upd f k v s = f s := by
  have hb : Nat.beq s k = false := by
    cases hb : Nat.beq s k with
    | false => rfl
    | true => exact absurd (Nat.eq_of_beq_eq_true hb) h
  show (bif Nat.beq s k then v else f s) = f s
  rw [hb]; rfl
theorem trace_go {wd : World} {pre : Nat → List Nat} (l : List Oper) (hl : l.toArray = ops) (hd : ∀ j,j < m → ∀ k,k < m → dst j = dst k → j = k)
    (step : ∀ k,k < m → ∀ (env : Nat → Value) (B A : Nat → World) (w1 : World),Tr G dst m wd env0 env (fun j => j ∈ pre k) B A w1 → ∃ o,ops[k]? = some o ∧ wpList P ops (onlyN fun a' w' => ∃ v,a' = mkA n (upd env (dst k) v) ds ∧ G k v w1 w' ∧ Ext w1 w') [o] (mkA n env ds) w1)
    (fin : ∀ (env : Nat → Value) (B A : Nat → World) (w1 : World),Tr G dst m wd env0 env (fun j => j < m) B A w1 → wpTailS P ops (fun _ => True) (Q .normal) (l.drop m) (mkA n env ds) w1) :
    ∀ (f : Nat) (listed : Array Bool) (env : Nat → Value) (B A : Nat → World) (w1 : World),freeB .any ops pre m f listed = true → Tr G dst m wd env0 env (fun j => listed.getD j false = true ∧ j < m) B A w1 → wpAnyH P .any ops (onlyN (Q .normal)) (fun _ => True) (f + (ops.size - m)) listed (mkA n env ds) w1
  | 0,listed,env,B,A,w1,hB,h => by
    simp only [freeB,Bool.and_eq_true,List.all_eq_true,List.mem_range] at hB
    have hdl : (l.drop m).length = ops.size - m := by rw [← hl]; simp
    rw [Nat.zero_add,← hdl]
    refine wpAnyH_seq (l.drop m) m listed _ _ (fun j => by rw [← hl]; simp [List.getElem?_drop]) (by rw [hdl]; exact hB.2) (fin env B A w1 (h.sub fun k hk => ⟨hB.1 k hk,hk⟩))
  | f + 1,listed,env,B,A,w1,hB,h => by
    simp only [freeB,Bool.and_eq_true,List.all_eq_true,Bool.not_eq_true',decide_eq_true_eq] at hB
    rw [show f + 1 + (ops.size - m) = (f + (ops.size - m)) + 1 by omega]
    refine wpAnyH_all (rs := Region.ready .any ops listed) rfl (by intro h0; rw [h0] at hB; simp at hB) fun i hi => ?_
    obtain ⟨⟨⟨him,hpre⟩,hnl⟩,hB'⟩ := hB.2 i hi
    obtain ⟨o,ho,hs⟩ := step i him env B A w1 (h.sub fun k hk => hpre k hk)
    have hni : ¬ (listed.getD i false = true) := by
      have hlt : i < listed.size := by
        by_cases h : i < listed.size
        · exact h
        · simp [Array.getD,h] at hnl
      simp only [Array.getD,hlt,dif_pos] at hnl ⊢
      rw [hnl]; simp
    refine wpOp_mono (fun a2 w2 h2 => ⟨trivial,?_⟩) (wpOp_tail (md := .any) ho hs)
    obtain ⟨v,rfl,hg,hx⟩ := h2
    refine trace_go l hl hd step fin f _ (upd env (dst i) v) (fun k => if k = i then w1 else B k) (fun k => if k = i then w2 else A k) w2 hB' ?_
    have old : ∀ k,((listed.setIfInBounds i true).getD k false = true ∧ k < m) → k ≠ i → listed.getD k false = true ∧ k < m := fun k hk hn => ⟨((getD_set hnl).1 hk.1).resolve_left hn,hk.2⟩
    refine ⟨Ext.trans h.ext hx,fun k hk => ?_,fun k hk => ?_,fun k hk => ?_,fun k hk => ?_,fun j k hj hk hjk => ?_,fun s hs => ?_⟩
    · by_cases e : k = i
      · subst e; simp only [if_true]; rw [upd_eq]; exact hg
      · have hne : dst k ≠ dst i := fun he => e (hd k hk.2 i him he)
        simp only [if_neg e]; rw [upd_ne hne]; exact h.g k (old k hk e)
    · by_cases e : k = i
      · simp only [if_pos e]; exact h.ext
      · simp only [if_neg e]; exact h.x0 k (old k hk e)
    · by_cases e : k = i
      · simp only [if_pos e]; exact hx
      · simp only [if_neg e]; exact h.x1 k (old k hk e)
    · by_cases e : k = i
      · simp only [if_pos e]; exact Ext.refl _
      · simp only [if_neg e]; exact Ext.trans (h.x2 k (old k hk e)) hx
    · by_cases e : k = i
      · by_cases e2 : j = i
        · exact absurd (e2.trans e.symm) hjk
        · simp only [if_pos e,if_neg e2]; exact .inl (h.x2 j (old j hj e2))
      · by_cases e2 : j = i
        · simp only [if_neg e,if_pos e2]; exact .inr (h.x2 k (old k hk e))
        · simp only [if_neg e,if_neg e2]; exact h.ap j k (old j hj e2) (old k hk e) hjk
    · have hne : s ≠ dst i := fun he => hs i him he.symm
      rw [upd_ne hne]; exact h.env s hs
def traceB (ops : Array Oper) (pre : Nat → List Nat) (m : Nat) : Bool := decide (m ≤ ops.size) && freeB .any ops pre m m (Array.replicate ops.size false)
theorem c_trace {id : Nat} {l : List Oper} (G : Nat → Value → World → World → Prop) (dst : Nat → Nat) (pre : Nat → List Nat) (m : Nat) (hm : P.follows .mixedOrders = true) (hB : traceB l.toArray pre m = true) (hd : ∀ j,j < m → ∀ k,k < m → dst j = dst k → j = k)
    (step : ∀ wd,Ext w wd → ∀ k,k < m → ∀ (env : Nat → Value) (B A : Nat → World) (w1 : World),Tr G dst m wd env0 env (fun j => j ∈ pre k) B A w1 → ∃ o,l.toArray[k]? = some o ∧ wpList P l.toArray (onlyN fun a' w' => ∃ v,a' = mkA n (upd env (dst k) v) ds ∧ G k v w1 w' ∧ Ext w1 w') [o] (mkA n env ds) w1)
    (fin : ∀ wd,Ext w wd → ∀ (env : Nat → Value) (B A : Nat → World) (w1 : World),Tr G dst m wd env0 env (fun j => j < m) B A w1 → wpTailS P l.toArray (fun _ => True) (Q .normal) (l.drop m) (mkA n env ds) w1) : (Code.region id l.toArray true).wp P Q (mkA n env0 ds) w := by
  simp only [traceB,Bool.and_eq_true,decide_eq_true_eq] at hB
  have hd0 : Ext w { w with drawn := w.drawn + 1 } := ⟨rfl,rfl,rfl,Nat.le_refl _,fun _ _ _ => rfl⟩
  refine wp_region_any hm (wpAny_onlyN _ _ _ _ (wpAny_of_held (S := fun _ => True) _ _ _ _ ?_))
  have e : l.toArray.size = m + (l.toArray.size - m) := by omega
  rw [e]
  refine trace_go l rfl hd (step _ hd0) (fin _ hd0) m _ env0 (fun _ => w) (fun _ => w) _ (by rw [← e]; exact hB.2) ?_
  have no : ∀ k,¬ ((Array.replicate (m + (l.toArray.size - m)) false).getD k false = true ∧ k < m) := fun k h => by
    have := h.1
    simp only [Array.getD,Array.getInternal,Array.getElem_replicate] at this
    split at this <;> simp at this
  exact ⟨Ext.refl _,fun k h => absurd h (no k),fun k h => absurd h (no k),fun k h => absurd h (no k),fun k h => absurd h (no k),fun j k _ h => absurd h (no k),fun s _ => rfl⟩
end
end Go.Wk

set_option linter.unusedVariables false
set_option linter.unusedSimpArgs false
set_option maxRecDepth 10000
namespace Go.Proofs.Dw
open Go Go.Wk Go.Proofs Go.Lib
attribute [local irreducible] Go.wpList Go.wpStill Go.wpQuiet Go.Code.wp Go.Calls
end Go.Proofs.Dw

set_option linter.unusedVariables false
set_option linter.unusedSimpArgs false
set_option maxRecDepth 10000
namespace Go.Proofs.Dw
open Go Go.Wk Go.Proofs Go.Lib
attribute [local irreducible] Go.wpList Go.wpStill Go.wpQuiet Go.Code.wp Go.Calls
theorem F_e86 : enterable Tryd.prog 86 = true := by kernel_rfl
theorem F_f42_1 : fieldAt Tryd.prog 42 1 1 = true := by kernel_rfl
theorem F_f42_2 : fieldAt Tryd.prog 42 2 2 = true := by kernel_rfl
theorem F_l39 : sliceT Tryd.prog 39 5 = true := by kernel_rfl
theorem F_l40 : sliceT Tryd.prog 40 16 = true := by kernel_rfl
theorem F_o39 : one Tryd.prog 39 = true := by kernel_rfl
theorem F_o40 : one Tryd.prog 40 = true := by kernel_rfl
theorem l_RuleParts (x : Ru) (Ah Ab : Option Addr) (ch cb : Nat) (L : Nat) (w : World) (ho : x.okc ch cb) (hrh : Row RG 5 w Ah x.head) (hrb : Row RL 16 w Ab x.body) (hL : L ≤ 1048576) :
    Rt Tryd.prog 57 #[.agg #[.string x.p,.slice Ah x.head.length ch,.slice Ab x.body.length cb],.int .i64 ((L : Nat) : Int)] w fun v w' => (∃ z : Nat,(1 ≤ z ∧ z ≤ L + 1 + x.head.length) ∧ v = .int .i64 ((z : Nat) : Int)) ∧ Ext w w' := by
  refine enter Tryd.func57 rfl (l := [.agg #[.string x.p,.slice Ah x.head.length ch,.slice Ab x.body.length cb],.int .i64 ((L : Nat) : Int)]) rfl Tryd.ntmps57 (Nat.le_of_ble_eq_true rfl) ?_
  have hpr_ := Ru.okc.p ho
  have hhl_ := Ru.okc.hl ho
  have hhc_ := Ru.okc.hc ho
  have hbl_ := Ru.okc.bl ho
  have hbc_ := Ru.okc.bc ho
  refine c_seq (c_reg (s_box (v := .agg #[.string x.p,.slice Ah x.head.length ch,.slice Ab x.body.length cb]) (cs := #[.string x.p,.slice Ah x.head.length ch,.slice Ab x.body.length cb]) (w0 rfl) (ej rfl rfl) rfl ?_))
  intro w2 g1 n3
  refine s_assign (v := .int .i64 0) ev_c (w0 rfl) (c_done (n_then (c_seq (c_reg (s_field (off := 1) (o' := 1) F_f42_1 (ej rfl rfl) rfl (w0 rfl) (s_load (v := .slice Ah x.head.length ch) F_o39 (ej rfl rfl) (cell_of_blk (i := 1) (NewB.blk n3) rfl) (w0 rfl) (s_lenL F_l39 (ej rfl rfl) (w0 rfl) (s_add (r := ((1 + x.head.length : Nat) : Int)) ev_c (ej rfl rfl) (by omega) (by omega) (w0 rfl) (s_assign (v := .int .i64 ((1 + x.head.length : Nat) : Int)) (ej rfl rfl) (w0 rfl) (c_done (n_then ?_)))))))))))
  refine c_seq (c_seq (c_reg (s_assign (v := .int .i64 0) ev_c (w0 rfl) (c_done (n_then (c_block (c_loop (α := Nat × Nat) (fun x_ env_ w_ => match x_ with | (i,nn) => Ext w2 w_ ∧ i ≤ x.body.length ∧ nn ≤ L + 1 + x.head.length ∧ 1 ≤ nn ∧ env_ 1 = .int .i64 ((L : Nat) : Int) ∧ env_ 2 = .pointer (some ⟨g1,0,none⟩) ∧ env_ 4 = .int .i64 0 ∧ env_ 5 = .int .i64 ((nn : Nat) : Int) ∧ env_ 6 = .int .i64 ((i : Nat) : Int)) (fun x_ => match x_ with | (i,nn) => x.body.length - i) (0,1 + x.head.length) ⟨Ext.refl _,Nat.zero_le _,(by omega),(by omega),rfl,rfl,rfl,rfl,rfl⟩ ?_)))))))
  rintro ⟨i,nn⟩ env6 w4 ⟨x5,i7,i8,i9,e10,e11,e12,e13,e14⟩
  refine c_seq (c_seq (c_reg (s_move (v := .int .i64 ((i : Nat) : Int)) (ej rfl e14) (w0 rfl) (s_field (off := 2) (o' := 2) F_f42_2 (ej rfl e11) rfl (w0 rfl) (s_load (v := .slice Ab x.body.length cb) F_o40 (ej rfl rfl) (cell_of_blk (i := 2) (Ext.blk x5 (NewB.blk n3)) rfl) (w0 rfl) (s_lenL F_l40 (ej rfl rfl) (w0 rfl) (s_cmp (r := decide (((i : Nat) : Int) < (x.body.length : Int))) (ej rfl rfl) (ej rfl rfl) rfl (w0 rfl) ?_)))))))
  by_cases h15 : ((i : Nat) : Int) < (x.body.length : Int)
  · refine s_move (v := .bool true) (vb (ej rfl rfl) (decide_eq_true h15)) (w0 rfl) (s_move (v := .int .i64 ((nn : Nat) : Int)) (ej rfl e13) (wy rfl rfl rfl rfl) (s_move (v := .int .i64 ((L : Nat) : Int)) (ej rfl e10) (wy rfl rfl rfl rfl) (s_cmp (r := decide (((nn : Nat) : Int) ≤ ((L : Nat) : Int))) (ej rfl rfl) (ej rfl rfl) rfl (wy rfl rfl rfl rfl) (s_pick1 (v := .bool (decide (((nn : Nat) : Int) ≤ ((L : Nat) : Int)))) (ej rfl rfl) (ej rfl rfl) (w0 rfl) (c_done (n_then ?_))))))
    by_cases h16 : ((nn : Nat) : Int) ≤ ((L : Nat) : Int)
    · refine c_cond1 (vb (ej rfl rfl) (decide_eq_true h16)) (c_skip (n_then (c_seq (c_block (c_reg (s_move (v := .int .i64 ((nn : Nat) : Int)) (ej rfl e13) (w0 rfl) (s_field (off := 2) (o' := 2) F_f42_2 (ej rfl e11) rfl (w0 rfl) (s_load (v := .slice Ab x.body.length cb) F_o40 (ej rfl rfl) (cell_of_blk (i := 2) (Ext.blk x5 (NewB.blk n3)) rfl) (w0 rfl) (s_move (v := .int .i64 ((i : Nat) : Int)) (ej rfl e14) (w0 rfl) ?_)))))))))
      obtain ⟨b17,o18,x19,csx19,hA20,hx21,hR22,hc23⟩ := Row.at_ hrb i (by omega)
      obtain rfl := ltAt_of hx21
      obtain ⟨Aa24,A25,A26,ca27,c28,c29,rfl,ho30,ra31,r32,r33⟩ := hR22
      have q34_a := Lt.okc.a ho30
      have q34_e1 := Lt.okc.e1 ho30
      have q34_e2 := Lt.okc.e2 ho30
      have := Ex.okc.l q34_e1
      have := Ex.okc.l q34_e2
      have := Ex.okc.c q34_e1
      have := Ex.okc.c q34_e2
      have := At.okc.l q34_a
      have := At.okc.c q34_a
      have := At.okc.p q34_a
      refine s_indexR (j := i) F_l40 (ej rfl rfl) hA20 (ej rfl rfl) rfl (by omega) (w0 rfl) (s_loadL (cs := [.int .i8 ((ltAt x.body i).k),.string ((ltAt x.body i).a.p),.slice Aa24 ((ltAt x.body i).a.args.length) ca27,.int .i8 ((ltAt x.body i).r),.int .i8 ((ltAt x.body i).e1.op),.string ((ltAt x.body i).e1.t.v),.int .i8 ((ltAt x.body i).e1.t.l.k),.int .i64 ((ltAt x.body i).e1.t.l.n),.string ((ltAt x.body i).e1.t.l.s),.slice A25 ((ltAt x.body i).e1.kids.length) c28,.int .i8 ((ltAt x.body i).e2.op),.string ((ltAt x.body i).e2.t.v),.int .i8 ((ltAt x.body i).e2.t.l.k),.int .i64 ((ltAt x.body i).e2.t.l.n),.string ((ltAt x.body i).e2.t.l.s),.slice A26 ((ltAt x.body i).e2.kids.length) c29]) F_m120 (ej rfl rfl) rfl rfl (sub_cells (cells_ext x5 (cells_ext (NewB.ext n3) hc23)) 0 rfl) (w0 rfl) (s_move (v := .int .i64 ((L : Nat) : Int)) (ej rfl e10) (w0 rfl) (s_move (v := .int .i64 ((nn : Nat) : Int)) (ej rfl e13) (w0 rfl) (s_sub (r := ((L - (nn) : Nat) : Int)) (ej rfl rfl) (ej rfl rfl) (by omega) (by omega) (w0 rfl) (s_call F_e86 (w0 rfl) ev_f (m2 (ej rfl rfl) (ej rfl rfl)) (args := #[.agg #[.int .i8 ((ltAt x.body i).k),.string ((ltAt x.body i).a.p),.slice Aa24 ((ltAt x.body i).a.args.length) ca27,.int .i8 ((ltAt x.body i).r),.int .i8 ((ltAt x.body i).e1.op),.string ((ltAt x.body i).e1.t.v),.int .i8 ((ltAt x.body i).e1.t.l.k),.int .i64 ((ltAt x.body i).e1.t.l.n),.string ((ltAt x.body i).e1.t.l.s),.slice A25 ((ltAt x.body i).e1.kids.length) c28,.int .i8 ((ltAt x.body i).e2.op),.string ((ltAt x.body i).e2.t.v),.int .i8 ((ltAt x.body i).e2.t.l.k),.int .i64 ((ltAt x.body i).e2.t.l.n),.string ((ltAt x.body i).e2.t.l.s),.slice A26 ((ltAt x.body i).e2.kids.length) c29],.int .i64 ((L - (nn) : Nat) : Int)]) rfl (l_literalParts (ltAt x.body i) Aa24 A25 A26 ca27 c28 c29 (L - (nn)) _ ho30 (Row.extT (Row.extT ra31 (NewB.ext n3)) x5) (Row.extE (Row.extE r32 (NewB.ext n3)) x5) (Row.extE (Row.extE r33 (NewB.ext n3)) x5) (by omega)) ?_)))))
      rintro _ w36 ⟨⟨z35,hz38,rfl⟩,x37⟩
      refine s_add (r := ((nn + z35 : Nat) : Int)) (ej rfl rfl) (ej rfl rfl) (by omega) (by omega) (w0 rfl) (s_assign (v := .int .i64 ((nn + z35 : Nat) : Int)) (ej rfl rfl) (w0 rfl) (c_done (n_block (n_then (c_reg (s_move (v := .int .i64 ((i : Nat) : Int)) (ej rfl e14) (w0 rfl) (s_add (r := ((i + 1 : Nat) : Int)) (ej rfl rfl) ev_c (by omega) (by omega) (w0 rfl) (s_assign (v := .int .i64 ((i + 1 : Nat) : Int)) (ej rfl rfl) (w0 rfl) (c_done ?_)))))))))
      exact ⟨(i + 1,nn + z35),_,rfl,⟨(Ext.trans x5 x37),by omega,by omega,by omega,e10,e11,e12,rfl,rfl⟩,(show x.body.length - (i + 1) < x.body.length - i by omega)⟩
    refine c_cond0 (vb (ej rfl rfl) (decide_eq_false h16)) (c_exit (e_then (e_then (e_hit (n_then (c_seq (c_reg (s_move (v := .int .i64 ((nn : Nat) : Int)) (ej rfl e13) (w0 rfl) (s_assign (v := .int .i64 ((nn : Nat) : Int)) (ej rfl rfl) (w0 rfl) (c_done (n_then ?_)))))))))))
    refine c_ret (ret1 (v := .int .i64 ((nn : Nat) : Int)) rfl rfl rfl ?_)
    exact ⟨_,rfl,⟨nn,by omega,rfl⟩,(Ext.trans (NewB.ext n3) x5)⟩
  refine s_move (v := .bool false) (vb (ej rfl rfl) (decide_eq_false h15)) (w0 rfl) (s_skip (wn rfl rfl rfl rfl rfl) (s_skip (wn rfl rfl rfl rfl rfl) (s_skip (wn rfl rfl rfl rfl rfl) (s_pick0 (v := .bool false) (ej rfl rfl) ev_c (w0 rfl) (c_done (n_then (c_cond0 (ej rfl rfl) (c_exit (e_then (e_then (e_hit ?_)))))))))))
  refine n_then (c_seq (c_reg (s_move (v := .int .i64 ((nn : Nat) : Int)) (ej rfl e13) (w0 rfl) (s_assign (v := .int .i64 ((nn : Nat) : Int)) (ej rfl rfl) (w0 rfl) (c_done (n_then (c_ret (ret1 (v := .int .i64 ((nn : Nat) : Int)) rfl rfl rfl ?_))))))))
  exact ⟨_,rfl,⟨nn,by omega,rfl⟩,(Ext.trans (NewB.ext n3) x5)⟩
end Go.Proofs.Dw

set_option linter.unusedVariables false
set_option linter.unusedSimpArgs false
set_option maxRecDepth 10000
namespace Go.Proofs.Dw
open Go Go.Wk Go.Proofs Go.Lib
attribute [local irreducible] Go.wpList Go.wpStill Go.wpQuiet Go.Code.wp Go.Calls
end Go.Proofs.Dw

set_option linter.unusedVariables false
set_option linter.unusedSimpArgs false
namespace Go.Wk
open Go Go.RowKit Go.Lib
/-! ### a relation of worlds: what is old, or not of a type, stays -/
def KT (B e : Nat) (w w' : World) : Prop := Keep (fun i => B ≤ i ∧ ∃ cs fz,w.heap[i]? = some (.cells cs e fz)) w w'
section
variable {B e : Nat} {w w' w2 wz : World}
theorem KT.refl : KT B e w w := Keep.refl _ _
theorem KT.size (h : KT B e w w') : w.heap.size ≤ w'.heap.size := Keep.size h
theorem KT.of_ext (h : Ext w w') : KT B e w w' := Keep.mono h (fun _ _ h => h.elim)
theorem KT.trans (h : KT B e w w') (k : KT B e w' w2) : KT B e w w2 := by
  classical
  refine Keep.then_ h k (fun i hi hs => ?_)
  obtain ⟨hB,cs,fz,hc⟩ := hs
  by_cases hS : ∃ cs fz,w.heap[i]? = some (.cells cs e fz)
  · exact ⟨hB,hS⟩
  · have := Keep.block h i hi (fun h => hS h.2)
    rw [this] at hc
    exact ⟨hB,_,_,hc⟩
theorem KT.ext (h : KT B e w w') (k : Ext w' w2) : KT B e w w2 := h.trans (.of_ext k)
theorem KT.blk {g t : Nat} {cs : Array Value} {fz : Nat × Nat} (k : KT B e w w') (h : w.heap[g]? = some (.cells cs t fz)) (ht : ¬ t = e) : w'.heap[g]? = some (.cells cs t fz) :=
  Keep.blk k h (fun hs => by obtain ⟨_,cs2,fz2,h2⟩ := hs; rw [h] at h2; injection h2 with h2; injection h2 with _ h2; exact ht h2)
end
/-! ### the terms of an expression, a literal, a rule -/
def exTs : Nat → Ex → List Tm
  | 0,_ => []
  | d + 1,x => x.t :: x.kids.flatMap (exTs d)
def exK (d : Nat) (x : Ex) (i : Nat) : List Tm := x.t :: (x.kids.take i).flatMap (exTs d)
theorem exK_zero (d : Nat) (x : Ex) : exK d x 0 = [x.t] := by simp [exK]
theorem exK_step {d i : Nat} {x : Ex} (h : i < x.kids.length) : exK d x (i + 1) = exK d x i ++ exTs d (x.kid i) := by
  have hk := kid_there (x := x) (j := i) h
  unfold exK
  rw [List.take_add_one,hk]
  simp
theorem exK_all (d : Nat) (x : Ex) {i : Nat} (h : x.kids.length ≤ i) : exK d x i = exTs (d + 1) x := by simp [exK,exTs,List.take_of_length_le h]
def smE : Nat → Ex → Prop
  | 0,_ => False
  | d + 1,x => x.kids.length ≤ 2 ∧ ∀ (j : Nat) (y : Ex),x.kids[j]? = some y → smE d y
theorem smE.kids {d : Nat} {x : Ex} (h : smE d x) (hd : d ≠ 0) : x.kids.length ≤ 2 := by
  obtain ⟨d',rfl⟩ := Nat.exists_eq_succ_of_ne_zero hd; exact h.1
theorem smE.pos {d : Nat} {x : Ex} (h : smE d x) : d ≠ 0 := fun h0 => by subst h0; exact h
theorem smE.kid {d j : Nat} {x y : Ex} (h : smE d x) (hy : x.kids[j]? = some y) : smE (d - 1) y := by
  obtain ⟨d',rfl⟩ := Nat.exists_eq_succ_of_ne_zero h.pos; exact h.2 j y hy
theorem exTs_len : ∀ (d : Nat) (x : Ex),smE d x → (exTs d x).length + 1 ≤ 2 ^ d
  | 0,_,h => h.elim
  | d + 1,x,h => by
    obtain ⟨h1,h2⟩ := h
    have key : ∀ (l : List Ex),l.length ≤ 2 → (∀ y,y ∈ l → smE d y) → (l.flatMap (exTs d)).length + l.length ≤ l.length * 2 ^ d := by
      intro l hl hy
      induction l with
      | nil => simp
      | cons a l ih =>
        have ha := exTs_len d a (hy a (by simp))
        have := ih (by simp at hl; omega) (fun y h => hy y (by simp [h]))
        simp only [List.flatMap_cons,List.length_append,List.length_cons,Nat.add_mul,Nat.one_mul]
        omega
    have := key x.kids h1 (fun y hy => by obtain ⟨j,hj,e⟩ := List.mem_iff_getElem.1 hy; exact h2 j y (by rw [List.getElem?_eq_getElem hj,e]))
    have h3 : x.kids.length * 2 ^ d ≤ 2 * 2 ^ d := Nat.mul_le_mul_right _ h1
    simp only [exTs,List.length_cons,Nat.pow_succ]
    have hp : 1 ≤ 2 ^ d := Nat.one_le_two_pow
    rcases Nat.lt_or_ge x.kids.length 1 with h0 | h0
    · have : x.kids = [] := by cases hk : x.kids with | nil => rfl | cons => rw [hk] at h0; simp at h0
      rw [this]; simp; omega
    · rcases Nat.lt_or_ge x.kids.length 2 with h4 | h4
      · have e1 : x.kids.length = 1 := by omega
        rw [e1] at this; omega
      · have e2 : x.kids.length = 2 := by omega
        rw [e2] at this; omega
theorem exB_sm : ∀ (d : Nat) (x : Ex),exB d x = true → smE d x
  | 0,x,h => by simp [exB] at h
  | d + 1,x,h => by
    have hp := exB_pos (d := d + 1) (x := x) (by omega)
    rw [hp] at h
    split at h
    · simp only [Bool.and_eq_true,decide_eq_true_eq] at h
      have h0 : x.kids.length = 0 := by have := h.1; omega
      refine ⟨by omega,fun j y hy => ?_⟩
      have := (List.getElem?_eq_some_iff.1 hy).1; omega
    · rename_i hop
      simp only [Bool.and_eq_true,decide_eq_true_eq] at h
      have hk : x.kids.length ≤ 2 := by
        have h1 := h.1.2
        have : kidsN x.op ≤ 2 := by unfold kidsN; (repeat' split) <;> omega
        omega
      refine ⟨hk,fun j y hy => exB_sm d y ?_⟩
      have := all_kid h.2 hy
      simpa using this
theorem noE_sm {x : Ex} (h : noE x = true) : smE 8 x := by
  simp only [noE,Bool.and_eq_true,decide_eq_true_eq] at h
  have h0 : x.kids.length = 0 := by have := h.2; omega
  refine ⟨by omega,fun j y hy => ?_⟩
  have := (List.getElem?_eq_some_iff.1 hy).1; omega
theorem lt_sm {x : Lt} (h : ltB x = true) : smE 8 x.e1 ∧ smE 8 x.e2 ∧ x.a.args.length ≤ 24 := by
  unfold ltB at h
  split at h
  · simp only [Bool.and_eq_true] at h
    exact ⟨noE_sm h.1.2,noE_sm h.2,(atB_parts h.1.1.1).2.2.1⟩
  · split at h
    · simp only [Bool.and_eq_true,decide_eq_true_eq] at h
      exact ⟨exB_sm 8 _ h.1.2,exB_sm 8 _ h.2,by have := h.1.1.1.1.2; omega⟩
    · cases h
def ltTs (x : Lt) : List Tm := x.a.args ++ exTs 8 x.e1 ++ exTs 8 x.e2
theorem ltTs_len {x : Lt} (h : ltB x = true) : (ltTs x).length ≤ 540 := by
  obtain ⟨h1,h2,h3⟩ := lt_sm h
  have := exTs_len 8 _ h1; have := exTs_len 8 _ h2
  simp only [ltTs,List.length_append]; omega
def ruTs (x : Ru) : List Tm := x.head.map (·.t) ++ x.body.flatMap ltTs
def ruK (x : Ru) (i : Nat) : List Tm := x.head.map (·.t) ++ (x.body.take i).flatMap ltTs
theorem ruK_step {x : Ru} {i : Nat} (h : i < x.body.length) : ruK x (i + 1) = ruK x i ++ ltTs (ltAt x.body i) := by
  unfold ruK; rw [List.take_add_one,ltAt_there h]; simp
theorem ruK_all {x : Ru} {i : Nat} (h : x.body.length ≤ i) : ruK x i = ruTs x := by simp [ruK,ruTs,List.take_of_length_le h]
theorem ruK_zero (x : Ru) : ruK x 0 = x.head.map (·.t) := by simp [ruK]
theorem ruK_len {x : Ru} (hb : ∀ (j : Nat) (y : Lt),x.body[j]? = some y → ltB y = true) : ∀ i,(ruK x i).length ≤ x.head.length + i * 540
  | 0 => by simp [ruK]
  | i + 1 => by
    have ih := ruK_len hb i
    by_cases h : i < x.body.length
    · rw [ruK_step h,List.length_append]
      have := ltTs_len (hb i _ (ltAt_there h))
      omega
    · have e1 : ruK x (i + 1) = ruK x i := by rw [ruK_all (by omega),ruK_all (by omega)]
      rw [e1]; clear e1; rw [Nat.add_mul]; exact Nat.le_trans ih (by omega)
/-! ### the names among terms, each once -/
def inL (v : ByteArray) (S : List ByteArray) : Bool := S.any (fun s => decide (s = v))
theorem inL_iff {v : ByteArray} {S : List ByteArray} : inL v S = true ↔ v ∈ S := by
  unfold inL
  rw [List.any_eq_true]
  exact ⟨fun ⟨x,hx,h⟩ => by have := of_decide_eq_true h; subst this; exact hx,fun h => ⟨v,h,by simp⟩⟩
def colT (S : List ByteArray) (v : ByteArray) : List ByteArray := if v = ⟨#[]⟩ ∨ v = ⟨#[95]⟩ ∨ inL v S = true then S else S ++ [v]
def colL (S : List ByteArray) (ts : List Tm) : List ByteArray := ts.foldl (fun S t => colT S t.v) S
theorem colL_app (S : List ByteArray) (a b : List Tm) : colL S (a ++ b) = colL (colL S a) b := by simp [colL,List.foldl_append]
theorem colT_len (S : List ByteArray) (v : ByteArray) : (colT S v).length ≤ S.length + 1 := by unfold colT; split <;> simp
theorem colL_len (S : List ByteArray) : ∀ (ts : List Tm),(colL S ts).length ≤ S.length + ts.length := by
  intro ts
  induction ts generalizing S with
  | nil => simp [colL]
  | cons t ts ih =>
    have := ih (colT S t.v); have := colT_len S t.v
    show (colL (colT S t.v) ts).length ≤ _
    simp only [List.length_cons]; omega
def rvL (x : Ru) : List ByteArray := colL [] (ruTs x)
/-! ### arguments and rules: may they be, their texts -/
def argB (x : Ag) : Bool :=
  if x.k = 0 then !decide (x.t.v = ⟨#[95]⟩) && tmB x.t
  else if x.k = 1 then zT x.t
  else if x.k = 2 ∨ x.k = 3 ∨ x.k = 4 then !decide (x.t.v = ⟨#[]⟩) && (!decide (x.t.v = ⟨#[95]⟩) && tmB x.t)
  else false
def ruB (x : Ru) : Bool := nameB x.p && decide ((x.head.length : Int) ≤ 24) && decide ((x.body.length : Int) ≤ 16) && x.head.all argB && x.body.all ltB && decide (((rvL x).length : Int) ≤ 24)
theorem ruB_parts {x : Ru} (h : ruB x = true) : nameB x.p = true ∧ x.p.size ≤ 120 ∧ x.head.length ≤ 24 ∧ x.body.length ≤ 16 ∧ (∀ i,i < x.head.length → argB (agAt x.head i) = true) ∧ ∀ i,i < x.body.length → ltB (ltAt x.body i) = true := by
  simp only [ruB,Bool.and_eq_true,decide_eq_true_eq] at h
  obtain ⟨⟨⟨⟨⟨h1,h2⟩,h3⟩,h4⟩,h5⟩,h6⟩ := h
  have h7 := h1
  simp only [nameB,Bool.and_eq_true] at h7
  exact ⟨h1,wordB_size h7.1,by omega,by omega,fun i hi => all_kid h4 (agAt_there hi),fun i hi => all_kid h5 (ltAt_there hi)⟩
def foldB (k : Int) : ByteArray := if k = 2 then ⟨#[115,117,109]⟩ else if k = 3 then ⟨#[109,105,110]⟩ else if k = 4 then ⟨#[109,97,120]⟩ else ⟨#[]⟩
def argW (x : Ag) : ByteArray := if x.k = 1 then ⟨#[99,111,117,110,116,40,41]⟩ else if x.k = 2 ∨ x.k = 3 ∨ x.k = 4 then foldB x.k ++ ⟨#[40]⟩ ++ x.t.v ++ ⟨#[41]⟩ else termW x.t
def ruP (l : List Lt) : Nat → ByteArray
  | 0 => ⟨#[]⟩
  | i + 1 => ruP l i ++ (if i = 0 then ⟨#[32,58,45,32]⟩ else ⟨#[44,32]⟩) ++ ltW (ltAt l i)
def ruW (x : Ru) : ByteArray := colW x.p (x.head.map argW) ++ ruP x.body x.body.length ++ ⟨#[46]⟩
end Go.Wk

set_option linter.unusedVariables false
set_option linter.unusedSimpArgs false
namespace Go.Wk
open Go Go.RowKit Go.Lib Go.Maps
/-! ### values of an interface type; maps -/
def ptrT (P : Program) (t : TypeId) : Bool := match P.underlying t,P.info? t with
  | some (.pointer _),some i => (match i.zero with
    | some (.pointer none) => true
    | _ => false)
  | _,_ => false
theorem ptrT_spec {P : Program} {t : TypeId} (h : ptrT P t = true) : ∃ e i,P.underlying t = some (.pointer e) ∧ P.info? t = some i ∧ i.zero = some (.pointer none) := by
  unfold ptrT at h
  split at h
  · rename_i e i hu hi
    split at h
    · rename_i hz; exact ⟨e,i,hu,hi,hz⟩
    · cases h
  · cases h
section
variable {P : Program} {ops : Array Oper} {Q : Exit → Act → World → Prop} {rest : List Oper} {n d t : Nat} {env : Nat → Value} {ds : List Deferred} {w w' : World} {v u : Value}
  {ty T T2 : TypeId} {pos : String} {af : Array Edge} {gd : Option (Nat × Bool)} {x y z : Operand}
theorem r_iface (hp : ptrT P T = true) (hx : (mkA n env ds).eval x = v) : (execOp (mkA n env ds).eval ⟨some d,.makeInterface T x,ty,pos,af,gd⟩).run P w = .ok (.value (.iface T v)) w := by
  obtain ⟨e,i,hu,_⟩ := ptrT_spec hp
  simp [execOp,hx,Instr.makeInterface,run_underlying hu]
theorem s_iface (hp : ptrT P T = true) (hx : (mkA n env ds).eval x = v) (hw : Region.wanted ⟨some d,.makeInterface T x,ty,pos,af,gd⟩ (yielded ops (mkA n env ds).tmps) = true)
    (k : wpList P ops Q rest (mkA n (upd env d (.iface T v)) ds) w) : wpList P ops Q (⟨some d,.makeInterface T x,ty,pos,af,gd⟩ :: rest) (mkA n env ds) w := s_val hw (r_iface hp hx) k
theorem r_is (hp : ptrT P T = true) (hx : (mkA n env ds).eval x = .iface T v) : (execOp (mkA n env ds).eval ⟨some d,.typeAssert x T2 T true,ty,pos,af,gd⟩).run P w = .ok (.value (.tuple #[v,.bool true])) w := by
  obtain ⟨e,i,hu,_⟩ := ptrT_spec hp
  simp [execOp,hx,Instr.typeAssert,run_underlying hu]
theorem s_is (hp : ptrT P T = true) (hx : (mkA n env ds).eval x = .iface T v) (hw : Region.wanted ⟨some d,.typeAssert x T2 T true,ty,pos,af,gd⟩ (yielded ops (mkA n env ds).tmps) = true)
    (k : wpList P ops Q rest (mkA n (upd env d (.tuple #[v,.bool true])) ds) w) : wpList P ops Q (⟨some d,.typeAssert x T2 T true,ty,pos,af,gd⟩ :: rest) (mkA n env ds) w := s_val hw (r_is hp hx) k
theorem r_isnt {T3 : TypeId} (hp : ptrT P T = true) (hx : (mkA n env ds).eval x = .iface T3 v) (hne : ¬ T3 = T) : (execOp (mkA n env ds).eval ⟨some d,.typeAssert x T2 T true,ty,pos,af,gd⟩).run P w = .ok (.value (.tuple #[.pointer none,.bool false])) w := by
  obtain ⟨e,i,hu,hi,hz⟩ := ptrT_spec hp
  simp [execOp,hx,Instr.typeAssert,run_underlying hu,hne,zeroValue,typeInfo,hi,hz]
theorem s_isnt {T3 : TypeId} (hp : ptrT P T = true) (hx : (mkA n env ds).eval x = .iface T3 v) (hne : ¬ T3 = T) (hw : Region.wanted ⟨some d,.typeAssert x T2 T true,ty,pos,af,gd⟩ (yielded ops (mkA n env ds).tmps) = true)
    (k : wpList P ops Q rest (mkA n (upd env d (.tuple #[.pointer none,.bool false])) ds) w) : wpList P ops Q (⟨some d,.typeAssert x T2 T true,ty,pos,af,gd⟩ :: rest) (mkA n env ds) w := s_val hw (r_isnt hp hx hne) k
theorem r_lookup {m k : Value} (hx : (mkA n env ds).eval x = m) (hy : (mkA n env ds).eval y = k) (hr : (Instr.lookup T m k false).run P w = .ok v w) : (execOp (mkA n env ds).eval ⟨some d,.lookup T x y false,ty,pos,af,gd⟩).run P w = .ok (.value v) w := by
  simp [execOp,hx,hy,hr,Result.andThen]
theorem s_makeMap (hw : Region.wanted ⟨some d,.makeMap T none,ty,pos,af,gd⟩ (yielded ops (mkA n env ds).tmps) = true)
    (kont : ∀ w' g,NewB w g (.map #[] 0) w' → wpList P ops Q rest (mkA n (upd env d (.map (some g))) ds) w') : wpList P ops Q (⟨some d,.makeMap T none,ty,pos,af,gd⟩ :: rest) (mkA n env ds) w := by
  refine s_val hw (w' := w.alloc (.map #[] 0)) (v := .map (some w.heap.size)) ?_ (kont _ _ (newB w _))
  simp only [execOp,Option.map_none,Sem.run_bind]
  rfl
end
/-! ### the map of names -/
def keyS (s : ByteArray) : Lit := .string s.data.toList
theorem keyS_inj {a b : ByteArray} (h : keyS a = keyS b) : a = b := by
  injection h with h
  cases a; cases b
  simpa using Array.toList_inj.1 h
def DSr : List ByteArray → DataW Unit
  | [] => .map []
  | s :: l => (DSr l).put (keyS s) (.lit (.int .i64 ((l.length + 1 : Nat) : Int)))
def DS (S : List ByteArray) : DataW Unit := DSr S.reverse
theorem DS_snoc (S : List ByteArray) (v : ByteArray) : DS (S ++ [v]) = (DS S).put (keyS v) (.lit (.int .i64 ((S.length + 1 : Nat) : Int))) := by
  simp [DS,DSr]
theorem DSr_map : ∀ l,IsMap (DSr l)
  | [] => isMap_empty
  | s :: l => (DSr_map l).put _ _
theorem DSr_at (v : ByteArray) : ∀ l : List ByteArray,∃ c : Int,(DSr l).atKey (keyS v) (.lit (.int .i64 0)) = .lit (.int .i64 c) ∧ (0 < c ↔ v ∈ l)
  | [] => ⟨0,rfl,by simp⟩
  | s :: l => by
    by_cases h : s = v
    · subst h
      exact ⟨((l.length + 1 : Nat) : Int),atKey_put_same (k := keyS s) (DSr_map l) (show WideAt.IsKeyLit (Lit.string _) from trivial) _ _,by simp⟩
    · obtain ⟨c,h1,h2⟩ := DSr_at v l
      refine ⟨c,?_,by rw [h2]; simp [Ne.symm h]⟩
      show ((DSr l).put _ _).atKey _ _ = _
      rw [atKey_put_other (fun e => h (keyS_inj e).symm)]
      exact h1
section
variable {P : Program} {t1 t2 ts ti : TypeId} {wz w w' : World} {gm gl : Nat} {S : List ByteArray}
theorem omap_keep {k : TypeId} {R : Value → Option (DataW Unit × List MemPlace)} {b n : Nat} {D : DataW Unit} {X : Nat → Prop} (h : w.ownsMap P k R b n D) (kp : Keep X w w') (hn : ¬ X b) : w'.ownsMap P k R b n D := by
  obtain ⟨es,clock,h1,h2⟩ := h
  exact ⟨es,clock,Keep.blk kp h1 hn,h2⟩
theorem omap_cells {k : TypeId} {R : Value → Option (DataW Unit × List MemPlace)} {b n : Nat} {D : DataW Unit} {cs : Array Value} {t : TypeId} {fz : Nat × Nat} (h : w.ownsMap P k R b n D) (hb : w.heap[b]? = some (.cells cs t fz)) : False := by
  obtain ⟨es,clock,h1,h2⟩ := h
  rw [hb] at h1; cases h1
theorem omap_own {k : TypeId} {R : Value → Option (DataW Unit × List MemPlace)} {b n : Nat} {D : DataW Unit} {B e m n2 : Nat} {v : Value} {xs : List Value} (h : w.ownsMap P k R b n D) (ho : w.ownsRow B e m v n2 xs) : ¬ some b = v.ownBlock := by
  intro hk
  rcases ho.2 with ⟨rfl,_⟩ | ⟨g',cap,cur,rfl,hb',hh,_⟩
  · simp [Value.ownBlock] at hk
  · have : b = g' := by simpa [Value.ownBlock] using hk
    subst this
    exact omap_cells h hh
structure MapOf (P : Program) (t2 ts ti : TypeId) : Prop where
  k : P.underlying ts = some .string
  m : P.underlying t2 = some (.map ts ti)
  i : P.underlying ti = some (.int .i64)
  z : (P.info? ti).map (·.zero) = some (some (.int .i64 0))
theorem MapOf.zero (h : MapOf P t2 ts ti) (w : World) : (zeroValue ti).run P w = .ok (.int .i64 0) w := by
  obtain ⟨i,hi,hz⟩ := Option.map_eq_some_iff.1 h.z
  simp [zeroValue,typeInfo,hi,hz]
theorem omap_look (M : MapOf P t2 ts ti) {mb n : Nat} (h : w.ownsMap P ts (plainElem P ti) mb n (DS S)) {v : ByteArray} (hs : v.size ≤ 140737488351232) :
    ∃ q : Int,(0 < q ↔ inL v S = true) ∧ (-9223372036854775808 ≤ q ∧ q ≤ 9223372036854775807) ∧ ∀ w',Ext w w' → (Instr.lookup t2 (.map (some mb)) (.string v) false).run P w' = .ok (.int .i64 q) w' := by
  obtain ⟨q,h1,h2⟩ := DSr_at v S.reverse
  have hkey : keyOf P ts (.string v) = some (keyS v) := WideMaps.keyOf_string_mk M.k (by unfold maxLen; omega)
  obtain ⟨c0,_,hat0,hwf⟩ := h.lookup_int (string_keyed M.k) M.m M.i (M.zero w) hkey
  have e0 : q = c0 := by
    have := hat0.symm.trans h1
    simpa using this.symm
  subst e0
  refine ⟨q,by rw [h2,List.mem_reverse,inL_iff],?_,fun w' x => ?_⟩
  · simp only [Lit.wf,Bool.and_eq_true,decide_eq_true_eq] at hwf; exact hwf
  · obtain ⟨c,hrun,hat,_⟩ := (omap_keep h x (fun h => h)).lookup_int (string_keyed M.k) M.m M.i (M.zero w') hkey
    have : q = c := by have := hat.symm.trans h1; simpa using this.symm
    subst this
    exact hrun
/-- The closure's state: the list of names and the map of names, both made since wz. -/
structure VS (P : Program) (t1 t2 ts ti : TypeId) (wz w : World) (gm gl : Nat) (S : List ByteArray) : Prop where
  ext : Ext wz w
  gl0 : wz.heap.size ≤ gl
  gm0 : wz.heap.size ≤ gm
  st : ∃ A c mb,w.heap[gl]? = some (.cells #[.slice A S.length c] t1 (0,0)) ∧ w.heap[gm]? = some (.cells #[.map (some mb)] t2 (0,0)) ∧ w.ownsRow wz.heap.size ts 1 (.slice A S.length c) S.length (S.map Value.string) ∧ w.ownsMap P ts (plainElem P ti) mb S.length (DS S) ∧ wz.heap.size ≤ mb
theorem VS.to (h : VS P t1 t2 ts ti wz w gm gl S) (x : Ext w w') : VS P t1 t2 ts ti wz w' gm gl S := by
  obtain ⟨A,c,mb,h1,h2,h3,h4,h5⟩ := h.st
  exact ⟨Ext.trans h.ext x,h.gl0,h.gm0,A,c,mb,Ext.blk x h1,Ext.blk x h2,own_ext x h3,omap_keep h4 x (fun h => h),h5⟩
theorem VS.cast {S' : List ByteArray} (h : VS P t1 t2 ts ti wz w gm gl S) (e : S = S') : VS P t1 t2 ts ti wz w gm gl S' := e ▸ h
theorem VS.next {w1 w2 w3 : World} {A A' : Option Addr} {c c' mb : Nat} {v : ByteArray} (x : Ext wz w) (gl0 : wz.heap.size ≤ gl) (gm0 : wz.heap.size ≤ gm) (hmb : wz.heap.size ≤ mb) (h1s : ¬ t1 = ts) (h2s : ¬ t2 = ts) (h12 : ¬ t2 = t1)
    (hgl : w.heap[gl]? = some (.cells #[.slice A S.length c] t1 (0,0))) (hgm : w.heap[gm]? = some (.cells #[.map (some mb)] t2 (0,0))) (ho : w.ownsRow wz.heap.size ts 1 (.slice A S.length c) S.length (S.map Value.string))
    (k1 : Keep (fun i => some i = (Value.slice A S.length c).ownBlock) w w1) (o1 : w1.ownsRow wz.heap.size ts 1 (.slice A' (S.length + 1) c') (S.length + 1) (S.map Value.string ++ [.string v]))
    (k2 : Wrote w1 gl (.cells #[.slice A' (S.length + 1) c'] t1 (0,0)) w2) (k3 : Keep (fun i => i = mb) w2 w3) (hm : w2.ownsMap P ts (plainElem P ti) mb S.length (DS S)) (hm3 : w3.ownsMap P ts (plainElem P ti) mb (S.length + 1) ((DS S).put (keyS v) (.lit (.int .i64 ((S.length + 1 : Nat) : Int))))) :
    VS P t1 t2 ts ti wz w3 gm gl (S ++ [v]) := by
  have g1 := Keep.blk k1 hgl (own_ne ho hgl (Ne.symm h1s))
  have m1 := Keep.blk k1 hgm (own_ne ho hgm (Ne.symm h2s))
  have m2 : w2.heap[gm]? = _ := Keep.blk k2.keep m1 (fun e => by subst e; rw [m1] at g1; injection g1 with g1; injection g1 with _ g1; exact h12 g1)
  have o2 := own_wrote o1 g1 (Ne.symm h1s) k2
  have nl : ¬ gl = mb := fun e => by subst e; exact omap_cells hm k2.blk
  have nm : ¬ gm = mb := fun e => by subst e; exact omap_cells hm m2
  have e1 : (S ++ [v]).length = S.length + 1 := by simp
  refine ⟨Keep.then_ (Keep.then_ (Keep.then_ x k1 (fun i hi h => by have := own_ge ho i h; omega)) k2.keep (fun i hi h => by omega)) k3 (fun i hi h => by omega),gl0,gm0,A',c',mb,?_,Keep.blk k3 m2 nm,?_,?_,hmb⟩
  · rw [e1]; exact Keep.blk k3 k2.blk nl
  · rw [e1,List.map_append]
    exact own_move o2 fun i hi => Keep.block k3 i (own_lt o2 i hi) (fun e => by subst e; exact omap_own hm o2 hi)
  · rw [e1,DS_snoc]; exact hm3
end
section
variable {P : Program} {ops : Array Oper} {Q : Exit → Act → World → Prop} {rest : List Oper} {n d t : Nat} {env : Nat → Value} {ds : List Deferred} {w w' : World} {v u : Value}
  {ty T T2 : TypeId} {pos : String} {af : Array Edge} {gd : Option (Nat × Bool)} {x y z : Operand} {t2 ts ti : TypeId}
theorem s_mapUpdate (M : MapOf P T ts ti) {mb n0 : Nat} {S : List ByteArray} {s : ByteArray} {q : Int} (hm : (mkA n env ds).eval x = .map (some mb)) (hk : (mkA n env ds).eval y = .string s) (hv : (mkA n env ds).eval z = .int .i64 q) (hown : w.ownsMap P ts (plainElem P ti) mb n0 (DS S)) (hn : n0 ≤ 1000000) (hs : s.size ≤ 140737488351232) (hq : -9223372036854775808 ≤ q ∧ q ≤ 9223372036854775807)
    (k : ∀ w',w'.ownsMap P ts (plainElem P ti) mb (n0 + 1) ((DS S).put (keyS s) (.lit (.int .i64 q))) → Keep (fun i => i = mb) w w' → wpList P ops Q rest (mkA n env ds) w') :
    wpList P ops Q (⟨none,.mapUpdate T x y z,ty,pos,af,none⟩ :: rest) (mkA n env ds) w := by
  refine wpList_mapUpdate_own w rfl x y z T rfl ts ti (string_keyed M.k) M.m (plainElem P ti) mb n0 (DS S) hm hown (by unfold maxLen; omega) _ _ (keyS s) hk hv (WideMaps.keyOf_string_mk M.k (by unfold maxLen; omega)) _ [] (plainElem_int M.i (by simp only [Lit.wf,Bool.and_eq_true,decide_eq_true_eq]; exact hq)) ?_
  intro w' h1 h2
  show wpList P ops Q rest ((mkA n env ds).put none _) w'
  rw [put_none]
  exact k w' h1 ⟨h2.os,h2.tape,h2.output,h2.size,fun i hi hn => h2.block i hi (fun e => hn (by injection e))⟩
end
end Go.Wk

set_option linter.unusedVariables false
set_option linter.unusedSimpArgs false
namespace Go.Wk
open Go Go.RowKit Go.Lib
/-! ### rows of terms and of names that the call makes -/
def tmsC (ts : List Tm) : List Value := ts.flatMap tmCs
def OT (e B : Nat) (w : World) (A : Option Addr) (c : Nat) (ts : List Tm) : Prop := w.ownsRow B e 4 (.slice A ts.length c) ts.length (tmsC ts)
def OS (e B : Nat) (w : World) (A : Option Addr) (c : Nat) (S : List ByteArray) : Prop := w.ownsRow B e 1 (.slice A S.length c) S.length (S.map Value.string)
section
variable {e B c : Nat} {w w' : World} {A : Option Addr} {ts : List Tm} {S : List ByteArray}
theorem OT.own (h : OT e B w A c ts) : w.ownsRow B e 4 (.slice A ts.length c) ts.length (tmsC ts) := h
theorem OS.own (h : OS e B w A c S) : w.ownsRow B e 1 (.slice A S.length c) S.length (S.map Value.string) := h
theorem OT.nil : OT e B w none 0 [] := own_nil _ _ _
theorem OS.nil : OS e B w none 0 [] := own_nil _ _ _
theorem OT.ext (h : OT e B w A c ts) (x : Ext w w') : OT e B w' A c ts := own_ext x h
theorem OS.ext (h : OS e B w A c S) (x : Ext w w') : OS e B w' A c S := own_ext x h
theorem OT.cast {ts' : List Tm} (h : OT e B w A c ts) (q : ts = ts') : OT e B w A c ts' := q ▸ h
theorem OS.cast {S' : List ByteArray} (h : OS e B w A c S) (q : S = S') : OS e B w A c S' := q ▸ h
theorem OT.snoc {y : Tm} (h : w.ownsRow B e 4 (.slice A (ts.length + 1) c) (ts.length + 1) (tmsC ts ++ [.string y.v,.int .i8 y.l.k,.int .i64 y.l.n,.string y.l.s])) : OT e B w A c (ts ++ [y]) := by
  unfold OT
  have e1 : (ts ++ [y]).length = ts.length + 1 := by simp
  have e2 : tmsC (ts ++ [y]) = tmsC ts ++ [.string y.v,.int .i8 y.l.k,.int .i64 y.l.n,.string y.l.s] := by simp [tmsC,tmCs]
  rw [e1,e2]; exact h
theorem OS.snoc {v : ByteArray} (h : w.ownsRow B e 1 (.slice A (S.length + 1) c) (S.length + 1) (S.map Value.string ++ [.string v])) : OS e B w A c (S ++ [v]) := by
  unfold OS
  have e1 : (S ++ [v]).length = S.length + 1 := by simp
  have e2 : (S ++ [v]).map Value.string = S.map Value.string ++ [.string v] := by simp
  rw [e1,e2]; exact h
theorem OS.row (h : OS e B w A c S) : Row RS 1 w A S := own_rowS h
theorem tmsC_at : ∀ (ts : List Tm) (j i : Nat) (y : Tm) (u : Value),ts[j]? = some y → (tmCs y)[i]? = some u → (tmsC ts)[j * 4 + i]? = some u
  | [],j,i,y,u,h,_ => by simp at h
  | t :: ts,0,i,y,u,h,hu => by
    have : t = y := by simpa using h
    subst this
    have hi : i < (tmCs t).length := (List.getElem?_eq_some_iff.1 hu).1
    simp only [tmsC,List.flatMap_cons,Nat.zero_mul,Nat.zero_add]
    rw [List.getElem?_append_left hi]; exact hu
  | t :: ts,j + 1,i,y,u,h,hu => by
    have h' : ts[j]? = some y := by simpa using h
    have := tmsC_at ts j i y u h' hu
    simp only [tmsC,List.flatMap_cons]
    have hl : (tmCs t).length = 4 := rfl
    rw [List.getElem?_append_right (by rw [hl]; omega),hl,show (j + 1) * 4 + i - 4 = j * 4 + i by omega]
    exact this
theorem OT.row (h : OT e B w A c ts) (hw : ∀ (j : Nat) (y : Tm),ts[j]? = some y → y.wf) : Row RT 4 w A ts := by
  by_cases h0 : ts = []
  · exact .inl h0
  · have hpos : 0 < ts.length := List.length_pos_iff.2 h0
    obtain ⟨b,hA,hc⟩ := own_cells h hpos
    refine .inr ⟨b,0,hA,fun j y hy => ⟨tmCs y,⟨rfl,hw j y hy⟩,fun i u hu => ?_⟩⟩
    rw [Nat.zero_add]
    exact hc _ _ (tmsC_at ts j i y u hy hu)
end
theorem exK_all' {d i : Nat} {x : Ex} (hd : d ≠ 0) (h : x.kids.length ≤ i) : exK (d - 1) x i = exTs d x := by
  obtain ⟨d',rfl⟩ := Nat.exists_eq_succ_of_ne_zero hd; exact exK_all d' x h
theorem exK_bound {d i : Nat} {x : Ex} (h : smE d x) (hi : i < x.kids.length) : (exK (d - 1) x i).length + 2 ^ (d - 1) ≤ 2 ^ d := by
  obtain ⟨d',rfl⟩ := Nat.exists_eq_succ_of_ne_zero h.pos
  have hk := h.1
  simp only [Nat.succ_eq_add_one,Nat.add_sub_cancel,Nat.pow_succ]
  have hi2 : i = 0 ∨ i = 1 := by omega
  rcases hi2 with rfl | rfl
  · rw [exK_zero]; have : 1 ≤ 2 ^ d' := Nat.one_le_two_pow; simp; omega
  · rw [exK_step (by omega),exK_zero]
    have := exTs_len d' (x.kid 0) (h.2 0 _ (kid_there (by omega)))
    simp; omega
theorem one_pow {d : Nat} : 1 ≤ 2 ^ d := Nat.one_le_two_pow
theorem hd_step {l : List Ag} {i : Nat} (h : i < l.length) : (l.take (i + 1)).map (·.t) = (l.take i).map (·.t) ++ [(agAt l i).t] := by
  rw [List.take_add_one,agAt_there h]; simp
theorem tkA {l : List Tm} {i : Nat} (h : i < l.length) : l.take i ++ [tmAt l i] = l.take (i + 1) := by
  rw [List.take_add_one,tmAt_there h]; simp
theorem omap_nil {P : Program} {k : TypeId} {R : Value → Option (DataW Unit × List MemPlace)} {b : Nat} {w : World} (h : w.heap[b]? = some (.map #[] 0)) : w.ownsMap P k R b 0 (DS []) := by
  obtain ⟨es,clock,h1,h2⟩ := World.ownsMap_made (H := Unit) w P k R
  have e1 := (newB w (.map #[] 0)).blk
  rw [e1] at h1
  cases h1
  exact ⟨_,_,h,h2⟩
end Go.Wk

set_option linter.unusedVariables false
set_option linter.unusedSimpArgs false
set_option maxRecDepth 10000
namespace Go.Proofs.Dw
open Go Go.Wk Go.Proofs Go.Lib
attribute [local irreducible] Go.wpList Go.wpStill Go.wpQuiet Go.Code.wp Go.Calls
theorem F_m64 : many Tryd.prog 64 5 = true := by kernel_rfl
end Go.Proofs.Dw

set_option linter.unusedVariables false
set_option linter.unusedSimpArgs false
set_option maxRecDepth 10000
namespace Go.Proofs.Dw
open Go Go.Wk Go.Proofs Go.Lib
attribute [local irreducible] Go.wpList Go.wpStill Go.wpQuiet Go.Code.wp Go.Calls
theorem F_f64_0 : fieldAt Tryd.prog 64 0 0 = true := by kernel_rfl
theorem F_f64_1 : fieldAt Tryd.prog 64 1 1 = true := by kernel_rfl
theorem F_o62 : one Tryd.prog 62 = true := by kernel_rfl
theorem t_argument (x : Ag) (w : World) (hx : x.wf) :
    Rt Tryd.prog 63 #[.agg #[.int .i8 x.k,.string x.t.v,.int .i8 x.t.l.k,.int .i64 x.t.l.n,.string x.t.l.s]] w fun v w' => v = .bool (argB x) ∧ Ext w w' := by
  refine enter Tryd.func63 rfl (l := [.agg #[.int .i8 x.k,.string x.t.v,.int .i8 x.t.l.k,.int .i64 x.t.l.n,.string x.t.l.s]]) rfl Tryd.ntmps63 (Nat.le_of_ble_eq_true rfl) ?_
  refine c_seq (c_reg (s_box (v := .agg #[.int .i8 x.k,.string x.t.v,.int .i8 x.t.l.k,.int .i64 x.t.l.n,.string x.t.l.s]) (cs := #[.int .i8 x.k,.string x.t.v,.int .i8 x.t.l.k,.int .i64 x.t.l.n,.string x.t.l.s]) (w0 rfl) (ej rfl rfl) rfl ?_))
  intro w2 g1 n3
  refine s_assign (v := .bool false) ev_c (w0 rfl) (c_done (n_then (c_seq (c_seq (c_reg (s_field (off := 0) (o' := 0) F_f64_0 (ej rfl rfl) rfl (w0 rfl) (s_load (v := .int .i8 x.k) F_o62 (ej rfl rfl) (cell_of_blk (i := 0) (NewB.blk n3) rfl) (w0 rfl) (c_done (n_then (c_block (c_seq ?_)))))))))))
  refine c_reg (s_cmp (r := decide (x.k = 0)) (ej rfl rfl) ev_c rfl (w0 rfl) (s_assign (v := .bool (decide (x.k = 0))) (ej rfl rfl) (w0 rfl) (c_done (n_then ?_))))
  by_cases h4 : x.k = 0
  · refine c_cond1 (vb (ej rfl rfl) (decide_eq_true h4)) (c_seq (c_reg (s_field (off := 1) (o' := 1) F_f64_1 (ej rfl rfl) rfl (w0 rfl) (s_loadL (cs := [.string x.t.v,.int .i8 x.t.l.k,.int .i64 x.t.l.n,.string x.t.l.s]) F_m28 (ej rfl rfl) rfl rfl (blk_cells (NewB.blk n3) 1 rfl) (w0 rfl) (s_call F_e77 (w0 rfl) ev_f (m1 (ej rfl rfl)) (args := #[.agg #[.string x.t.v,.int .i8 x.t.l.k,.int .i64 x.t.l.n,.string x.t.l.s]]) rfl (t_solid x.t _ (Ag.wf.t hx)) ?_)))))
    rintro _ w6 ⟨rfl,x5⟩
    refine s_assign (v := .bool (!decide (x.t.v = ⟨#[95]⟩) && tmB x.t)) (ej rfl rfl) (w0 rfl) (c_done (n_then (c_ret (r_block (r_then (ret1 (v := .bool (!decide (x.t.v = ⟨#[95]⟩) && tmB x.t)) rfl rfl rfl ?_))))))
    refine ⟨_,rfl,?_,(Ext.trans (NewB.ext n3) x5)⟩
    (refine congrArg Value.bool ?_; unfold argB; first | (rw [if_pos (by omega)]; ((try simp only [*,decide_true,decide_false,if_true,if_false,Bool.and_true,Bool.true_and,Bool.false_and,Bool.and_false,Bool.not_true,Bool.not_false,Bool.false_eq_true,reduceIte,not_true_eq_false,not_false_eq_true]); first | done | rfl); done) | (rw [if_neg (by omega),if_pos (by omega)]; ((try simp only [*,decide_true,decide_false,if_true,if_false,Bool.and_true,Bool.true_and,Bool.false_and,Bool.and_false,Bool.not_true,Bool.not_false,Bool.false_eq_true,reduceIte,not_true_eq_false,not_false_eq_true]); first | done | rfl); done) | (rw [if_neg (by omega),if_neg (by omega),if_pos (by omega)]; ((try simp only [*,decide_true,decide_false,if_true,if_false,Bool.and_true,Bool.true_and,Bool.false_and,Bool.and_false,Bool.not_true,Bool.not_false,Bool.false_eq_true,reduceIte,not_true_eq_false,not_false_eq_true]); first | done | rfl); done) | (rw [if_neg (by omega),if_neg (by omega),if_neg (by omega)]; done))
  refine c_cond0 (vb (ej rfl rfl) (decide_eq_false h4)) (c_seq (c_reg (s_cmp (r := decide (x.k = 1)) (ej rfl rfl) ev_c rfl (w0 rfl) (s_assign (v := .bool (decide (x.k = 1))) (ej rfl rfl) (w0 rfl) (c_done (n_then ?_))))))
  by_cases h7 : x.k = 1
  · refine c_cond1 (vb (ej rfl rfl) (decide_eq_true h7)) (c_seq (c_reg (s_field (off := 1) (o' := 1) F_f64_1 (ej rfl rfl) rfl (w0 rfl) (s_loadL (cs := [.string x.t.v,.int .i8 x.t.l.k,.int .i64 x.t.l.n,.string x.t.l.s]) F_m28 (ej rfl rfl) rfl rfl (blk_cells (NewB.blk n3) 1 rfl) (w0 rfl) (s_call F_e78 (w0 rfl) ev_f (m1 (ej rfl rfl)) (args := #[.agg #[.string x.t.v,.int .i8 x.t.l.k,.int .i64 x.t.l.n,.string x.t.l.s]]) rfl (t_none x.t _) ?_)))))
    rintro _ w9 ⟨rfl,x8⟩
    refine s_assign (v := .bool (zT x.t)) (ej rfl rfl) (w0 rfl) (c_done (n_then (c_ret (r_block (r_then (ret1 (v := .bool (zT x.t)) rfl rfl rfl ?_))))))
    refine ⟨_,rfl,?_,(Ext.trans (NewB.ext n3) x8)⟩
    (refine congrArg Value.bool ?_; unfold argB; first | (rw [if_pos (by omega)]; ((try simp only [*,decide_true,decide_false,if_true,if_false,Bool.and_true,Bool.true_and,Bool.false_and,Bool.and_false,Bool.not_true,Bool.not_false,Bool.false_eq_true,reduceIte,not_true_eq_false,not_false_eq_true]); first | done | rfl); done) | (rw [if_neg (by omega),if_pos (by omega)]; ((try simp only [*,decide_true,decide_false,if_true,if_false,Bool.and_true,Bool.true_and,Bool.false_and,Bool.and_false,Bool.not_true,Bool.not_false,Bool.false_eq_true,reduceIte,not_true_eq_false,not_false_eq_true]); first | done | rfl); done) | (rw [if_neg (by omega),if_neg (by omega),if_pos (by omega)]; ((try simp only [*,decide_true,decide_false,if_true,if_false,Bool.and_true,Bool.true_and,Bool.false_and,Bool.and_false,Bool.not_true,Bool.not_false,Bool.false_eq_true,reduceIte,not_true_eq_false,not_false_eq_true]); first | done | rfl); done) | (rw [if_neg (by omega),if_neg (by omega),if_neg (by omega)]; done))
  refine c_cond0 (vb (ej rfl rfl) (decide_eq_false h7)) (c_seq (c_seq (c_reg (s_cmp (r := decide (x.k = 2)) (ej rfl rfl) ev_c rfl (w0 rfl) (s_assign (v := .bool (decide (x.k = 2))) (ej rfl rfl) (w0 rfl) (c_done (n_then ?_)))))))
  by_cases h10 : x.k = 2
  · refine c_cond1 (vb (ej rfl rfl) (decide_eq_true h10)) (c_skip (n_then (c_cond1 (vb (ej rfl rfl) (decide_eq_true h10)) (c_seq (c_reg (s_field (off := 1) (o' := 1) F_f64_1 (ej rfl rfl) rfl (w0 rfl) (s_field (off := 0) (o' := 1) F_f28_0 (ej rfl rfl) rfl (w0 rfl) (s_load (v := .string x.t.v) F_o9 (ej rfl rfl) (cell_of_blk (i := 1) (NewB.blk n3) rfl) (w0 rfl) (s_cmpS (r := !decide (x.t.v = (⟨#[]⟩ : ByteArray))) (ej rfl rfl) ev_c rfl (w0 rfl) ?_)))))))))
    by_cases h11 : x.t.v = (⟨#[]⟩ : ByteArray)
    · refine s_move (v := .bool false) (vb (ej rfl rfl) (nb0 h11)) (w0 rfl) (s_skip (wn rfl rfl rfl rfl rfl) (s_skip (wn rfl rfl rfl rfl rfl) (s_skip (wn rfl rfl rfl rfl rfl) (s_pick0 (v := .bool false) (ej rfl rfl) ev_c (w0 rfl) (s_assign (v := .bool false) (ej rfl rfl) (w0 rfl) (c_done (n_then (c_ret (r_block (r_then (ret1 (v := .bool false) rfl rfl rfl ?_)))))))))))
      refine ⟨_,rfl,?_,(NewB.ext n3)⟩
      (refine congrArg Value.bool ?_; unfold argB; first | (rw [if_pos (by omega)]; ((try simp only [*,decide_true,decide_false,if_true,if_false,Bool.and_true,Bool.true_and,Bool.false_and,Bool.and_false,Bool.not_true,Bool.not_false,Bool.false_eq_true,reduceIte,not_true_eq_false,not_false_eq_true]); first | done | rfl); done) | (rw [if_neg (by omega),if_pos (by omega)]; ((try simp only [*,decide_true,decide_false,if_true,if_false,Bool.and_true,Bool.true_and,Bool.false_and,Bool.and_false,Bool.not_true,Bool.not_false,Bool.false_eq_true,reduceIte,not_true_eq_false,not_false_eq_true]); first | done | rfl); done) | (rw [if_neg (by omega),if_neg (by omega),if_pos (by omega)]; ((try simp only [*,decide_true,decide_false,if_true,if_false,Bool.and_true,Bool.true_and,Bool.false_and,Bool.and_false,Bool.not_true,Bool.not_false,Bool.false_eq_true,reduceIte,not_true_eq_false,not_false_eq_true]); first | done | rfl); done) | (rw [if_neg (by omega),if_neg (by omega),if_neg (by omega)]; done))
    refine s_move (v := .bool true) (vb (ej rfl rfl) (nb1 h11)) (w0 rfl) (s_field (off := 1) (o' := 1) F_f64_1 (ej rfl rfl) rfl (wy rfl rfl rfl rfl) (s_loadL (cs := [.string x.t.v,.int .i8 x.t.l.k,.int .i64 x.t.l.n,.string x.t.l.s]) F_m28 (ej rfl rfl) rfl rfl (blk_cells (NewB.blk n3) 1 rfl) (wy rfl rfl rfl rfl) (s_call F_e77 (wy rfl rfl rfl rfl) ev_f (m1 (ej rfl rfl)) (args := #[.agg #[.string x.t.v,.int .i8 x.t.l.k,.int .i64 x.t.l.n,.string x.t.l.s]]) rfl (t_solid x.t _ (Ag.wf.t hx)) ?_)))
    rintro _ w13 ⟨rfl,x12⟩
    refine s_pick1 (v := .bool (!decide (x.t.v = ⟨#[95]⟩) && tmB x.t)) (ej rfl rfl) (ej rfl rfl) (w0 rfl) (s_assign (v := .bool (!decide (x.t.v = ⟨#[95]⟩) && tmB x.t)) (ej rfl rfl) (w0 rfl) (c_done (n_then (c_ret (r_block (r_then (ret1 (v := .bool (!decide (x.t.v = ⟨#[95]⟩) && tmB x.t)) rfl rfl rfl ?_)))))))
    refine ⟨_,rfl,?_,(Ext.trans (NewB.ext n3) x12)⟩
    (refine congrArg Value.bool ?_; unfold argB; first | (rw [if_pos (by omega)]; ((try simp only [*,decide_true,decide_false,if_true,if_false,Bool.and_true,Bool.true_and,Bool.false_and,Bool.and_false,Bool.not_true,Bool.not_false,Bool.false_eq_true,reduceIte,not_true_eq_false,not_false_eq_true]); first | done | rfl); done) | (rw [if_neg (by omega),if_pos (by omega)]; ((try simp only [*,decide_true,decide_false,if_true,if_false,Bool.and_true,Bool.true_and,Bool.false_and,Bool.and_false,Bool.not_true,Bool.not_false,Bool.false_eq_true,reduceIte,not_true_eq_false,not_false_eq_true]); first | done | rfl); done) | (rw [if_neg (by omega),if_neg (by omega),if_pos (by omega)]; ((try simp only [*,decide_true,decide_false,if_true,if_false,Bool.and_true,Bool.true_and,Bool.false_and,Bool.and_false,Bool.not_true,Bool.not_false,Bool.false_eq_true,reduceIte,not_true_eq_false,not_false_eq_true]); first | done | rfl); done) | (rw [if_neg (by omega),if_neg (by omega),if_neg (by omega)]; done))
  refine c_cond0 (vb (ej rfl rfl) (decide_eq_false h10)) (c_seq (c_reg (s_cmp (r := decide (x.k = 3)) (ej rfl rfl) ev_c rfl (w0 rfl) (s_assign (v := .bool (decide (x.k = 3))) (ej rfl rfl) (w0 rfl) (c_done (n_then ?_))))))
  by_cases h14 : x.k = 3
  · refine c_cond1 (vb (ej rfl rfl) (decide_eq_true h14)) (c_skip (n_then (c_cond1 (vb (ej rfl rfl) (decide_eq_true h14)) (c_seq (c_reg (s_field (off := 1) (o' := 1) F_f64_1 (ej rfl rfl) rfl (w0 rfl) (s_field (off := 0) (o' := 1) F_f28_0 (ej rfl rfl) rfl (w0 rfl) (s_load (v := .string x.t.v) F_o9 (ej rfl rfl) (cell_of_blk (i := 1) (NewB.blk n3) rfl) (w0 rfl) (s_cmpS (r := !decide (x.t.v = (⟨#[]⟩ : ByteArray))) (ej rfl rfl) ev_c rfl (w0 rfl) ?_)))))))))
    by_cases h15 : x.t.v = (⟨#[]⟩ : ByteArray)
    · refine s_move (v := .bool false) (vb (ej rfl rfl) (nb0 h15)) (w0 rfl) (s_skip (wn rfl rfl rfl rfl rfl) (s_skip (wn rfl rfl rfl rfl rfl) (s_skip (wn rfl rfl rfl rfl rfl) (s_pick0 (v := .bool false) (ej rfl rfl) ev_c (w0 rfl) (s_assign (v := .bool false) (ej rfl rfl) (w0 rfl) (c_done (n_then (c_ret (r_block (r_then (ret1 (v := .bool false) rfl rfl rfl ?_)))))))))))
      refine ⟨_,rfl,?_,(NewB.ext n3)⟩
      (refine congrArg Value.bool ?_; unfold argB; first | (rw [if_pos (by omega)]; ((try simp only [*,decide_true,decide_false,if_true,if_false,Bool.and_true,Bool.true_and,Bool.false_and,Bool.and_false,Bool.not_true,Bool.not_false,Bool.false_eq_true,reduceIte,not_true_eq_false,not_false_eq_true]); first | done | rfl); done) | (rw [if_neg (by omega),if_pos (by omega)]; ((try simp only [*,decide_true,decide_false,if_true,if_false,Bool.and_true,Bool.true_and,Bool.false_and,Bool.and_false,Bool.not_true,Bool.not_false,Bool.false_eq_true,reduceIte,not_true_eq_false,not_false_eq_true]); first | done | rfl); done) | (rw [if_neg (by omega),if_neg (by omega),if_pos (by omega)]; ((try simp only [*,decide_true,decide_false,if_true,if_false,Bool.and_true,Bool.true_and,Bool.false_and,Bool.and_false,Bool.not_true,Bool.not_false,Bool.false_eq_true,reduceIte,not_true_eq_false,not_false_eq_true]); first | done | rfl); done) | (rw [if_neg (by omega),if_neg (by omega),if_neg (by omega)]; done))
    refine s_move (v := .bool true) (vb (ej rfl rfl) (nb1 h15)) (w0 rfl) (s_field (off := 1) (o' := 1) F_f64_1 (ej rfl rfl) rfl (wy rfl rfl rfl rfl) (s_loadL (cs := [.string x.t.v,.int .i8 x.t.l.k,.int .i64 x.t.l.n,.string x.t.l.s]) F_m28 (ej rfl rfl) rfl rfl (blk_cells (NewB.blk n3) 1 rfl) (wy rfl rfl rfl rfl) (s_call F_e77 (wy rfl rfl rfl rfl) ev_f (m1 (ej rfl rfl)) (args := #[.agg #[.string x.t.v,.int .i8 x.t.l.k,.int .i64 x.t.l.n,.string x.t.l.s]]) rfl (t_solid x.t _ (Ag.wf.t hx)) ?_)))
    rintro _ w17 ⟨rfl,x16⟩
    refine s_pick1 (v := .bool (!decide (x.t.v = ⟨#[95]⟩) && tmB x.t)) (ej rfl rfl) (ej rfl rfl) (w0 rfl) (s_assign (v := .bool (!decide (x.t.v = ⟨#[95]⟩) && tmB x.t)) (ej rfl rfl) (w0 rfl) (c_done (n_then (c_ret (r_block (r_then (ret1 (v := .bool (!decide (x.t.v = ⟨#[95]⟩) && tmB x.t)) rfl rfl rfl ?_)))))))
    refine ⟨_,rfl,?_,(Ext.trans (NewB.ext n3) x16)⟩
    (refine congrArg Value.bool ?_; unfold argB; first | (rw [if_pos (by omega)]; ((try simp only [*,decide_true,decide_false,if_true,if_false,Bool.and_true,Bool.true_and,Bool.false_and,Bool.and_false,Bool.not_true,Bool.not_false,Bool.false_eq_true,reduceIte,not_true_eq_false,not_false_eq_true]); first | done | rfl); done) | (rw [if_neg (by omega),if_pos (by omega)]; ((try simp only [*,decide_true,decide_false,if_true,if_false,Bool.and_true,Bool.true_and,Bool.false_and,Bool.and_false,Bool.not_true,Bool.not_false,Bool.false_eq_true,reduceIte,not_true_eq_false,not_false_eq_true]); first | done | rfl); done) | (rw [if_neg (by omega),if_neg (by omega),if_pos (by omega)]; ((try simp only [*,decide_true,decide_false,if_true,if_false,Bool.and_true,Bool.true_and,Bool.false_and,Bool.and_false,Bool.not_true,Bool.not_false,Bool.false_eq_true,reduceIte,not_true_eq_false,not_false_eq_true]); first | done | rfl); done) | (rw [if_neg (by omega),if_neg (by omega),if_neg (by omega)]; done))
  refine c_cond0 (vb (ej rfl rfl) (decide_eq_false h14)) (c_reg (s_cmp (r := decide (x.k = 4)) (ej rfl rfl) ev_c rfl (w0 rfl) (s_assign (v := .bool (decide (x.k = 4))) (ej rfl rfl) (w0 rfl) (c_done (n_then ?_)))))
  by_cases h18 : x.k = 4
  · refine c_cond1 (vb (ej rfl rfl) (decide_eq_true h18)) (c_seq (c_reg (s_field (off := 1) (o' := 1) F_f64_1 (ej rfl rfl) rfl (w0 rfl) (s_field (off := 0) (o' := 1) F_f28_0 (ej rfl rfl) rfl (w0 rfl) (s_load (v := .string x.t.v) F_o9 (ej rfl rfl) (cell_of_blk (i := 1) (NewB.blk n3) rfl) (w0 rfl) (s_cmpS (r := !decide (x.t.v = (⟨#[]⟩ : ByteArray))) (ej rfl rfl) ev_c rfl (w0 rfl) ?_))))))
    by_cases h19 : x.t.v = (⟨#[]⟩ : ByteArray)
    · refine s_move (v := .bool false) (vb (ej rfl rfl) (nb0 h19)) (w0 rfl) (s_skip (wn rfl rfl rfl rfl rfl) (s_skip (wn rfl rfl rfl rfl rfl) (s_skip (wn rfl rfl rfl rfl rfl) (s_pick0 (v := .bool false) (ej rfl rfl) ev_c (w0 rfl) (s_assign (v := .bool false) (ej rfl rfl) (w0 rfl) (c_done (n_then (c_ret (r_block (r_then (ret1 (v := .bool false) rfl rfl rfl ?_)))))))))))
      refine ⟨_,rfl,?_,(NewB.ext n3)⟩
      (refine congrArg Value.bool ?_; unfold argB; first | (rw [if_pos (by omega)]; ((try simp only [*,decide_true,decide_false,if_true,if_false,Bool.and_true,Bool.true_and,Bool.false_and,Bool.and_false,Bool.not_true,Bool.not_false,Bool.false_eq_true,reduceIte,not_true_eq_false,not_false_eq_true]); first | done | rfl); done) | (rw [if_neg (by omega),if_pos (by omega)]; ((try simp only [*,decide_true,decide_false,if_true,if_false,Bool.and_true,Bool.true_and,Bool.false_and,Bool.and_false,Bool.not_true,Bool.not_false,Bool.false_eq_true,reduceIte,not_true_eq_false,not_false_eq_true]); first | done | rfl); done) | (rw [if_neg (by omega),if_neg (by omega),if_pos (by omega)]; ((try simp only [*,decide_true,decide_false,if_true,if_false,Bool.and_true,Bool.true_and,Bool.false_and,Bool.and_false,Bool.not_true,Bool.not_false,Bool.false_eq_true,reduceIte,not_true_eq_false,not_false_eq_true]); first | done | rfl); done) | (rw [if_neg (by omega),if_neg (by omega),if_neg (by omega)]; done))
    refine s_move (v := .bool true) (vb (ej rfl rfl) (nb1 h19)) (w0 rfl) (s_field (off := 1) (o' := 1) F_f64_1 (ej rfl rfl) rfl (wy rfl rfl rfl rfl) (s_loadL (cs := [.string x.t.v,.int .i8 x.t.l.k,.int .i64 x.t.l.n,.string x.t.l.s]) F_m28 (ej rfl rfl) rfl rfl (blk_cells (NewB.blk n3) 1 rfl) (wy rfl rfl rfl rfl) (s_call F_e77 (wy rfl rfl rfl rfl) ev_f (m1 (ej rfl rfl)) (args := #[.agg #[.string x.t.v,.int .i8 x.t.l.k,.int .i64 x.t.l.n,.string x.t.l.s]]) rfl (t_solid x.t _ (Ag.wf.t hx)) ?_)))
    rintro _ w21 ⟨rfl,x20⟩
    refine s_pick1 (v := .bool (!decide (x.t.v = ⟨#[95]⟩) && tmB x.t)) (ej rfl rfl) (ej rfl rfl) (w0 rfl) (s_assign (v := .bool (!decide (x.t.v = ⟨#[95]⟩) && tmB x.t)) (ej rfl rfl) (w0 rfl) (c_done (n_then (c_ret (r_block (r_then (ret1 (v := .bool (!decide (x.t.v = ⟨#[95]⟩) && tmB x.t)) rfl rfl rfl ?_)))))))
    refine ⟨_,rfl,?_,(Ext.trans (NewB.ext n3) x20)⟩
    (refine congrArg Value.bool ?_; unfold argB; first | (rw [if_pos (by omega)]; ((try simp only [*,decide_true,decide_false,if_true,if_false,Bool.and_true,Bool.true_and,Bool.false_and,Bool.and_false,Bool.not_true,Bool.not_false,Bool.false_eq_true,reduceIte,not_true_eq_false,not_false_eq_true]); first | done | rfl); done) | (rw [if_neg (by omega),if_pos (by omega)]; ((try simp only [*,decide_true,decide_false,if_true,if_false,Bool.and_true,Bool.true_and,Bool.false_and,Bool.and_false,Bool.not_true,Bool.not_false,Bool.false_eq_true,reduceIte,not_true_eq_false,not_false_eq_true]); first | done | rfl); done) | (rw [if_neg (by omega),if_neg (by omega),if_pos (by omega)]; ((try simp only [*,decide_true,decide_false,if_true,if_false,Bool.and_true,Bool.true_and,Bool.false_and,Bool.and_false,Bool.not_true,Bool.not_false,Bool.false_eq_true,reduceIte,not_true_eq_false,not_false_eq_true]); first | done | rfl); done) | (rw [if_neg (by omega),if_neg (by omega),if_neg (by omega)]; done))
  refine c_cond0 (vb (ej rfl rfl) (decide_eq_false h18)) (c_skip (n_block (n_then (c_seq (c_reg (s_assign (v := .bool false) ev_c (w0 rfl) (c_done (n_then (c_ret (ret1 (v := .bool false) rfl rfl rfl ?_))))))))))
  refine ⟨_,rfl,?_,(NewB.ext n3)⟩
  (refine congrArg Value.bool ?_; unfold argB; first | (rw [if_pos (by omega)]; ((try simp only [*,decide_true,decide_false,if_true,if_false,Bool.and_true,Bool.true_and,Bool.false_and,Bool.and_false,Bool.not_true,Bool.not_false,Bool.false_eq_true,reduceIte,not_true_eq_false,not_false_eq_true]); first | done | rfl); done) | (rw [if_neg (by omega),if_pos (by omega)]; ((try simp only [*,decide_true,decide_false,if_true,if_false,Bool.and_true,Bool.true_and,Bool.false_and,Bool.and_false,Bool.not_true,Bool.not_false,Bool.false_eq_true,reduceIte,not_true_eq_false,not_false_eq_true]); first | done | rfl); done) | (rw [if_neg (by omega),if_neg (by omega),if_pos (by omega)]; ((try simp only [*,decide_true,decide_false,if_true,if_false,Bool.and_true,Bool.true_and,Bool.false_and,Bool.and_false,Bool.not_true,Bool.not_false,Bool.false_eq_true,reduceIte,not_true_eq_false,not_false_eq_true]); first | done | rfl); done) | (rw [if_neg (by omega),if_neg (by omega),if_neg (by omega)]; done))
end Go.Proofs.Dw

set_option linter.unusedVariables false
set_option linter.unusedSimpArgs false
set_option maxRecDepth 10000
namespace Go.Proofs.Dw
open Go Go.Wk Go.Proofs Go.Lib
attribute [local irreducible] Go.wpList Go.wpStill Go.wpQuiet Go.Code.wp Go.Calls
theorem F_if9 : (Tryd.prog.info? 9).map (fun i => (i.zero,i.size,i.bytes)) = some (some (.string (⟨#[]⟩ : ByteArray)),1,16) := by kernel_rfl
theorem F_o122 : one Tryd.prog 122 = true := by kernel_rfl
theorem F_o154 : one Tryd.prog 154 = true := by kernel_rfl
theorem F_sz122 : (Tryd.prog.info? 122).map (·.size) = some 1 := by kernel_rfl
theorem F_ul122 : Tryd.prog.underlying 122 = some (.slice 9) := by kernel_rfl
theorem mapOf : MapOf Tryd.prog 154 9 3 := ⟨by kernel_rfl,by kernel_rfl,by kernel_rfl,by kernel_rfl⟩
theorem t_vars1 (y : Tm) (b o gm gl : Nat) (S : List ByteArray) (wz : World) (w : World) (htm : ∀ (i : Nat) (u : Value),([.string y.v,.int .i8 y.l.k,.int .i64 y.l.n,.string y.l.s] : List Value)[i]? = some u → wz.cell? ⟨b,o + i,none⟩ = some u) (hy : y.wf) (hv : VS Tryd.prog 122 154 9 3 wz w gm gl S) (hS : S.length ≤ 100000) :
    Rt Tryd.prog 111 #[.pointer (some ⟨b,o,none⟩),.pointer (some ⟨gm,0,none⟩),.pointer (some ⟨gl,0,none⟩)] w fun v w' => v = .tuple #[] ∧ VS Tryd.prog 122 154 9 3 wz w' gm gl (colT S y.v) := by
  refine enter Tryd.func111 rfl (l := [.pointer (some ⟨b,o,none⟩),.pointer (some ⟨gm,0,none⟩),.pointer (some ⟨gl,0,none⟩)]) rfl Tryd.ntmps111 (Nat.le_of_ble_eq_true rfl) ?_
  have x0 := VS.ext hv
  obtain ⟨Aq,cq,mb,hgl_,hgm_,hos_,hmp_,hmb_⟩ := VS.st hv
  have hgl0_ := VS.gl0 hv
  have hgm0_ := VS.gm0 hv
  obtain ⟨q,hq_,hqr_,hlk_⟩ := omap_look mapOf hmp_ hy.v
  have hsz_ := Keep.size x0
  refine c_seq (c_seq (c_quiet mixed (by kernel_rfl) (q_val (v := .pointer (some ⟨b,o,none⟩)) (w0 rfl) (fun w_ c_ => r_move (v := .pointer (some ⟨b,o,none⟩)) (ej rfl rfl)) (q_val (v := .pointer (some ⟨b,o,none⟩)) (w0 rfl) (fun w_ c_ => r_nilCheck (ej rfl rfl)) (q_val (v := .pointer (some ⟨b,o,none⟩)) (w0 rfl) (fun w_ c_ => r_field (off := 0) (o' := o) F_f28_0 (ej rfl rfl) rfl) (q_val (v := .string y.v) (w0 rfl) (fun w_ c_ => r_load (v := .string y.v) F_o9 (ej rfl rfl) ((cells_ext c_ (cells_ext x0 htm)) 0 _ rfl)) (q_val (v := .bool (decide (y.v = (⟨#[]⟩ : ByteArray)))) (w0 rfl) (fun w_ c_ => r_cmpS (r := decide (y.v = (⟨#[]⟩ : ByteArray))) (ej rfl rfl) ev_c rfl) ?_)))))))
  by_cases h1 : y.v = (⟨#[]⟩ : ByteArray)
  · refine q_val (v := .bool true) (w0 rfl) (fun w_ c_ => r_move (v := .bool true) (vb (ej rfl rfl) (decide_eq_true h1))) (q_skip (wn rfl rfl rfl rfl rfl) (q_skip (wn rfl rfl rfl rfl rfl) (q_skip (wn rfl rfl rfl rfl rfl) (q_skip (wn rfl rfl rfl rfl rfl) (q_skip (wn rfl rfl rfl rfl rfl) (q_val (v := .bool true) (w0 rfl) (fun w_ c_ => r_pick1 (v := .bool true) (ej rfl rfl) ev_c) (q_val (v := .bool true) (w0 rfl) (fun w_ c_ => r_move (v := .bool true) (ej rfl rfl)) (q_skip (wn rfl rfl rfl rfl rfl) (q_skip (wn rfl rfl rfl rfl rfl) (q_skip (wn rfl rfl rfl rfl rfl) (q_skip (wn rfl rfl rfl rfl rfl) ?_)))))))))))
    refine q_skip (wn rfl rfl rfl rfl rfl) (q_skip (wn rfl rfl rfl rfl rfl) (q_skip (wn rfl rfl rfl rfl rfl) (q_val (v := .bool true) (w0 rfl) (fun w_ c_ => r_pick1 (v := .bool true) (ej rfl rfl) ev_c) (q_done ?_))))
    intro w2 x3
    refine n_then (c_cond1 (ej rfl rfl) (c_ret (r_then (ret0r rfl ?_))))
    exact ⟨_,rfl,rfl,VS.cast (VS.to hv x3) (by unfold colT; rw [if_pos (by first | exact .inl (by assumption) | exact .inr (.inl (by assumption)) | exact .inr (.inr (hq_.1 (by assumption))))])⟩
  refine q_val (v := .bool false) (w0 rfl) (fun w_ c_ => r_move (v := .bool false) (vb (ej rfl rfl) (decide_eq_false h1))) (q_val (v := .pointer (some ⟨b,o,none⟩)) (wy rfl rfl rfl rfl) (fun w_ c_ => r_move (v := .pointer (some ⟨b,o,none⟩)) (ej rfl rfl)) (q_val (v := .pointer (some ⟨b,o,none⟩)) (wy rfl rfl rfl rfl) (fun w_ c_ => r_nilCheck (ej rfl rfl)) (q_val (v := .pointer (some ⟨b,o,none⟩)) (wy rfl rfl rfl rfl) (fun w_ c_ => r_field (off := 0) (o' := o) F_f28_0 (ej rfl rfl) rfl) (q_val (v := .string y.v) (wy rfl rfl rfl rfl) (fun w_ c_ => r_load (v := .string y.v) F_o9 (ej rfl rfl) ((cells_ext c_ (cells_ext x0 htm)) 0 _ rfl)) (q_val (v := .bool (decide (y.v = (⟨#[95]⟩ : ByteArray)))) (wy rfl rfl rfl rfl) (fun w_ c_ => r_cmpS (r := decide (y.v = (⟨#[95]⟩ : ByteArray))) (ej rfl rfl) ev_c rfl) (q_val (v := .bool (decide (y.v = (⟨#[95]⟩ : ByteArray)))) (w0 rfl) (fun w_ c_ => r_pick0 (v := .bool (decide (y.v = (⟨#[95]⟩ : ByteArray)))) (ej rfl rfl) (ej rfl rfl)) ?_))))))
  by_cases h4 : y.v = (⟨#[95]⟩ : ByteArray)
  · refine q_val (v := .bool true) (w0 rfl) (fun w_ c_ => r_move (v := .bool true) (vb (ej rfl rfl) (decide_eq_true h4))) (q_skip (wn rfl rfl rfl rfl rfl) (q_skip (wn rfl rfl rfl rfl rfl) (q_skip (wn rfl rfl rfl rfl rfl) (q_skip (wn rfl rfl rfl rfl rfl) (q_skip (wn rfl rfl rfl rfl rfl) (q_skip (wn rfl rfl rfl rfl rfl) (q_skip (wn rfl rfl rfl rfl rfl) (q_val (v := .bool true) (w0 rfl) (fun w_ c_ => r_pick1 (v := .bool true) (ej rfl rfl) ev_c) (q_done ?_)))))))))
    intro w5 x6
    refine n_then (c_cond1 (ej rfl rfl) (c_ret (r_then (ret0r rfl ?_))))
    exact ⟨_,rfl,rfl,VS.cast (VS.to hv x6) (by unfold colT; rw [if_pos (by first | exact .inl (by assumption) | exact .inr (.inl (by assumption)) | exact .inr (.inr (hq_.1 (by assumption))))])⟩
  refine q_val (v := .bool false) (w0 rfl) (fun w_ c_ => r_move (v := .bool false) (vb (ej rfl rfl) (decide_eq_false h4))) (q_val (v := .map (some mb)) (wy rfl rfl rfl rfl) (fun w_ c_ => r_load (v := .map (some mb)) F_o154 (ej rfl rfl) (cell_of_blk (i := 0) (Ext.blk c_ hgm_) rfl)) (q_val (v := .pointer (some ⟨b,o,none⟩)) (wy rfl rfl rfl rfl) (fun w_ c_ => r_move (v := .pointer (some ⟨b,o,none⟩)) (ej rfl rfl)) (q_val (v := .pointer (some ⟨b,o,none⟩)) (wy rfl rfl rfl rfl) (fun w_ c_ => r_nilCheck (ej rfl rfl)) (q_val (v := .pointer (some ⟨b,o,none⟩)) (wy rfl rfl rfl rfl) (fun w_ c_ => r_field (off := 0) (o' := o) F_f28_0 (ej rfl rfl) rfl) (q_val (v := .string y.v) (wy rfl rfl rfl rfl) (fun w_ c_ => r_load (v := .string y.v) F_o9 (ej rfl rfl) ((cells_ext c_ (cells_ext x0 htm)) 0 _ rfl)) (q_val (v := .int .i64 q) (wy rfl rfl rfl rfl) (fun w_ c_ => r_lookup (v := .int .i64 q) (ej rfl rfl) (ej rfl rfl) (hlk_ _ c_)) (q_val (v := .bool (decide (0 < q))) (wy rfl rfl rfl rfl) (fun w_ c_ => r_cmp (r := decide (0 < q)) (ej rfl rfl) ev_c rfl) (q_val (v := .bool (decide (0 < q))) (w0 rfl) (fun w_ c_ => r_pick0 (v := .bool (decide (0 < q))) (ej rfl rfl) (ej rfl rfl)) (q_done ?_)))))))))
  intro w7 x8
  refine n_then ?_
  by_cases h9 : 0 < q
  · refine c_cond1 (vb (ej rfl rfl) (decide_eq_true h9)) (c_ret (r_then (ret0r rfl ?_)))
    exact ⟨_,rfl,rfl,VS.cast (VS.to hv x8) (by unfold colT; rw [if_pos (by first | exact .inl (by assumption) | exact .inr (.inl (by assumption)) | exact .inr (.inr (hq_.1 (by assumption))))])⟩
  refine c_cond0 (vb (ej rfl rfl) (decide_eq_false h9)) (c_skip (n_then (c_seq ?_)))
  refine c_trace (fun k v wb wa => match k with | 0 => v = .slice Aq S.length cq | 1 => v = .pointer (some ⟨b,o,none⟩) | 2 => v = .pointer (some ⟨b,o,none⟩) | 3 => v = .pointer (some ⟨b,o,none⟩) | 4 => v = .string y.v | 5 => ∃ g_,v = .slice (some ⟨g_,0,none⟩) 1 1 ∧ NewB wb g_ (.cells #[.string y.v] 9 (0,0)) wa | _ => True) (fun k => [25,26,27,28,29,30].getD k 999) (fun k => [[],[],[1],[2],[3],[4]].getD k []) 6 mixed (by kernel_rfl) (by decide) ?_ ?_
  · intro wd xd k_ hk_ env_ B_ A_ w_ hx_
    have hkm : k_ = 0 ∨ k_ = 1 ∨ k_ = 2 ∨ k_ = 3 ∨ k_ = 4 ∨ k_ = 5 := by omega
    rcases hkm with rfl | rfl | rfl | rfl | rfl | rfl
    · refine ⟨_,rfl,?_⟩
      refine s_load (v := .slice Aq S.length cq) F_o122 (ej rfl ((Tr.env hx_ 2 (by decide)).trans rfl)) (cell_of_blk (i := 0) (Ext.blk (Tr.ext hx_) (Ext.blk xd (Ext.blk x8 hgl_))) rfl) (w0 rfl) ?_
      exact tl_done ⟨_,rfl,rfl,Ext.refl _⟩
    · refine ⟨_,rfl,?_⟩
      refine s_move (v := .pointer (some ⟨b,o,none⟩)) (ej rfl ((Tr.env hx_ 0 (by decide)).trans rfl)) (w0 rfl) ?_
      exact tl_done ⟨_,rfl,rfl,Ext.refl _⟩
    · refine ⟨_,rfl,?_⟩
      refine s_nilCheck (ej rfl (Tr.g hx_ 1 (by decide))) (w0 rfl) ?_
      exact tl_done ⟨_,rfl,rfl,Ext.refl _⟩
    · refine ⟨_,rfl,?_⟩
      refine s_field (off := 0) (o' := o) F_f28_0 (ej rfl (Tr.g hx_ 2 (by decide))) rfl (w0 rfl) ?_
      exact tl_done ⟨_,rfl,rfl,Ext.refl _⟩
    · refine ⟨_,rfl,?_⟩
      refine s_load (v := .string y.v) F_o9 (ej rfl (Tr.g hx_ 3 (by decide))) ((cells_ext (Tr.ext hx_) (cells_ext xd (cells_ext x8 (cells_ext x0 htm)))) 0 _ rfl) (w0 rfl) ?_
      exact tl_done ⟨_,rfl,rfl,Ext.refl _⟩
    refine ⟨_,rfl,?_⟩
    refine s_bslice (vs := [(0,.string y.v)]) (cs := #[.string y.v]) (b1 (ej rfl (Tr.g hx_ 4 (by decide)))) (bs122_1_0s y.v) (w0 rfl) ?_
    intro w11 g10 n12
    exact tl_done ⟨_,rfl,⟨g10,rfl,n12⟩,(NewB.ext n12)⟩
  intro wd xd env_ B_ A_ w_ hx_
  obtain ⟨g10,e13,n14⟩ := Tr.g hx_ 5 (by decide)
  replace e13 : env_ 30 = _ := e13
  refine tl_cons ?_
  refine s_append (m := 1) (k := 1) (news := [.string y.v]) F_ul122 F_if9 rfl (by decide) (ej rfl (Tr.g hx_ 0 (by decide))) (OS.own (OS.ext (OS.ext (OS.ext hos_ x8) xd) (Tr.ext hx_))) (ej rfl e13) rfl (by have z_ := blk_cells (Ext.blk (Tr.x2 hx_ 5 (by decide)) (NewB.blk n14)) 0 (cs := [.string y.v]) rfl; exact z_) rfl (by omega) (by omega) (Keep.size (Ext.trans (Ext.trans (Ext.trans x0 x8) xd) (Tr.ext hx_))) (w0 rfl) ?_
  intro A17 c18 w15 ow19 k16
  have ot20 := OS.snoc ow19
  refine tl_done ⟨trivial,?_⟩
  refine tl_cons ?_
  refine s_store (cs' := #[.slice A17 (S.length + 1) c18]) F_sz122 (ej rfl ((Tr.env hx_ 2 (by decide)).trans rfl)) (ej rfl rfl) (l := [.slice A17 (S.length + 1) c18]) rfl rfl rfl (Keep.blk k16 (Ext.blk (Tr.ext hx_) (Ext.blk xd (Ext.blk x8 hgl_))) (own_ne (OS.own (OS.ext (OS.ext (OS.ext hos_ x8) xd) (Tr.ext hx_))) (Ext.blk (Tr.ext hx_) (Ext.blk xd (Ext.blk x8 hgl_))) (by first | decide | assumption))) (Nat.le_of_ble_eq_true rfl) rfl (w0 rfl) ?_
  intro w21 k22
  refine tl_done ⟨trivial,?_⟩
  refine tl_nil ?_
  refine n_then (c_tail 7 mixed (by kernel_rfl) rfl rfl ?_)
  intro w23 x24
  refine t_val (v := .map (some mb)) (w0 rfl) (r_load (v := .map (some mb)) F_o154 (ej rfl ((Tr.env hx_ 1 (by decide)).trans rfl)) (cell_of_blk (i := 0) (Ext.blk x24 (Keep.blk (Wrote.keep k22) (Keep.blk k16 (Ext.blk (Tr.ext hx_) (Ext.blk xd (Ext.blk x8 hgm_))) (own_ne (OS.own (OS.ext (OS.ext (OS.ext hos_ x8) xd) (Tr.ext hx_))) (Ext.blk (Tr.ext hx_) (Ext.blk xd (Ext.blk x8 hgm_))) (by first | decide | assumption))) (ne_blk hgm_ hgl_ (by decide)))) rfl)) (t_val (v := .pointer (some ⟨b,o,none⟩)) (w0 rfl) (r_move (v := .pointer (some ⟨b,o,none⟩)) (ej rfl ((Tr.env hx_ 0 (by decide)).trans rfl))) (t_val (v := .pointer (some ⟨b,o,none⟩)) (w0 rfl) (r_nilCheck (ej rfl rfl)) (t_val (v := .pointer (some ⟨b,o,none⟩)) (w0 rfl) (r_field (off := 0) (o' := o) F_f28_0 (ej rfl rfl) rfl) (t_val (v := .string y.v) (w0 rfl) (r_load (v := .string y.v) F_o9 (ej rfl rfl) ((cells_ext (Ext.trans (Keep.then_ (Keep.then_ (Ext.trans (Ext.trans (Ext.trans x0 x8) xd) (Tr.ext hx_)) k16 (fun i_ hi_ h_ => by have a_ := own_ge (OS.own (OS.ext (OS.ext (OS.ext hos_ x8) xd) (Tr.ext hx_))) i_ h_; omega)) (Wrote.keep k22) (fun i_ hi_ h_ => by have a_ := hgl0_; omega)) x24) htm) 0 _ rfl)) (t_val (v := .slice A17 (S.length + 1) c18) (w0 rfl) (r_load (v := .slice A17 (S.length + 1) c18) F_o122 (ej rfl ((Tr.env hx_ 2 (by decide)).trans rfl)) (cell_of_blk (i := 0) (Ext.blk x24 (Wrote.blk k22)) rfl)) (t_val (v := .int .i64 (((S.length + 1) : Nat) : Int)) (w0 rfl) (r_lenL F_l122 (ej rfl rfl)) (t_done ?_)))))))
  have hGL_ := Ext.blk (Ext.trans (Ext.trans x8 xd) (Tr.ext hx_)) hgl_
  have hGM_ := Ext.blk (Ext.trans (Ext.trans x8 xd) (Tr.ext hx_)) hgm_
  have hOS_ := own_ext (Ext.trans (Ext.trans x8 xd) (Tr.ext hx_)) hos_
  have m0_ := omap_keep hmp_ (Ext.trans (Ext.trans x8 xd) (Tr.ext hx_)) (fun h_ => h_)
  have m1_ := omap_keep m0_ k16 (omap_own m0_ hOS_)
  have hGL1_ := Keep.blk k16 hGL_ (own_ne hOS_ hGL_ (by decide))
  have m2_ := omap_keep m1_ (Wrote.keep k22) (fun e_ => omap_cells m1_ (e_ ▸ hGL1_))
  refine s_mapUpdate mapOf (S := S) (n0 := S.length) (s := y.v) (q := ((S.length + 1 : Nat) : Int)) (ej rfl rfl) (ej rfl rfl) (ej rfl rfl) (omap_keep m2_ x24 (fun h_ => h_)) (by omega) hy.v (by omega) ?_
  intro w25 hm26 k27
  refine c_done (ret0 rfl ?_)
  exact ⟨_,rfl,rfl,VS.cast (VS.next (Ext.trans (Ext.trans (Ext.trans x0 x8) xd) (Tr.ext hx_)) hgl0_ hgm0_ hmb_ (by decide) (by decide) (by decide) hGL_ hGM_ hOS_ k16 ow19 k22 (Keep.then_ (Keep.mono x24 (fun _ _ h_ => h_.elim)) k27 (fun _ _ h_ => h_)) m2_ hm26) (by unfold colT; rw [if_neg (fun h_ => h_.elim (fun h_ => absurd h_ (by assumption)) (fun h_ => h_.elim (fun h_ => absurd h_ (by assumption)) (fun h_ => absurd (hq_.2 h_) (by assumption))))])⟩
end Go.Proofs.Dw

set_option linter.unusedVariables false
set_option linter.unusedSimpArgs false
set_option maxRecDepth 10000
namespace Go.Proofs.Dw
open Go Go.Wk Go.Proofs Go.Lib
attribute [local irreducible] Go.wpList Go.wpStill Go.wpQuiet Go.Code.wp Go.Calls
theorem F_e110 : enterable Tryd.prog 110 = true := by kernel_rfl
theorem F_e111 : enterable Tryd.prog 111 = true := by kernel_rfl
theorem F_pt144 : ptrT Tryd.prog 144 = true := by kernel_rfl
theorem F_pt166 : ptrT Tryd.prog 166 = true := by kernel_rfl
theorem F_pt167 : ptrT Tryd.prog 167 = true := by kernel_rfl
theorem F_pt168 : ptrT Tryd.prog 168 = true := by kernel_rfl
theorem t_walkA (x : At) (A : Option Addr) (c : Nat) (b o gm gl : Nat) (S : List ByteArray) (wz : World) (w : World) (hcell : ∀ (i : Nat) (u : Value),([.string x.p,.slice A x.args.length c] : List Value)[i]? = some u → wz.cell? ⟨b,o + i,none⟩ = some u) (ho : x.okc c) (hr : Row RT 4 wz A x.args) (hn : S.length + x.args.length ≤ 100000) (hv : VS Tryd.prog 122 154 9 3 wz w gm gl S) :
    Rt Tryd.prog 110 #[.iface 167 (.pointer (some ⟨b,o,none⟩)),.func (.func 111) #[] #[.pointer (some ⟨gm,0,none⟩),.pointer (some ⟨gl,0,none⟩)]] w fun v w' => v = .tuple #[] ∧ VS Tryd.prog 122 154 9 3 wz w' gm gl (colL S x.args) := by
  refine enter Tryd.func110 rfl (l := [.iface 167 (.pointer (some ⟨b,o,none⟩)),.func (.func 111) #[] #[.pointer (some ⟨gm,0,none⟩),.pointer (some ⟨gl,0,none⟩)]]) rfl Tryd.ntmps110 (Nat.le_of_ble_eq_true rfl) ?_
  have x0 := VS.ext hv
  have hl_ := At.okc.l ho
  have hc_ := At.okc.c ho
  have hp_ := At.okc.p ho
  refine c_seq (c_reg (s_move (v := .iface 167 (.pointer (some ⟨b,o,none⟩))) (ej rfl rfl) (w0 rfl) (c_done (n_then (c_block (c_seq (c_reg (s_isnt F_pt144 (ej rfl rfl) (by decide) (w0 rfl) (s_extract (v := .bool false) (ej rfl rfl) rfl (w0 rfl) (s_extract (v := .pointer none) (ej rfl rfl) rfl (w0 rfl) (c_done ?_)))))))))))
  refine n_then (c_cond0 (ej rfl rfl) (c_seq (c_reg (s_isnt F_pt166 (ej rfl rfl) (by decide) (w0 rfl) (s_extract (v := .bool false) (ej rfl rfl) rfl (w0 rfl) (s_extract (v := .pointer none) (ej rfl rfl) rfl (w0 rfl) (c_done (n_then (c_cond0 (ej rfl rfl) (c_seq (c_reg ?_)))))))))))
  refine s_isnt F_pt168 (ej rfl rfl) (by decide) (w0 rfl) (s_extract (v := .bool false) (ej rfl rfl) rfl (w0 rfl) (s_extract (v := .pointer none) (ej rfl rfl) rfl (w0 rfl) (c_done (n_then (c_cond0 (ej rfl rfl) (c_seq (c_reg (s_is F_pt167 (ej rfl rfl) (w0 rfl) (s_extract (v := .bool true) (ej rfl rfl) rfl (w0 rfl) (s_extract (v := .pointer (some ⟨b,o,none⟩)) (ej rfl rfl) rfl (w0 rfl) (c_done ?_)))))))))))
  refine n_then (c_cond1 (ej rfl rfl) (c_seq (c_reg (s_assign (v := .pointer (some ⟨b,o,none⟩)) (ej rfl rfl) (w0 rfl) (c_done (n_then (c_seq (c_reg (s_move (v := .pointer (some ⟨b,o,none⟩)) (ej rfl rfl) (w0 rfl) (s_nilCheck (ej rfl rfl) (w0 rfl) (s_field (off := 1) (o' := o + 1) F_f46_1 (ej rfl rfl) rfl (w0 rfl) ?_)))))))))))
  refine s_load (v := .slice A x.args.length c) F_o44 (ej rfl rfl) ((cells_ext x0 hcell) 1 _ rfl) (w0 rfl) (s_lenL F_l44 (ej rfl rfl) (w0 rfl) (s_move (v := .int .i64 0) ev_c (w0 rfl) (c_done (n_then (c_block (c_loop (α := Nat) (fun (i : Nat) env_ w_ => VS Tryd.prog 122 154 9 3 wz w_ gm gl (colL S (x.args.take i)) ∧ i ≤ x.args.length ∧ env_ 1 = .func (.func 111) #[] #[.pointer (some ⟨gm,0,none⟩),.pointer (some ⟨gl,0,none⟩)] ∧ env_ 10 = .pointer (some ⟨b,o,none⟩) ∧ env_ 106 = .int .i64 (x.args.length : Int) ∧ env_ 107 = .int .i64 ((i : Nat) : Int)) (fun i => x.args.length - i) (0) ⟨(VS.cast hv (congrArg (colL S) (show [] = (x.args.take 0) by simp))),Nat.zero_le _,rfl,rfl,rfl,rfl⟩ ?_))))))
  rintro i env3 w1 ⟨x2,i4,e5,e6,e7,e8⟩
  refine c_seq (c_reg (s_cmp (r := decide (((i : Nat) : Int) < (x.args.length : Int))) (ej rfl e8) (ej rfl e7) rfl (w0 rfl) (c_done (n_then (c_seq ?_)))))
  by_cases h9 : ((i : Nat) : Int) < (x.args.length : Int)
  · refine c_cond1 (vb (ej rfl rfl) (decide_eq_true h9)) (c_skip (n_then (c_seq (c_block (c_seq (c_reg (s_move (v := .int .i64 ((i : Nat) : Int)) (ej rfl e8) (w0 rfl) (s_assign (v := .int .i64 ((i : Nat) : Int)) (ej rfl rfl) (w0 rfl) (c_done (n_then (c_reg ?_)))))))))))
    refine s_move (v := .func (.func 111) #[] #[.pointer (some ⟨gm,0,none⟩),.pointer (some ⟨gl,0,none⟩)]) (ej rfl e5) (w0 rfl) (s_move (v := .pointer (some ⟨b,o,none⟩)) (ej rfl e6) (w0 rfl) (s_nilCheck (ej rfl rfl) (w0 rfl) (s_field (off := 1) (o' := o + 1) F_f46_1 (ej rfl rfl) rfl (w0 rfl) (s_load (v := .slice A x.args.length c) F_o44 (ej rfl rfl) ((cells_ext (VS.ext x2) hcell) 1 _ rfl) (w0 rfl) (s_move (v := .int .i64 ((i : Nat) : Int)) (ej rfl rfl) (w0 rfl) ?_)))))
    obtain ⟨b10,o11,x12,csx12,hA13,hx14,hR15,hc16⟩ := Row.at_ hr i (by omega)
    obtain rfl := tmAt_of hx14
    obtain ⟨rfl,wf17⟩ := hR15
    refine s_indexR (j := i) F_l44 (ej rfl rfl) hA13 (ej rfl rfl) rfl (by omega) (w0 rfl) (s_call F_e111 (w0 rfl) (ej rfl rfl) (m1 (ej rfl rfl)) (args := #[.pointer (some ⟨b10,o11 + i * 4,none⟩),.pointer (some ⟨gm,0,none⟩),.pointer (some ⟨gl,0,none⟩)]) rfl (t_vars1 (tmAt x.args i) b10 (o11 + i * 4) gm gl (colL S (x.args.take i)) wz _ (sub_cells hc16 0 (cs2 := [.string ((tmAt x.args i).v),.int .i8 ((tmAt x.args i).l.k),.int .i64 ((tmAt x.args i).l.n),.string ((tmAt x.args i).l.s)]) rfl) wf17 x2 (by have b_ := colL_len S (x.args.take i); simp only [List.length_append,List.length_take,List.length_map,List.length_nil,List.length_cons] at b_; omega)) ?_)
    rintro _ w18 ⟨rfl,hv19⟩
    have hv20 : VS Tryd.prog 122 154 9 3 wz w18 gm gl (colL S ((x.args.take i) ++ [(tmAt x.args i)])) := VS.cast hv19 (colL_app S (x.args.take i) [(tmAt x.args i)]).symm
    refine c_done (n_block (n_then (c_reg (s_add (r := ((i + 1 : Nat) : Int)) (ej rfl e8) ev_c (by omega) (by omega) (w0 rfl) (s_move (v := .int .i64 ((i + 1 : Nat) : Int)) (ej rfl rfl) (w0 rfl) (c_done ?_))))))
    exact ⟨(i + 1),_,rfl,⟨(VS.cast hv20 (congrArg (colL S) (show ((x.args.take i) ++ [(tmAt x.args i)]) = (x.args.take (i + 1)) by exact tkA (by omega)))),by omega,e5,e6,e7,rfl⟩,(show x.args.length - (i + 1) < x.args.length - i by omega)⟩
  refine c_cond0 (vb (ej rfl rfl) (decide_eq_false h9)) (c_exit (e_then (e_then (e_hit (n_block (ret0 rfl ?_))))))
  exact ⟨_,rfl,rfl,VS.cast x2 (congrArg (colL S) (show (x.args.take i) = x.args by exact List.take_of_length_le (by omega)))⟩
theorem t_walkE_step (d : Nat) (x : Ex) (A : Option Addr) (c : Nat) (b o gm gl : Nat) (S : List ByteArray) (wz : World) (w : World) (hcell : ∀ (i : Nat) (u : Value),([.int .i8 x.op,.string x.t.v,.int .i8 x.t.l.k,.int .i64 x.t.l.n,.string x.t.l.s,.slice A x.kids.length c] : List Value)[i]? = some u → wz.cell? ⟨b,o + i,none⟩ = some u) (ho : x.okc c) (hr : Row RE 6 wz A x.kids) (hsm : smE d x) (hn : S.length + 2 ^ d ≤ 100000) (ih : ∀ (j : Nat) (y : Ex),x.kids[j]? = some y → ∀ (A : Option Addr) (c : Nat) (b o : Nat) (S : List ByteArray) (w : World),(∀ (i : Nat) (u : Value),([.int .i8 y.op,.string y.t.v,.int .i8 y.t.l.k,.int .i64 y.t.l.n,.string y.t.l.s,.slice A y.kids.length c] : List Value)[i]? = some u → wz.cell? ⟨b,o + i,none⟩ = some u) → y.okc c → Row RE 6 wz A y.kids → S.length + 2 ^ (d - 1) ≤ 100000 → VS Tryd.prog 122 154 9 3 wz w gm gl S → Rt Tryd.prog 110 #[.iface 168 (.pointer (some ⟨b,o,none⟩)),.func (.func 111) #[] #[.pointer (some ⟨gm,0,none⟩),.pointer (some ⟨gl,0,none⟩)]] w (fun v w' => v = .tuple #[] ∧ VS Tryd.prog 122 154 9 3 wz w' gm gl (colL S (exTs (d - 1) y)))) (hv : VS Tryd.prog 122 154 9 3 wz w gm gl S) :
    Rt Tryd.prog 110 #[.iface 168 (.pointer (some ⟨b,o,none⟩)),.func (.func 111) #[] #[.pointer (some ⟨gm,0,none⟩),.pointer (some ⟨gl,0,none⟩)]] w fun v w' => v = .tuple #[] ∧ VS Tryd.prog 122 154 9 3 wz w' gm gl (colL S (exTs d x)) := by
  refine enter Tryd.func110 rfl (l := [.iface 168 (.pointer (some ⟨b,o,none⟩)),.func (.func 111) #[] #[.pointer (some ⟨gm,0,none⟩),.pointer (some ⟨gl,0,none⟩)]]) rfl Tryd.ntmps110 (Nat.le_of_ble_eq_true rfl) ?_
  have x0 := VS.ext hv
  have hl_ := Ex.okc.l ho
  have hc_ := Ex.okc.c ho
  have hd0_ := smE.pos hsm
  have hk2_ := smE.kids hsm hd0_
  have hp1_ : 1 ≤ 2 ^ d := one_pow
  refine c_seq (c_reg (s_move (v := .iface 168 (.pointer (some ⟨b,o,none⟩))) (ej rfl rfl) (w0 rfl) (c_done (n_then (c_block (c_seq (c_reg (s_isnt F_pt144 (ej rfl rfl) (by decide) (w0 rfl) (s_extract (v := .bool false) (ej rfl rfl) rfl (w0 rfl) (s_extract (v := .pointer none) (ej rfl rfl) rfl (w0 rfl) (c_done ?_)))))))))))
  refine n_then (c_cond0 (ej rfl rfl) (c_seq (c_reg (s_isnt F_pt166 (ej rfl rfl) (by decide) (w0 rfl) (s_extract (v := .bool false) (ej rfl rfl) rfl (w0 rfl) (s_extract (v := .pointer none) (ej rfl rfl) rfl (w0 rfl) (c_done (n_then (c_cond0 (ej rfl rfl) (c_seq (c_reg ?_)))))))))))
  refine s_is F_pt168 (ej rfl rfl) (w0 rfl) (s_extract (v := .bool true) (ej rfl rfl) rfl (w0 rfl) (s_extract (v := .pointer (some ⟨b,o,none⟩)) (ej rfl rfl) rfl (w0 rfl) (c_done (n_then (c_cond1 (ej rfl rfl) (c_seq (c_reg (s_assign (v := .pointer (some ⟨b,o,none⟩)) (ej rfl rfl) (w0 rfl) (c_done (n_then (c_seq ?_)))))))))))
  refine c_reg (s_move (v := .func (.func 111) #[] #[.pointer (some ⟨gm,0,none⟩),.pointer (some ⟨gl,0,none⟩)]) (ej rfl rfl) (w0 rfl) (s_move (v := .pointer (some ⟨b,o,none⟩)) (ej rfl rfl) (w0 rfl) (s_nilCheck (ej rfl rfl) (w0 rfl) (s_field (off := 1) (o' := o + 1) F_f31_1 (ej rfl rfl) rfl (w0 rfl) (s_call F_e111 (w0 rfl) (ej rfl rfl) (m1 (ej rfl rfl)) (args := #[.pointer (some ⟨b,o + 1,none⟩),.pointer (some ⟨gm,0,none⟩),.pointer (some ⟨gl,0,none⟩)]) rfl (t_vars1 x.t b (o + 1) gm gl (colL S []) wz _ (sub_cells hcell 1 (cs2 := [.string x.t.v,.int .i8 x.t.l.k,.int .i64 x.t.l.n,.string x.t.l.s]) rfl) (Ex.okc.t ho) hv (by have b_ := colL_len S []; simp only [List.length_append,List.length_take,List.length_map,List.length_nil,List.length_cons] at b_; omega)) ?_)))))
  rintro _ w1 ⟨rfl,hv2⟩
  have hv3 : VS Tryd.prog 122 154 9 3 wz w1 gm gl (colL S ([] ++ [x.t])) := VS.cast hv2 (colL_app S [] [x.t]).symm
  refine c_done (n_then (c_seq (c_reg (s_move (v := .pointer (some ⟨b,o,none⟩)) (ej rfl rfl) (w0 rfl) (s_nilCheck (ej rfl rfl) (w0 rfl) (s_field (off := 5) (o' := o + 5) F_f31_2 (ej rfl rfl) rfl (w0 rfl) (s_load (v := .slice A x.kids.length c) F_o29 (ej rfl rfl) ((cells_ext (VS.ext hv3) hcell) 5 _ rfl) (w0 rfl) (s_lenL F_l29 (ej rfl rfl) (w0 rfl) (s_move (v := .int .i64 0) ev_c (w0 rfl) (c_done (n_then ?_)))))))))))
  refine c_block (c_loop (α := Nat) (fun (i : Nat) env_ w_ => VS Tryd.prog 122 154 9 3 wz w_ gm gl (colL S (exK (d - 1) x i)) ∧ i ≤ x.kids.length ∧ env_ 1 = .func (.func 111) #[] #[.pointer (some ⟨gm,0,none⟩),.pointer (some ⟨gl,0,none⟩)] ∧ env_ 8 = .pointer (some ⟨b,o,none⟩) ∧ env_ 85 = .int .i64 (x.kids.length : Int) ∧ env_ 86 = .int .i64 ((i : Nat) : Int)) (fun i => x.kids.length - i) (0) ⟨(VS.cast hv3 (congrArg (colL S) (show ([] ++ [x.t]) = (exK (d - 1) x 0) by rw [exK_zero]; rfl))),Nat.zero_le _,rfl,rfl,rfl,rfl⟩ ?_)
  rintro i env6 w4 ⟨x5,i7,e8,e9,e10,e11⟩
  refine c_seq (c_reg (s_cmp (r := decide (((i : Nat) : Int) < (x.kids.length : Int))) (ej rfl e11) (ej rfl e10) rfl (w0 rfl) (c_done (n_then (c_seq ?_)))))
  by_cases h12 : ((i : Nat) : Int) < (x.kids.length : Int)
  · refine c_cond1 (vb (ej rfl rfl) (decide_eq_true h12)) (c_skip (n_then (c_seq (c_block (c_seq (c_reg (s_move (v := .int .i64 ((i : Nat) : Int)) (ej rfl e11) (w0 rfl) (s_assign (v := .int .i64 ((i : Nat) : Int)) (ej rfl rfl) (w0 rfl) (c_done (n_then (c_reg ?_)))))))))))
    refine s_move (v := .pointer (some ⟨b,o,none⟩)) (ej rfl e9) (w0 rfl) (s_nilCheck (ej rfl rfl) (w0 rfl) (s_field (off := 5) (o' := o + 5) F_f31_2 (ej rfl rfl) rfl (w0 rfl) (s_load (v := .slice A x.kids.length c) F_o29 (ej rfl rfl) ((cells_ext (VS.ext x5) hcell) 5 _ rfl) (w0 rfl) (s_move (v := .int .i64 ((i : Nat) : Int)) (ej rfl rfl) (w0 rfl) ?_))))
    obtain ⟨b13,o14,x15,csx15,hA16,hx17,hR18,hc19⟩ := Row.at_ hr i (by omega)
    obtain rfl := Ex.kid_of hx17
    obtain ⟨A20,c21,rfl,ho22,hr23⟩ := RE.open_ hR18
    refine s_indexR (j := i) F_l29 (ej rfl rfl) hA16 (ej rfl rfl) rfl (by omega) (w0 rfl) (s_iface F_pt168 (ej rfl rfl) (w0 rfl) (s_move (v := .func (.func 111) #[] #[.pointer (some ⟨gm,0,none⟩),.pointer (some ⟨gl,0,none⟩)]) (ej rfl e8) (w0 rfl) (s_call F_e110 (w0 rfl) ev_f (m2 (ej rfl rfl) (ej rfl rfl)) (args := #[.iface 168 (.pointer (some ⟨b13,o14 + i * 6,none⟩)),.func (.func 111) #[] #[.pointer (some ⟨gm,0,none⟩),.pointer (some ⟨gl,0,none⟩)]]) rfl (ih i _ (kid_there (x := x) (j := i) (by omega)) A20 c21 b13 (o14 + i * 6) (colL S (exK (d - 1) x i)) _ hc19 ho22 hr23 (by have b_ := colL_len S (exK (d - 1) x i); have b2_ := exK_bound hsm (i := i) (by omega); omega) x5) ?_)))
    rintro _ w24 ⟨rfl,hv25⟩
    have hv26 : VS Tryd.prog 122 154 9 3 wz w24 gm gl (colL S ((exK (d - 1) x i) ++ exTs (d - 1) (x.kid i))) := VS.cast hv25 (colL_app S (exK (d - 1) x i) (exTs (d - 1) (x.kid i))).symm
    refine c_done (n_block (n_then (c_reg (s_add (r := ((i + 1 : Nat) : Int)) (ej rfl e11) ev_c (by omega) (by omega) (w0 rfl) (s_move (v := .int .i64 ((i + 1 : Nat) : Int)) (ej rfl rfl) (w0 rfl) (c_done ?_))))))
    exact ⟨(i + 1),_,rfl,⟨(VS.cast hv26 (congrArg (colL S) (show ((exK (d - 1) x i) ++ exTs (d - 1) (x.kid i)) = (exK (d - 1) x (i + 1)) by exact (exK_step (by omega)).symm))),by omega,e8,e9,e10,rfl⟩,(show x.kids.length - (i + 1) < x.kids.length - i by omega)⟩
  refine c_cond0 (vb (ej rfl rfl) (decide_eq_false h12)) (c_exit (e_then (e_then (e_hit (n_block (ret0 rfl ?_))))))
  exact ⟨_,rfl,rfl,VS.cast x5 (congrArg (colL S) (show (exK (d - 1) x i) = exTs d x by exact exK_all' hd0_ (by omega)))⟩
theorem t_walkE (gm gl : Nat) (wz : World) : ∀ (d : Nat) (x : Ex) (A : Option Addr) (c : Nat) (b o : Nat) (S : List ByteArray) (w : World),smE d x → (∀ (i : Nat) (u : Value),([.int .i8 x.op,.string x.t.v,.int .i8 x.t.l.k,.int .i64 x.t.l.n,.string x.t.l.s,.slice A x.kids.length c] : List Value)[i]? = some u → wz.cell? ⟨b,o + i,none⟩ = some u) → x.okc c → Row RE 6 wz A x.kids → S.length + 2 ^ d ≤ 100000 → VS Tryd.prog 122 154 9 3 wz w gm gl S → Rt Tryd.prog 110 #[.iface 168 (.pointer (some ⟨b,o,none⟩)),.func (.func 111) #[] #[.pointer (some ⟨gm,0,none⟩),.pointer (some ⟨gl,0,none⟩)]] w (fun v w' => v = .tuple #[] ∧ VS Tryd.prog 122 154 9 3 wz w' gm gl (colL S (exTs d x))) := by
  intro d
  induction d with
  | zero => intro x A c b o S w hsm; exact hsm.elim
  | succ d ih =>
    intro x A c b o S w hsm hcell ho hr hn hv
    exact t_walkE_step (d + 1) x A c b o gm gl S wz w hcell ho hr hsm hn (fun j y hy A c b o S w hcell ho hr hn hv => ih y A c b o S w (hsm.kid hy) hcell ho hr hn hv) hv
theorem t_walkL (x : Lt) (Aa A1 A2 : Option Addr) (ca c1 c2 : Nat) (b o gm gl : Nat) (S : List ByteArray) (wz : World) (w : World) (hcell : ∀ (i : Nat) (u : Value),([.int .i8 x.k,.string x.a.p,.slice Aa x.a.args.length ca,.int .i8 x.r,.int .i8 x.e1.op,.string x.e1.t.v,.int .i8 x.e1.t.l.k,.int .i64 x.e1.t.l.n,.string x.e1.t.l.s,.slice A1 x.e1.kids.length c1,.int .i8 x.e2.op,.string x.e2.t.v,.int .i8 x.e2.t.l.k,.int .i64 x.e2.t.l.n,.string x.e2.t.l.s,.slice A2 x.e2.kids.length c2] : List Value)[i]? = some u → wz.cell? ⟨b,o + i,none⟩ = some u) (ho : x.okc ca c1 c2) (hra : Row RT 4 wz Aa x.a.args) (hr1 : Row RE 6 wz A1 x.e1.kids) (hr2 : Row RE 6 wz A2 x.e2.kids) (hlt : ltB x = true) (hn : S.length + 600 ≤ 100000) (hv : VS Tryd.prog 122 154 9 3 wz w gm gl S) :
    Rt Tryd.prog 110 #[.iface 166 (.pointer (some ⟨b,o,none⟩)),.func (.func 111) #[] #[.pointer (some ⟨gm,0,none⟩),.pointer (some ⟨gl,0,none⟩)]] w fun v w' => v = .tuple #[] ∧ VS Tryd.prog 122 154 9 3 wz w' gm gl (colL S (ltTs x)) := by
  refine enter Tryd.func110 rfl (l := [.iface 166 (.pointer (some ⟨b,o,none⟩)),.func (.func 111) #[] #[.pointer (some ⟨gm,0,none⟩),.pointer (some ⟨gl,0,none⟩)]]) rfl Tryd.ntmps110 (Nat.le_of_ble_eq_true rfl) ?_
  have x0 := VS.ext hv
  have hoa_ := Lt.okc.a ho
  have ho1_ := Lt.okc.e1 ho
  have ho2_ := Lt.okc.e2 ho
  have hl1_ := Ex.okc.l ho1_
  have hl2_ := Ex.okc.l ho2_
  have hc1_ := Ex.okc.c ho1_
  have hc2_ := Ex.okc.c ho2_
  have hla_ := At.okc.l hoa_
  have hca_ := At.okc.c hoa_
  have hpa_ := At.okc.p hoa_
  obtain ⟨hsm1_,hsm2_,hl24_⟩ := lt_sm hlt
  have hz1_ := exTs_len 8 _ hsm1_
  have hz2_ := exTs_len 8 _ hsm2_
  refine c_seq (c_reg (s_move (v := .iface 166 (.pointer (some ⟨b,o,none⟩))) (ej rfl rfl) (w0 rfl) (c_done (n_then (c_block (c_seq (c_reg (s_isnt F_pt144 (ej rfl rfl) (by decide) (w0 rfl) (s_extract (v := .bool false) (ej rfl rfl) rfl (w0 rfl) (s_extract (v := .pointer none) (ej rfl rfl) rfl (w0 rfl) (c_done ?_)))))))))))
  refine n_then (c_cond0 (ej rfl rfl) (c_seq (c_reg (s_is F_pt166 (ej rfl rfl) (w0 rfl) (s_extract (v := .bool true) (ej rfl rfl) rfl (w0 rfl) (s_extract (v := .pointer (some ⟨b,o,none⟩)) (ej rfl rfl) rfl (w0 rfl) (c_done (n_then (c_cond1 (ej rfl rfl) (c_seq (c_reg ?_)))))))))))
  refine s_assign (v := .pointer (some ⟨b,o,none⟩)) (ej rfl rfl) (w0 rfl) (c_done (n_then (c_seq (c_reg (s_move (v := .pointer (some ⟨b,o,none⟩)) (ej rfl rfl) (w0 rfl) (s_nilCheck (ej rfl rfl) (w0 rfl) (s_field (off := 1) (o' := o + 1) F_f120_1 (ej rfl rfl) rfl (w0 rfl) (s_iface F_pt167 (ej rfl rfl) (w0 rfl) (s_move (v := .func (.func 111) #[] #[.pointer (some ⟨gm,0,none⟩),.pointer (some ⟨gl,0,none⟩)]) (ej rfl rfl) (w0 rfl) (s_call F_e110 (w0 rfl) ev_f (m2 (ej rfl rfl) (ej rfl rfl)) (args := #[.iface 167 (.pointer (some ⟨b,o + 1,none⟩)),.func (.func 111) #[] #[.pointer (some ⟨gm,0,none⟩),.pointer (some ⟨gl,0,none⟩)]]) rfl (t_walkA x.a Aa ca b (o + 1) gm gl (colL S []) wz _ (sub_cells hcell 1 (cs2 := [.string x.a.p,.slice Aa x.a.args.length ca]) rfl) hoa_ hra (by have b_ := colL_len S []; simp only [List.length_append,List.length_take,List.length_map,List.length_nil,List.length_cons] at b_; omega) hv) ?_))))))))))
  rintro _ w1 ⟨rfl,hv2⟩
  have hv3 : VS Tryd.prog 122 154 9 3 wz w1 gm gl (colL S ([] ++ x.a.args)) := VS.cast hv2 (colL_app S [] x.a.args).symm
  refine c_done (n_then (c_seq (c_reg (s_move (v := .pointer (some ⟨b,o,none⟩)) (ej rfl rfl) (w0 rfl) (s_nilCheck (ej rfl rfl) (w0 rfl) (s_field (off := 4) (o' := o + 4) F_f120_3 (ej rfl rfl) rfl (w0 rfl) (s_iface F_pt168 (ej rfl rfl) (w0 rfl) (s_move (v := .func (.func 111) #[] #[.pointer (some ⟨gm,0,none⟩),.pointer (some ⟨gl,0,none⟩)]) (ej rfl rfl) (w0 rfl) (s_call F_e110 (w0 rfl) ev_f (m2 (ej rfl rfl) (ej rfl rfl)) (args := #[.iface 168 (.pointer (some ⟨b,o + 4,none⟩)),.func (.func 111) #[] #[.pointer (some ⟨gm,0,none⟩),.pointer (some ⟨gl,0,none⟩)]]) rfl (t_walkE gm gl wz 8 x.e1 A1 c1 b (o + 4) (colL S ([] ++ x.a.args)) _ hsm1_ (sub_cells hcell 4 (cs2 := [.int .i8 x.e1.op,.string x.e1.t.v,.int .i8 x.e1.t.l.k,.int .i64 x.e1.t.l.n,.string x.e1.t.l.s,.slice A1 x.e1.kids.length c1]) rfl) ho1_ hr1 (by have b_ := colL_len S ([] ++ x.a.args); simp only [List.length_append,List.length_take,List.length_map,List.length_nil,List.length_cons] at b_; omega) hv3) ?_)))))))))
  rintro _ w4 ⟨rfl,hv5⟩
  have hv6 : VS Tryd.prog 122 154 9 3 wz w4 gm gl (colL S (([] ++ x.a.args) ++ exTs 8 x.e1)) := VS.cast hv5 (colL_app S ([] ++ x.a.args) (exTs 8 x.e1)).symm
  refine c_done (n_then (c_reg (s_move (v := .pointer (some ⟨b,o,none⟩)) (ej rfl rfl) (w0 rfl) (s_nilCheck (ej rfl rfl) (w0 rfl) (s_field (off := 10) (o' := o + 10) F_f120_4 (ej rfl rfl) rfl (w0 rfl) (s_iface F_pt168 (ej rfl rfl) (w0 rfl) (s_move (v := .func (.func 111) #[] #[.pointer (some ⟨gm,0,none⟩),.pointer (some ⟨gl,0,none⟩)]) (ej rfl rfl) (w0 rfl) (s_call F_e110 (w0 rfl) ev_f (m2 (ej rfl rfl) (ej rfl rfl)) (args := #[.iface 168 (.pointer (some ⟨b,o + 10,none⟩)),.func (.func 111) #[] #[.pointer (some ⟨gm,0,none⟩),.pointer (some ⟨gl,0,none⟩)]]) rfl (t_walkE gm gl wz 8 x.e2 A2 c2 b (o + 10) (colL S (([] ++ x.a.args) ++ exTs 8 x.e1)) _ hsm2_ (sub_cells hcell 10 (cs2 := [.int .i8 x.e2.op,.string x.e2.t.v,.int .i8 x.e2.t.l.k,.int .i64 x.e2.t.l.n,.string x.e2.t.l.s,.slice A2 x.e2.kids.length c2]) rfl) ho2_ hr2 (by have b_ := colL_len S (([] ++ x.a.args) ++ exTs 8 x.e1); simp only [List.length_append,List.length_take,List.length_map,List.length_nil,List.length_cons] at b_; omega) hv6) ?_))))))))
  rintro _ w7 ⟨rfl,hv8⟩
  have hv9 : VS Tryd.prog 122 154 9 3 wz w7 gm gl (colL S ((([] ++ x.a.args) ++ exTs 8 x.e1) ++ exTs 8 x.e2)) := VS.cast hv8 (colL_app S (([] ++ x.a.args) ++ exTs 8 x.e1) (exTs 8 x.e2)).symm
  refine c_done (n_block (ret0 rfl ?_))
  exact ⟨_,rfl,rfl,VS.cast hv9 (congrArg (colL S) (show ((([] ++ x.a.args) ++ exTs 8 x.e1) ++ exTs 8 x.e2) = ltTs x by unfold ltTs; simp only [List.nil_append]))⟩
theorem t_walkU (x : Ru) (Ah Ab : Option Addr) (ch cb : Nat) (b o gm gl : Nat) (S : List ByteArray) (wz : World) (w : World) (hcell : ∀ (i : Nat) (u : Value),([.string x.p,.slice Ah x.head.length ch,.slice Ab x.body.length cb] : List Value)[i]? = some u → wz.cell? ⟨b,o + i,none⟩ = some u) (ho : x.okc ch cb) (hrh : Row RG 5 wz Ah x.head) (hrb : Row RL 16 wz Ab x.body) (h24 : x.head.length ≤ 24) (h16 : x.body.length ≤ 16) (hbod : ∀ (j : Nat) (y : Lt),x.body[j]? = some y → ltB y = true) (hn : S.length ≤ 100) (hv : VS Tryd.prog 122 154 9 3 wz w gm gl S) :
    Rt Tryd.prog 110 #[.iface 144 (.pointer (some ⟨b,o,none⟩)),.func (.func 111) #[] #[.pointer (some ⟨gm,0,none⟩),.pointer (some ⟨gl,0,none⟩)]] w fun v w' => v = .tuple #[] ∧ VS Tryd.prog 122 154 9 3 wz w' gm gl (colL S (ruTs x)) := by
  refine enter Tryd.func110 rfl (l := [.iface 144 (.pointer (some ⟨b,o,none⟩)),.func (.func 111) #[] #[.pointer (some ⟨gm,0,none⟩),.pointer (some ⟨gl,0,none⟩)]]) rfl Tryd.ntmps110 (Nat.le_of_ble_eq_true rfl) ?_
  have x0 := VS.ext hv
  have hpr_ := Ru.okc.p ho
  have hhl_ := Ru.okc.hl ho
  have hhc_ := Ru.okc.hc ho
  have hbl_ := Ru.okc.bl ho
  have hbc_ := Ru.okc.bc ho
  refine c_seq (c_reg (s_move (v := .iface 144 (.pointer (some ⟨b,o,none⟩))) (ej rfl rfl) (w0 rfl) (c_done (n_then (c_block (c_seq (c_reg (s_is F_pt144 (ej rfl rfl) (w0 rfl) (s_extract (v := .bool true) (ej rfl rfl) rfl (w0 rfl) (s_extract (v := .pointer (some ⟨b,o,none⟩)) (ej rfl rfl) rfl (w0 rfl) (c_done ?_)))))))))))
  refine n_then (c_cond1 (ej rfl rfl) (c_seq (c_reg (s_assign (v := .pointer (some ⟨b,o,none⟩)) (ej rfl rfl) (w0 rfl) (c_done (n_then (c_seq (c_seq (c_reg (s_move (v := .pointer (some ⟨b,o,none⟩)) (ej rfl rfl) (w0 rfl) (s_nilCheck (ej rfl rfl) (w0 rfl) ?_)))))))))))
  refine s_field (off := 1) (o' := o + 1) F_f42_1 (ej rfl rfl) rfl (w0 rfl) (s_load (v := .slice Ah x.head.length ch) F_o39 (ej rfl rfl) ((cells_ext x0 hcell) 1 _ rfl) (w0 rfl) (s_lenL F_l39 (ej rfl rfl) (w0 rfl) (s_move (v := .int .i64 0) ev_c (w0 rfl) (c_done (n_then (c_block (c_loop (α := Nat) (fun (i : Nat) env_ w_ => VS Tryd.prog 122 154 9 3 wz w_ gm gl (colL S ((x.head.take i).map (fun g_ : Ag => g_.t))) ∧ i ≤ x.head.length ∧ env_ 1 = .func (.func 111) #[] #[.pointer (some ⟨gm,0,none⟩),.pointer (some ⟨gl,0,none⟩)] ∧ env_ 4 = .pointer (some ⟨b,o,none⟩) ∧ env_ 20 = .int .i64 (x.head.length : Int) ∧ env_ 21 = .int .i64 ((i : Nat) : Int)) (fun i => x.head.length - i) (0) ⟨(VS.cast hv (congrArg (colL S) (show [] = ((x.head.take 0).map (fun g_ : Ag => g_.t)) by simp))),Nat.zero_le _,rfl,rfl,rfl,rfl⟩ ?_)))))))
  rintro i env3 w1 ⟨x2,i4,e5,e6,e7,e8⟩
  refine c_seq (c_reg (s_cmp (r := decide (((i : Nat) : Int) < (x.head.length : Int))) (ej rfl e8) (ej rfl e7) rfl (w0 rfl) (c_done (n_then (c_seq ?_)))))
  by_cases h9 : ((i : Nat) : Int) < (x.head.length : Int)
  · refine c_cond1 (vb (ej rfl rfl) (decide_eq_true h9)) (c_skip (n_then (c_seq (c_block (c_seq (c_reg (s_move (v := .int .i64 ((i : Nat) : Int)) (ej rfl e8) (w0 rfl) (s_assign (v := .int .i64 ((i : Nat) : Int)) (ej rfl rfl) (w0 rfl) (c_done (n_then (c_reg ?_)))))))))))
    refine s_move (v := .func (.func 111) #[] #[.pointer (some ⟨gm,0,none⟩),.pointer (some ⟨gl,0,none⟩)]) (ej rfl e5) (w0 rfl) (s_move (v := .pointer (some ⟨b,o,none⟩)) (ej rfl e6) (w0 rfl) (s_nilCheck (ej rfl rfl) (w0 rfl) (s_field (off := 1) (o' := o + 1) F_f42_1 (ej rfl rfl) rfl (w0 rfl) (s_load (v := .slice Ah x.head.length ch) F_o39 (ej rfl rfl) ((cells_ext (VS.ext x2) hcell) 1 _ rfl) (w0 rfl) (s_move (v := .int .i64 ((i : Nat) : Int)) (ej rfl rfl) (w0 rfl) ?_)))))
    obtain ⟨b10,o11,x12,csx12,hA13,hx14,hR15,hc16⟩ := Row.at_ hrh i (by omega)
    obtain rfl := agAt_of hx14
    obtain ⟨rfl,wf17⟩ := hR15
    refine s_indexR (j := i) F_l39 (ej rfl rfl) hA13 (ej rfl rfl) rfl (by omega) (w0 rfl) (s_field (off := 1) (o' := o11 + i * 5 + 1) F_f64_1 (ej rfl rfl) rfl (w0 rfl) (s_call F_e111 (w0 rfl) (ej rfl rfl) (m1 (ej rfl rfl)) (args := #[.pointer (some ⟨b10,o11 + i * 5 + 1,none⟩),.pointer (some ⟨gm,0,none⟩),.pointer (some ⟨gl,0,none⟩)]) rfl (t_vars1 ((agAt x.head i).t) b10 (o11 + i * 5 + 1) gm gl (colL S ((x.head.take i).map (fun g_ : Ag => g_.t))) wz _ (sub_cells hc16 1 (cs2 := [.string ((agAt x.head i).t.v),.int .i8 ((agAt x.head i).t.l.k),.int .i64 ((agAt x.head i).t.l.n),.string ((agAt x.head i).t.l.s)]) rfl) (Ag.wf.t wf17) x2 (by have b_ := colL_len S ((x.head.take i).map (fun g_ : Ag => g_.t)); simp only [List.length_append,List.length_take,List.length_map,List.length_nil,List.length_cons] at b_; omega)) ?_))
    rintro _ w18 ⟨rfl,hv19⟩
    have hv20 : VS Tryd.prog 122 154 9 3 wz w18 gm gl (colL S (((x.head.take i).map (fun g_ : Ag => g_.t)) ++ [(agAt x.head i).t])) := VS.cast hv19 (colL_app S ((x.head.take i).map (fun g_ : Ag => g_.t)) [(agAt x.head i).t]).symm
    refine c_done (n_block (n_then (c_reg (s_add (r := ((i + 1 : Nat) : Int)) (ej rfl e8) ev_c (by omega) (by omega) (w0 rfl) (s_move (v := .int .i64 ((i + 1 : Nat) : Int)) (ej rfl rfl) (w0 rfl) (c_done ?_))))))
    exact ⟨(i + 1),_,rfl,⟨(VS.cast hv20 (congrArg (colL S) (show (((x.head.take i).map (fun g_ : Ag => g_.t)) ++ [(agAt x.head i).t]) = ((x.head.take (i + 1)).map (fun g_ : Ag => g_.t)) by exact (hd_step (by omega)).symm))),by omega,e5,e6,e7,rfl⟩,(show x.head.length - (i + 1) < x.head.length - i by omega)⟩
  refine c_cond0 (vb (ej rfl rfl) (decide_eq_false h9)) (c_exit (e_then (e_then (e_hit (n_then (c_seq (c_reg (s_move (v := .pointer (some ⟨b,o,none⟩)) (ej rfl e6) (w0 rfl) (s_nilCheck (ej rfl rfl) (w0 rfl) (s_field (off := 2) (o' := o + 2) F_f42_2 (ej rfl rfl) rfl (w0 rfl) (s_load (v := .slice Ab x.body.length cb) F_o40 (ej rfl rfl) ((cells_ext (VS.ext x2) hcell) 2 _ rfl) (w0 rfl) ?_)))))))))))
  refine s_lenL F_l40 (ej rfl rfl) (w0 rfl) (s_move (v := .int .i64 0) ev_c (w0 rfl) (c_done (n_then (c_block (c_loop (α := Nat) (fun (k : Nat) env_ w_ => VS Tryd.prog 122 154 9 3 wz w_ gm gl (colL S (ruK x k)) ∧ k ≤ x.body.length ∧ env_ 1 = .func (.func 111) #[] #[.pointer (some ⟨gm,0,none⟩),.pointer (some ⟨gl,0,none⟩)] ∧ env_ 4 = .pointer (some ⟨b,o,none⟩) ∧ env_ 38 = .int .i64 (x.body.length : Int) ∧ env_ 39 = .int .i64 ((k : Nat) : Int)) (fun k => x.body.length - k) (0) ⟨(VS.cast x2 (congrArg (colL S) (show ((x.head.take i).map (fun g_ : Ag => g_.t)) = (ruK x 0) by rw [ruK_zero,List.take_of_length_le (by omega)]))),Nat.zero_le _,e5,e6,rfl,rfl⟩ ?_)))))
  rintro k env23 w21 ⟨x22,i24,e25,e26,e27,e28⟩
  refine c_seq (c_reg (s_cmp (r := decide (((k : Nat) : Int) < (x.body.length : Int))) (ej rfl e28) (ej rfl e27) rfl (w0 rfl) (c_done (n_then (c_seq ?_)))))
  by_cases h29 : ((k : Nat) : Int) < (x.body.length : Int)
  · refine c_cond1 (vb (ej rfl rfl) (decide_eq_true h29)) (c_skip (n_then (c_seq (c_block (c_seq (c_reg (s_move (v := .int .i64 ((k : Nat) : Int)) (ej rfl e28) (w0 rfl) (s_assign (v := .int .i64 ((k : Nat) : Int)) (ej rfl rfl) (w0 rfl) (c_done (n_then (c_reg ?_)))))))))))
    refine s_move (v := .pointer (some ⟨b,o,none⟩)) (ej rfl e26) (w0 rfl) (s_nilCheck (ej rfl rfl) (w0 rfl) (s_field (off := 2) (o' := o + 2) F_f42_2 (ej rfl rfl) rfl (w0 rfl) (s_load (v := .slice Ab x.body.length cb) F_o40 (ej rfl rfl) ((cells_ext (VS.ext x22) hcell) 2 _ rfl) (w0 rfl) (s_move (v := .int .i64 ((k : Nat) : Int)) (ej rfl rfl) (w0 rfl) ?_))))
    obtain ⟨b30,o31,x32,csx32,hA33,hx34,hR35,hc36⟩ := Row.at_ hrb k (by omega)
    obtain rfl := ltAt_of hx34
    obtain ⟨Aa37,A38,A39,ca40,c41,c42,rfl,ho43,ra44,r45,r46⟩ := hR35
    have q47_a := Lt.okc.a ho43
    have q47_e1 := Lt.okc.e1 ho43
    have q47_e2 := Lt.okc.e2 ho43
    have := Ex.okc.l q47_e1
    have := Ex.okc.l q47_e2
    have := Ex.okc.c q47_e1
    have := Ex.okc.c q47_e2
    have := At.okc.l q47_a
    have := At.okc.c q47_a
    have := At.okc.p q47_a
    refine s_indexR (j := k) F_l40 (ej rfl rfl) hA33 (ej rfl rfl) rfl (by omega) (w0 rfl) (s_iface F_pt166 (ej rfl rfl) (w0 rfl) (s_move (v := .func (.func 111) #[] #[.pointer (some ⟨gm,0,none⟩),.pointer (some ⟨gl,0,none⟩)]) (ej rfl e25) (w0 rfl) (s_call F_e110 (w0 rfl) ev_f (m2 (ej rfl rfl) (ej rfl rfl)) (args := #[.iface 166 (.pointer (some ⟨b30,o31 + k * 16,none⟩)),.func (.func 111) #[] #[.pointer (some ⟨gm,0,none⟩),.pointer (some ⟨gl,0,none⟩)]]) rfl (t_walkL (ltAt x.body k) Aa37 A38 A39 ca40 c41 c42 b30 (o31 + k * 16) gm gl (colL S (ruK x k)) wz _ hc36 ho43 ra44 r45 r46 (hbod _ _ (ltAt_there (by omega))) (by have b_ := colL_len S (ruK x k); have b2_ := ruK_len hbod k; omega) x22) ?_)))
    rintro _ w48 ⟨rfl,hv49⟩
    have hv50 : VS Tryd.prog 122 154 9 3 wz w48 gm gl (colL S ((ruK x k) ++ ltTs (ltAt x.body k))) := VS.cast hv49 (colL_app S (ruK x k) (ltTs (ltAt x.body k))).symm
    refine c_done (n_block (n_then (c_reg (s_add (r := ((k + 1 : Nat) : Int)) (ej rfl e28) ev_c (by omega) (by omega) (w0 rfl) (s_move (v := .int .i64 ((k + 1 : Nat) : Int)) (ej rfl rfl) (w0 rfl) (c_done ?_))))))
    exact ⟨(k + 1),_,rfl,⟨(VS.cast hv50 (congrArg (colL S) (show ((ruK x k) ++ ltTs (ltAt x.body k)) = (ruK x (k + 1)) by exact (ruK_step (by omega)).symm))),by omega,e25,e26,e27,rfl⟩,(show x.body.length - (k + 1) < x.body.length - k by omega)⟩
  refine c_cond0 (vb (ej rfl rfl) (decide_eq_false h29)) (c_exit (e_then (e_then (e_hit (n_block (ret0 rfl ?_))))))
  exact ⟨_,rfl,rfl,VS.cast x22 (congrArg (colL S) (show (ruK x k) = ruTs x by exact ruK_all (by omega)))⟩
end Go.Proofs.Dw

set_option linter.unusedVariables false
set_option linter.unusedSimpArgs false
set_option maxRecDepth 10000
namespace Go.Proofs.Dw
open Go Go.Wk Go.Proofs Go.Lib
attribute [local irreducible] Go.wpList Go.wpStill Go.wpQuiet Go.Code.wp Go.Calls
theorem F_e63 : enterable Tryd.prog 63 = true := by kernel_rfl
theorem F_e64 : enterable Tryd.prog 64 = true := by kernel_rfl
theorem F_e65 : enterable Tryd.prog 65 = true := by kernel_rfl
theorem F_e91 : enterable Tryd.prog 91 = true := by kernel_rfl
theorem F_f42_0 : fieldAt Tryd.prog 42 0 0 = true := by kernel_rfl
theorem F_m42 : many Tryd.prog 42 3 = true := by kernel_rfl
theorem F_sz120 : (Tryd.prog.info? 120).map (·.size) = some 16 := by kernel_rfl
theorem F_sz154 : (Tryd.prog.info? 154).map (·.size) = some 1 := by kernel_rfl
theorem F_sz64 : (Tryd.prog.info? 64).map (·.size) = some 5 := by kernel_rfl
theorem F_z120 : (Tryd.prog.info? 120).bind (·.zero) = some (.agg #[.int .i8 0,.string (⟨#[]⟩ : ByteArray),.slice none 0 0,.int .i8 0,.int .i8 0,.string (⟨#[]⟩ : ByteArray),.int .i8 0,.int .i64 0,.string (⟨#[]⟩ : ByteArray),.slice none 0 0,.int .i8 0,.string (⟨#[]⟩ : ByteArray),.int .i8 0,.int .i64 0,.string (⟨#[]⟩ : ByteArray),.slice none 0 0]) := by kernel_rfl
theorem F_z122 : (Tryd.prog.info? 122).bind (·.zero) = some (.slice none 0 0) := by kernel_rfl
theorem F_z154 : (Tryd.prog.info? 154).bind (·.zero) = some (.map none) := by kernel_rfl
theorem F_z64 : (Tryd.prog.info? 64).bind (·.zero) = some (.agg #[.int .i8 0,.string (⟨#[]⟩ : ByteArray),.int .i8 0,.int .i64 0,.string (⟨#[]⟩ : ByteArray)]) := by kernel_rfl
theorem t_varsU (x : Ru) (Ah Ab : Option Addr) (ch cb : Nat) (b o : Nat) (w : World) (hcell : ∀ (i : Nat) (u : Value),([.string x.p,.slice Ah x.head.length ch,.slice Ab x.body.length cb] : List Value)[i]? = some u → w.cell? ⟨b,o + i,none⟩ = some u) (ho : x.okc ch cb) (hrh : Row RG 5 w Ah x.head) (hrb : Row RL 16 w Ab x.body) (h24 : x.head.length ≤ 24) (h16 : x.body.length ≤ 16) (hbod : ∀ (j : Nat) (y : Lt),x.body[j]? = some y → ltB y = true) :
    Rt Tryd.prog 91 #[.iface 144 (.pointer (some ⟨b,o,none⟩))] w fun v w' => ∃ A' c',v = .slice A' (rvL x).length c' ∧ Ext w w' := by
  refine enter Tryd.func91 rfl (l := [.iface 144 (.pointer (some ⟨b,o,none⟩))]) rfl Tryd.ntmps91 (Nat.le_of_ble_eq_true rfl) ?_
  have hpr_ := Ru.okc.p ho
  have hhl_ := Ru.okc.hl ho
  have hhc_ := Ru.okc.hc ho
  have hbl_ := Ru.okc.bl ho
  have hbc_ := Ru.okc.bc ho
  refine c_seq (c_reg (s_assign (v := .slice none 0 0) ev_c (w0 rfl) (c_done (n_then (c_seq (c_reg (s_alloc (cs := #[.slice none 0 0]) (w0 rfl) F_z122 rfl ?_)))))))
  intro w2 g1 n3
  refine c_done (n_then (c_seq (c_reg (s_makeMap (w0 rfl) ?_))))
  intro w5 g4 n6
  refine s_alloc (cs := #[.map none]) (w0 rfl) F_z154 rfl ?_
  intro w8 g7 n9
  refine s_store (cs' := #[.map (some g4)]) F_sz154 (ej rfl rfl) (ej rfl rfl) (l := [.map (some g4)]) rfl rfl rfl (NewB.blk n9) (Nat.le_of_ble_eq_true rfl) rfl (w0 rfl) ?_
  intro w10 k11
  refine c_done (n_then (c_seq (c_reg (s_move (v := .iface 144 (.pointer (some ⟨b,o,none⟩))) (ej rfl rfl) (w0 rfl) (s_makeFunc (vf := #[]) (vc := #[.pointer (some ⟨g7,0,none⟩),.pointer (some ⟨g1,0,none⟩)]) m0 (m2 (ej rfl rfl) (ej rfl rfl)) (w0 rfl) ?_)))))
  have hv12 : VS Tryd.prog 122 154 9 3 w w10 g7 g1 [] := ⟨(Keep.then_ (Ext.trans (Ext.trans (NewB.ext n3) (NewB.ext n6)) (NewB.ext n9)) (Wrote.keep k11) (fun i_ hi_ h_ => by have a_ := NewB.eq n9; have b_ := Keep.size (Ext.trans (NewB.ext n3) (NewB.ext n6)); omega)),(by have a_ := NewB.eq n3; have b_ := (Nat.le_refl 0); omega),(by have a_ := NewB.eq n9; have b_ := (Nat.le_trans (Keep.size (NewB.ext n3)) (Keep.size (NewB.ext n6))); omega),none,0,g4,(Ext.blk (Keep.then_ (Ext.trans (NewB.ext n6) (NewB.ext n9)) (Wrote.keep k11) (fun i_ hi_ h_ => by have a_ := NewB.eq n9; have b_ := Keep.size (NewB.ext n6); omega)) (NewB.blk n3)),(Wrote.blk k11),own_nil _ _ _,omap_nil (Ext.blk (Keep.then_ (NewB.ext n9) (Wrote.keep k11) (fun i_ hi_ h_ => by have a_ := NewB.eq n9; have b_ := Keep.size (Ext.refl w5); omega)) (NewB.blk n6)),(by have a_ := NewB.eq n6; have b_ := (Keep.size (NewB.ext n3)); omega)⟩
  refine s_call F_e110 (w0 rfl) ev_f (m2 (ej rfl rfl) (ej rfl rfl)) (args := #[.iface 144 (.pointer (some ⟨b,o,none⟩)),.func (.func 111) #[] #[.pointer (some ⟨g7,0,none⟩),.pointer (some ⟨g1,0,none⟩)]]) rfl (t_walkU x Ah Ab ch cb b o g7 g1 [] w _ hcell ho hrh hrb h24 h16 hbod (by decide) hv12) ?_
  rintro _ w13 ⟨rfl,hv14⟩
  have hv15 : VS Tryd.prog 122 154 9 3 w w13 g7 g1 (colL [] ([] ++ ruTs x)) := VS.cast hv14 (colL_app [] [] (ruTs x)).symm
  obtain ⟨A16,c17,mb18,h19,_⟩ := VS.st hv15
  refine c_done (n_then (c_seq (c_reg (s_load (v := .slice A16 ((colL [] ([] ++ ruTs x)).length) c17) F_o122 (ej rfl rfl) (cell_of_blk (i := 0) h19 rfl) (w0 rfl) (s_assign (v := .slice A16 ((colL [] ([] ++ ruTs x)).length) c17) (ej rfl rfl) (w0 rfl) (c_done (n_then (c_ret (ret1 (v := .slice A16 ((colL [] ([] ++ ruTs x)).length) c17) rfl rfl rfl ?_)))))))))
  exact ⟨_,rfl,A16,c17,rfl,(VS.ext hv15)⟩
theorem t_RuleVars (x : Ru) (Ah Ab : Option Addr) (ch cb : Nat) (w : World) (ho : x.okc ch cb) (hrh : Row RG 5 w Ah x.head) (hrb : Row RL 16 w Ab x.body) (h24 : x.head.length ≤ 24) (h16 : x.body.length ≤ 16) (hbod : ∀ (j : Nat) (y : Lt),x.body[j]? = some y → ltB y = true) :
    Rt Tryd.prog 65 #[.agg #[.string x.p,.slice Ah x.head.length ch,.slice Ab x.body.length cb]] w fun v w' => ∃ A' c',v = .slice A' (rvL x).length c' ∧ Ext w w' := by
  refine enter Tryd.func65 rfl (l := [.agg #[.string x.p,.slice Ah x.head.length ch,.slice Ab x.body.length cb]]) rfl Tryd.ntmps65 (Nat.le_of_ble_eq_true rfl) ?_
  have hpr_ := Ru.okc.p ho
  have hhl_ := Ru.okc.hl ho
  have hhc_ := Ru.okc.hc ho
  have hbl_ := Ru.okc.bl ho
  have hbc_ := Ru.okc.bc ho
  refine c_seq (c_reg (s_box (v := .agg #[.string x.p,.slice Ah x.head.length ch,.slice Ab x.body.length cb]) (cs := #[.string x.p,.slice Ah x.head.length ch,.slice Ab x.body.length cb]) (w0 rfl) (ej rfl rfl) rfl ?_))
  intro w2 g1 n3
  refine s_assign (v := .slice none 0 0) ev_c (w0 rfl) (c_done (n_then (c_seq (c_reg (s_iface F_pt144 (ej rfl rfl) (w0 rfl) (s_call F_e91 (w0 rfl) ev_f (m1 (ej rfl rfl)) (args := #[.iface 144 (.pointer (some ⟨g1,0,none⟩))]) rfl (t_varsU x Ah Ab ch cb g1 0 _ (blk_cells (NewB.blk n3) 0 (cs := [.string x.p,.slice Ah x.head.length ch,.slice Ab x.body.length cb]) rfl) ho (Row.extG hrh (NewB.ext n3)) (Row.extL hrb (NewB.ext n3)) h24 h16 hbod) ?_))))))
  rintro _ w6 ⟨A4,c5,rfl,x7⟩
  refine s_assign (v := .slice A4 ((rvL x).length) c5) (ej rfl rfl) (w0 rfl) (c_done (n_then (c_ret (ret1 (v := .slice A4 ((rvL x).length) c5) rfl rfl rfl ?_))))
  exact ⟨_,rfl,A4,c5,rfl,(Ext.trans (NewB.ext n3) x7)⟩
theorem t_CheckRule (x : Ru) (Ah Ab : Option Addr) (ch cb : Nat) (w : World) (ho : x.okc ch cb) (hrh : Row RG 5 w Ah x.head) (hrb : Row RL 16 w Ab x.body) :
    Rt Tryd.prog 33 #[.agg #[.string x.p,.slice Ah x.head.length ch,.slice Ab x.body.length cb]] w fun v w' => v = .int .i64 (code (ruB x)) ∧ Ext w w' := by
  refine enter Tryd.func33 rfl (l := [.agg #[.string x.p,.slice Ah x.head.length ch,.slice Ab x.body.length cb]]) rfl Tryd.ntmps33 (Nat.le_of_ble_eq_true rfl) ?_
  have hpr_ := Ru.okc.p ho
  have hhl_ := Ru.okc.hl ho
  have hhc_ := Ru.okc.hc ho
  have hbl_ := Ru.okc.bl ho
  have hbc_ := Ru.okc.bc ho
  refine c_seq (c_reg (s_box (v := .agg #[.string x.p,.slice Ah x.head.length ch,.slice Ab x.body.length cb]) (cs := #[.string x.p,.slice Ah x.head.length ch,.slice Ab x.body.length cb]) (w0 rfl) (ej rfl rfl) rfl ?_))
  intro w2 g1 n3
  refine s_assign (v := .int .i64 0) ev_c (w0 rfl) (c_done (n_then (c_seq (c_seq (c_reg (s_field (off := 0) (o' := 0) F_f42_0 (ej rfl rfl) rfl (w0 rfl) (s_load (v := .string x.p) F_o9 (ej rfl rfl) (cell_of_blk (i := 0) (NewB.blk n3) rfl) (w0 rfl) (s_call F_e62 (w0 rfl) ev_f (m1 (ej rfl rfl)) (args := #[.string x.p]) rfl (t_name x.p _ (by omega)) ?_))))))))
  rintro _ w5 ⟨rfl,x4⟩
  refine s_not (b := nameB x.p) (ej rfl rfl) (w0 rfl) ?_
  rcases Bool.eq_false_or_eq_true (nameB x.p) with h6 | h6
  · refine s_move (v := .bool false) (vb (ej rfl rfl) (nbt h6)) (w0 rfl) (s_field (off := 1) (o' := 1) F_f42_1 (ej rfl rfl) rfl (wy rfl rfl rfl rfl) (s_load (v := .slice Ah x.head.length ch) F_o39 (ej rfl rfl) (cell_of_blk (i := 1) (Ext.blk x4 (NewB.blk n3)) rfl) (wy rfl rfl rfl rfl) (s_lenL F_l39 (ej rfl rfl) (wy rfl rfl rfl rfl) (s_cmp (r := decide (24 < (x.head.length : Int))) (ej rfl rfl) ev_c rfl (wy rfl rfl rfl rfl) (s_pick0 (v := .bool (decide (24 < (x.head.length : Int)))) (ej rfl rfl) (ej rfl rfl) (w0 rfl) ?_)))))
    by_cases h7 : 24 < (x.head.length : Int)
    · refine s_move (v := .bool true) (vb (ej rfl rfl) (decide_eq_true h7)) (w0 rfl) (s_skip (wn rfl rfl rfl rfl rfl) (s_skip (wn rfl rfl rfl rfl rfl) (s_skip (wn rfl rfl rfl rfl rfl) (s_skip (wn rfl rfl rfl rfl rfl) (s_pick1 (v := .bool true) (ej rfl rfl) ev_c (w0 rfl) (c_done (n_then (c_cond1 (ej rfl rfl) (c_seq (c_reg (s_assign (v := .int .i64 40) ev_c (w0 rfl) ?_)))))))))))
      refine c_done (n_then (c_ret (r_then (ret1 (v := .int .i64 40) rfl rfl rfl ?_))))
      refine ⟨_,rfl,?_,(Ext.trans (NewB.ext n3) x4)⟩
      (refine congrArg (Value.int .i64) ?_; unfold ruB; first | (((try simp only [*,decide_true,decide_false,if_true,if_false,Bool.and_true,Bool.true_and,Bool.false_and,Bool.and_false,Bool.not_true,Bool.not_false,Bool.false_eq_true,reduceIte,not_true_eq_false,not_false_eq_true]); first | done | rfl); done) | (rw [all_no (agAt_there (l := x.head) (j := i) (by omega)) (by assumption)]; simp only [Bool.and_false,Bool.false_and]; first | done | rfl | (simp only [*]; done)) | (rw [all_no (ltAt_there (l := x.body) (j := k) (by omega)) (by assumption)]; simp only [Bool.and_false,Bool.false_and]; first | done | rfl | (simp only [*]; done)) | (rw [show decide ((x.head.length : Int) ≤ 24) = false from decide_eq_false (by omega)]; simp only [Bool.and_false,Bool.false_and]; first | done | rfl | (simp only [*]; done)) | (rw [show decide ((x.body.length : Int) ≤ 16) = false from decide_eq_false (by omega)]; simp only [Bool.and_false,Bool.false_and]; first | done | rfl | (simp only [*]; done)) | (rw [show decide ((x.head.length : Int) ≤ 24) = true from decide_eq_true (by omega),show decide ((x.body.length : Int) ≤ 16) = true from decide_eq_true (by omega)]; ((try simp only [*,decide_true,decide_false,if_true,if_false,Bool.and_true,Bool.true_and,Bool.false_and,Bool.and_false,Bool.not_true,Bool.not_false,Bool.false_eq_true,reduceIte,not_true_eq_false,not_false_eq_true]); first | done | rfl); done))
    refine s_move (v := .bool false) (vb (ej rfl rfl) (decide_eq_false h7)) (w0 rfl) (s_field (off := 2) (o' := 2) F_f42_2 (ej rfl rfl) rfl (wy rfl rfl rfl rfl) (s_load (v := .slice Ab x.body.length cb) F_o40 (ej rfl rfl) (cell_of_blk (i := 2) (Ext.blk x4 (NewB.blk n3)) rfl) (wy rfl rfl rfl rfl) (s_lenL F_l40 (ej rfl rfl) (wy rfl rfl rfl rfl) (s_cmp (r := decide (16 < (x.body.length : Int))) (ej rfl rfl) ev_c rfl (wy rfl rfl rfl rfl) (s_pick0 (v := .bool (decide (16 < (x.body.length : Int)))) (ej rfl rfl) (ej rfl rfl) (w0 rfl) (c_done (n_then ?_)))))))
    by_cases h8 : 16 < (x.body.length : Int)
    · refine c_cond1 (vb (ej rfl rfl) (decide_eq_true h8)) (c_seq (c_reg (s_assign (v := .int .i64 40) ev_c (w0 rfl) (c_done (n_then (c_ret (r_then (ret1 (v := .int .i64 40) rfl rfl rfl ?_))))))))
      refine ⟨_,rfl,?_,(Ext.trans (NewB.ext n3) x4)⟩
      (refine congrArg (Value.int .i64) ?_; unfold ruB; first | (((try simp only [*,decide_true,decide_false,if_true,if_false,Bool.and_true,Bool.true_and,Bool.false_and,Bool.and_false,Bool.not_true,Bool.not_false,Bool.false_eq_true,reduceIte,not_true_eq_false,not_false_eq_true]); first | done | rfl); done) | (rw [all_no (agAt_there (l := x.head) (j := i) (by omega)) (by assumption)]; simp only [Bool.and_false,Bool.false_and]; first | done | rfl | (simp only [*]; done)) | (rw [all_no (ltAt_there (l := x.body) (j := k) (by omega)) (by assumption)]; simp only [Bool.and_false,Bool.false_and]; first | done | rfl | (simp only [*]; done)) | (rw [show decide ((x.head.length : Int) ≤ 24) = false from decide_eq_false (by omega)]; simp only [Bool.and_false,Bool.false_and]; first | done | rfl | (simp only [*]; done)) | (rw [show decide ((x.body.length : Int) ≤ 16) = false from decide_eq_false (by omega)]; simp only [Bool.and_false,Bool.false_and]; first | done | rfl | (simp only [*]; done)) | (rw [show decide ((x.head.length : Int) ≤ 24) = true from decide_eq_true (by omega),show decide ((x.body.length : Int) ≤ 16) = true from decide_eq_true (by omega)]; ((try simp only [*,decide_true,decide_false,if_true,if_false,Bool.and_true,Bool.true_and,Bool.false_and,Bool.and_false,Bool.not_true,Bool.not_false,Bool.false_eq_true,reduceIte,not_true_eq_false,not_false_eq_true]); first | done | rfl); done))
    refine c_cond0 (vb (ej rfl rfl) (decide_eq_false h8)) (c_skip (n_then (c_seq (c_seq (c_reg (s_field (off := 1) (o' := 1) F_f42_1 (ej rfl rfl) rfl (w0 rfl) (s_load (v := .slice Ah x.head.length ch) F_o39 (ej rfl rfl) (cell_of_blk (i := 1) (Ext.blk x4 (NewB.blk n3)) rfl) (w0 rfl) (s_lenL F_l39 (ej rfl rfl) (w0 rfl) (s_move (v := .int .i64 0) ev_c (w0 rfl) (c_done (n_then ?_)))))))))))
    refine c_block ?_
    refine c_loop (α := Nat) (fun (i : Nat) env_ w_ => Ext w5 w_ ∧ i ≤ x.head.length ∧ (∀ j y,j < i → x.head[j]? = some y → argB y = true) ∧ env_ 1 = .pointer (some ⟨g1,0,none⟩) ∧ env_ 25 = .slice Ah x.head.length ch ∧ env_ 26 = .int .i64 (x.head.length : Int) ∧ env_ 27 = .int .i64 ((i : Nat) : Int)) (fun i => x.head.length - i) (0) ⟨Ext.refl _,Nat.zero_le _,(fun j y h => absurd h (Nat.not_lt_zero j)),rfl,rfl,rfl,rfl⟩ ?_
    rintro i env11 w9 ⟨x10,i12,i13,e14,e15,e16,e17⟩
    refine c_seq (c_reg (s_cmp (r := decide (((i : Nat) : Int) < (x.head.length : Int))) (ej rfl e17) (ej rfl e16) rfl (w0 rfl) (c_done (n_then (c_seq ?_)))))
    by_cases h18 : ((i : Nat) : Int) < (x.head.length : Int)
    · refine c_cond1 (vb (ej rfl rfl) (decide_eq_true h18)) (c_skip (n_then (c_seq (c_block (c_seq (c_reg ?_))))))
      obtain ⟨b19,o20,x21,csx21,hA22,hx23,hR24,hc25⟩ := Row.at_ hrh i (by omega)
      obtain rfl := agAt_of hx23
      obtain ⟨rfl,wf26⟩ := hR24
      refine s_indexR (j := i) F_l39 (ej rfl e15) hA22 (ej rfl e17) rfl (by omega) (w0 rfl) (s_loadL (cs := [.int .i8 ((agAt x.head i).k),.string ((agAt x.head i).t.v),.int .i8 ((agAt x.head i).t.l.k),.int .i64 ((agAt x.head i).t.l.n),.string ((agAt x.head i).t.l.s)]) F_m64 (ej rfl rfl) rfl rfl (sub_cells (cells_ext x10 (cells_ext x4 (cells_ext (NewB.ext n3) hc25))) 0 rfl) (w0 rfl) (s_alloc (cs := #[.int .i8 0,.string (⟨#[]⟩ : ByteArray),.int .i8 0,.int .i64 0,.string (⟨#[]⟩ : ByteArray)]) (w0 rfl) F_z64 rfl ?_))
      intro w28 g27 n29
      refine s_store (cs' := #[.int .i8 ((agAt x.head i).k),.string ((agAt x.head i).t.v),.int .i8 ((agAt x.head i).t.l.k),.int .i64 ((agAt x.head i).t.l.n),.string ((agAt x.head i).t.l.s)]) F_sz64 (ej rfl rfl) (ej rfl rfl) (l := [.int .i8 ((agAt x.head i).k),.string ((agAt x.head i).t.v),.int .i8 ((agAt x.head i).t.l.k),.int .i64 ((agAt x.head i).t.l.n),.string ((agAt x.head i).t.l.s)]) rfl rfl rfl (NewB.blk n29) (Nat.le_of_ble_eq_true rfl) rfl (w0 rfl) ?_
      intro w30 k31
      refine c_done (n_then (c_seq (c_reg (s_loadL (cs := [.int .i8 ((agAt x.head i).k),.string ((agAt x.head i).t.v),.int .i8 ((agAt x.head i).t.l.k),.int .i64 ((agAt x.head i).t.l.n),.string ((agAt x.head i).t.l.s)]) F_m64 (ej rfl rfl) rfl rfl (blk_cells (Wrote.blk k31) 0 rfl) (w0 rfl) (s_call F_e63 (w0 rfl) ev_f (m1 (ej rfl rfl)) (args := #[.agg #[.int .i8 ((agAt x.head i).k),.string ((agAt x.head i).t.v),.int .i8 ((agAt x.head i).t.l.k),.int .i64 ((agAt x.head i).t.l.n),.string ((agAt x.head i).t.l.s)]]) rfl (t_argument (agAt x.head i) _ wf26) ?_)))))
      rintro _ w33 ⟨rfl,x32⟩
      refine s_not (b := argB (agAt x.head i)) (ej rfl rfl) (w0 rfl) (c_done (n_then ?_))
      rcases Bool.eq_false_or_eq_true (argB (agAt x.head i)) with h34 | h34
      · refine c_cond0 (vb (ej rfl rfl) (nbt h34)) (c_skip (n_block (n_then (c_reg (s_add (r := ((i + 1 : Nat) : Int)) (ej rfl e17) ev_c (by omega) (by omega) (w0 rfl) (s_move (v := .int .i64 ((i + 1 : Nat) : Int)) (ej rfl rfl) (w0 rfl) (c_done ?_)))))))
        exact ⟨(i + 1),_,rfl,⟨(Ext.trans (Keep.then_ (Ext.trans x10 (NewB.ext n29)) (Wrote.keep k31) (fun i_ hi_ h_ => by have a_ := NewB.eq n29; have b_ := Keep.size x10; omega)) x32),by omega,(kids_step i13 (agAt_there (by omega)) (by assumption)),e14,e15,e16,rfl⟩,(show x.head.length - (i + 1) < x.head.length - i by omega)⟩
      refine c_cond1 (vb (ej rfl rfl) (nbf h34)) (c_seq (c_reg (s_assign (v := .int .i64 40) ev_c (w0 rfl) (c_done (n_then (c_ret (r_block (r_then (r_then (r_block (r_then ?_)))))))))))
      refine ret1 (v := .int .i64 40) rfl rfl rfl ?_
      refine ⟨_,rfl,?_,(Ext.trans (Keep.then_ (Ext.trans (Ext.trans (Ext.trans (NewB.ext n3) x4) x10) (NewB.ext n29)) (Wrote.keep k31) (fun i_ hi_ h_ => by have a_ := NewB.eq n29; have b_ := Keep.size (Ext.trans (Ext.trans (NewB.ext n3) x4) x10); omega)) x32)⟩
      (refine congrArg (Value.int .i64) ?_; unfold ruB; first | (((try simp only [*,decide_true,decide_false,if_true,if_false,Bool.and_true,Bool.true_and,Bool.false_and,Bool.and_false,Bool.not_true,Bool.not_false,Bool.false_eq_true,reduceIte,not_true_eq_false,not_false_eq_true]); first | done | rfl); done) | (rw [all_no (agAt_there (l := x.head) (j := i) (by omega)) (by assumption)]; simp only [Bool.and_false,Bool.false_and]; first | done | rfl | (simp only [*]; done)) | (rw [all_no (ltAt_there (l := x.body) (j := k) (by omega)) (by assumption)]; simp only [Bool.and_false,Bool.false_and]; first | done | rfl | (simp only [*]; done)) | (rw [show decide ((x.head.length : Int) ≤ 24) = false from decide_eq_false (by omega)]; simp only [Bool.and_false,Bool.false_and]; first | done | rfl | (simp only [*]; done)) | (rw [show decide ((x.body.length : Int) ≤ 16) = false from decide_eq_false (by omega)]; simp only [Bool.and_false,Bool.false_and]; first | done | rfl | (simp only [*]; done)) | (rw [show decide ((x.head.length : Int) ≤ 24) = true from decide_eq_true (by omega),show decide ((x.body.length : Int) ≤ 16) = true from decide_eq_true (by omega)]; ((try simp only [*,decide_true,decide_false,if_true,if_false,Bool.and_true,Bool.true_and,Bool.false_and,Bool.and_false,Bool.not_true,Bool.not_false,Bool.false_eq_true,reduceIte,not_true_eq_false,not_false_eq_true]); first | done | rfl); done))
    refine c_cond0 (vb (ej rfl rfl) (decide_eq_false h18)) (c_exit (e_then (e_then (e_hit (n_then (c_seq (c_seq (c_reg (s_field (off := 2) (o' := 2) F_f42_2 (ej rfl e14) rfl (w0 rfl) (s_load (v := .slice Ab x.body.length cb) F_o40 (ej rfl rfl) (cell_of_blk (i := 2) (Ext.blk x10 (Ext.blk x4 (NewB.blk n3))) rfl) (w0 rfl) (s_lenL F_l40 (ej rfl rfl) (w0 rfl) ?_)))))))))))
    refine s_move (v := .int .i64 0) ev_c (w0 rfl) (c_done (n_then (c_block ?_)))
    have hall_ : x.head.all argB = true := all_yes (by omega) i13
    refine c_loop (α := Nat) (fun (k : Nat) env_ w_ => Ext w9 w_ ∧ k ≤ x.body.length ∧ (∀ j y,j < k → x.body[j]? = some y → ltB y = true) ∧ env_ 1 = .pointer (some ⟨g1,0,none⟩) ∧ env_ 36 = .slice Ab x.body.length cb ∧ env_ 37 = .int .i64 (x.body.length : Int) ∧ env_ 38 = .int .i64 ((k : Nat) : Int)) (fun k => x.body.length - k) (0) ⟨Ext.refl _,Nat.zero_le _,(fun j y h => absurd h (Nat.not_lt_zero j)),e14,rfl,rfl,rfl⟩ ?_
    rintro k env37 w35 ⟨x36,i38,i39,e40,e41,e42,e43⟩
    refine c_seq (c_reg (s_cmp (r := decide (((k : Nat) : Int) < (x.body.length : Int))) (ej rfl e43) (ej rfl e42) rfl (w0 rfl) (c_done (n_then (c_seq ?_)))))
    by_cases h44 : ((k : Nat) : Int) < (x.body.length : Int)
    · refine c_cond1 (vb (ej rfl rfl) (decide_eq_true h44)) (c_skip (n_then (c_seq (c_block (c_seq (c_reg ?_))))))
      obtain ⟨b45,o46,x47,csx47,hA48,hx49,hR50,hc51⟩ := Row.at_ hrb k (by omega)
      obtain rfl := ltAt_of hx49
      obtain ⟨Aa52,A53,A54,ca55,c56,c57,rfl,ho58,ra59,r60,r61⟩ := hR50
      have q62_a := Lt.okc.a ho58
      have q62_e1 := Lt.okc.e1 ho58
      have q62_e2 := Lt.okc.e2 ho58
      have := Ex.okc.l q62_e1
      have := Ex.okc.l q62_e2
      have := Ex.okc.c q62_e1
      have := Ex.okc.c q62_e2
      have := At.okc.l q62_a
      have := At.okc.c q62_a
      have := At.okc.p q62_a
      refine s_indexR (j := k) F_l40 (ej rfl e41) hA48 (ej rfl e43) rfl (by omega) (w0 rfl) (s_loadL (cs := [.int .i8 ((ltAt x.body k).k),.string ((ltAt x.body k).a.p),.slice Aa52 ((ltAt x.body k).a.args.length) ca55,.int .i8 ((ltAt x.body k).r),.int .i8 ((ltAt x.body k).e1.op),.string ((ltAt x.body k).e1.t.v),.int .i8 ((ltAt x.body k).e1.t.l.k),.int .i64 ((ltAt x.body k).e1.t.l.n),.string ((ltAt x.body k).e1.t.l.s),.slice A53 ((ltAt x.body k).e1.kids.length) c56,.int .i8 ((ltAt x.body k).e2.op),.string ((ltAt x.body k).e2.t.v),.int .i8 ((ltAt x.body k).e2.t.l.k),.int .i64 ((ltAt x.body k).e2.t.l.n),.string ((ltAt x.body k).e2.t.l.s),.slice A54 ((ltAt x.body k).e2.kids.length) c57]) F_m120 (ej rfl rfl) rfl rfl (sub_cells (cells_ext x36 (cells_ext x10 (cells_ext x4 (cells_ext (NewB.ext n3) hc51)))) 0 rfl) (w0 rfl) (s_alloc (cs := #[.int .i8 0,.string (⟨#[]⟩ : ByteArray),.slice none 0 0,.int .i8 0,.int .i8 0,.string (⟨#[]⟩ : ByteArray),.int .i8 0,.int .i64 0,.string (⟨#[]⟩ : ByteArray),.slice none 0 0,.int .i8 0,.string (⟨#[]⟩ : ByteArray),.int .i8 0,.int .i64 0,.string (⟨#[]⟩ : ByteArray),.slice none 0 0]) (w0 rfl) F_z120 rfl ?_))
      intro w64 g63 n65
      refine s_store (cs' := #[.int .i8 ((ltAt x.body k).k),.string ((ltAt x.body k).a.p),.slice Aa52 ((ltAt x.body k).a.args.length) ca55,.int .i8 ((ltAt x.body k).r),.int .i8 ((ltAt x.body k).e1.op),.string ((ltAt x.body k).e1.t.v),.int .i8 ((ltAt x.body k).e1.t.l.k),.int .i64 ((ltAt x.body k).e1.t.l.n),.string ((ltAt x.body k).e1.t.l.s),.slice A53 ((ltAt x.body k).e1.kids.length) c56,.int .i8 ((ltAt x.body k).e2.op),.string ((ltAt x.body k).e2.t.v),.int .i8 ((ltAt x.body k).e2.t.l.k),.int .i64 ((ltAt x.body k).e2.t.l.n),.string ((ltAt x.body k).e2.t.l.s),.slice A54 ((ltAt x.body k).e2.kids.length) c57]) F_sz120 (ej rfl rfl) (ej rfl rfl) (l := [.int .i8 ((ltAt x.body k).k),.string ((ltAt x.body k).a.p),.slice Aa52 ((ltAt x.body k).a.args.length) ca55,.int .i8 ((ltAt x.body k).r),.int .i8 ((ltAt x.body k).e1.op),.string ((ltAt x.body k).e1.t.v),.int .i8 ((ltAt x.body k).e1.t.l.k),.int .i64 ((ltAt x.body k).e1.t.l.n),.string ((ltAt x.body k).e1.t.l.s),.slice A53 ((ltAt x.body k).e1.kids.length) c56,.int .i8 ((ltAt x.body k).e2.op),.string ((ltAt x.body k).e2.t.v),.int .i8 ((ltAt x.body k).e2.t.l.k),.int .i64 ((ltAt x.body k).e2.t.l.n),.string ((ltAt x.body k).e2.t.l.s),.slice A54 ((ltAt x.body k).e2.kids.length) c57]) rfl rfl rfl (NewB.blk n65) (Nat.le_of_ble_eq_true rfl) rfl (w0 rfl) ?_
      intro w66 k67
      refine c_done (n_then (c_seq (c_reg (s_loadL (cs := [.int .i8 ((ltAt x.body k).k),.string ((ltAt x.body k).a.p),.slice Aa52 ((ltAt x.body k).a.args.length) ca55,.int .i8 ((ltAt x.body k).r),.int .i8 ((ltAt x.body k).e1.op),.string ((ltAt x.body k).e1.t.v),.int .i8 ((ltAt x.body k).e1.t.l.k),.int .i64 ((ltAt x.body k).e1.t.l.n),.string ((ltAt x.body k).e1.t.l.s),.slice A53 ((ltAt x.body k).e1.kids.length) c56,.int .i8 ((ltAt x.body k).e2.op),.string ((ltAt x.body k).e2.t.v),.int .i8 ((ltAt x.body k).e2.t.l.k),.int .i64 ((ltAt x.body k).e2.t.l.n),.string ((ltAt x.body k).e2.t.l.s),.slice A54 ((ltAt x.body k).e2.kids.length) c57]) F_m120 (ej rfl rfl) rfl rfl (blk_cells (Wrote.blk k67) 0 rfl) (w0 rfl) (s_call F_e64 (w0 rfl) ev_f (m1 (ej rfl rfl)) (args := #[.agg #[.int .i8 ((ltAt x.body k).k),.string ((ltAt x.body k).a.p),.slice Aa52 ((ltAt x.body k).a.args.length) ca55,.int .i8 ((ltAt x.body k).r),.int .i8 ((ltAt x.body k).e1.op),.string ((ltAt x.body k).e1.t.v),.int .i8 ((ltAt x.body k).e1.t.l.k),.int .i64 ((ltAt x.body k).e1.t.l.n),.string ((ltAt x.body k).e1.t.l.s),.slice A53 ((ltAt x.body k).e1.kids.length) c56,.int .i8 ((ltAt x.body k).e2.op),.string ((ltAt x.body k).e2.t.v),.int .i8 ((ltAt x.body k).e2.t.l.k),.int .i64 ((ltAt x.body k).e2.t.l.n),.string ((ltAt x.body k).e2.t.l.s),.slice A54 ((ltAt x.body k).e2.kids.length) c57]]) rfl (t_CheckLiteral (ltAt x.body k) Aa52 A53 A54 ca55 c56 c57 _ ho58 (Row.extT ra59 (Keep.then_ (Ext.trans (Ext.trans (Ext.trans (Ext.trans (NewB.ext n3) x4) x10) x36) (NewB.ext n65)) (Wrote.keep k67) (fun i_ hi_ h_ => by have a_ := NewB.eq n65; have b_ := Keep.size (Ext.trans (Ext.trans (Ext.trans (NewB.ext n3) x4) x10) x36); omega))) (Row.extE r60 (Keep.then_ (Ext.trans (Ext.trans (Ext.trans (Ext.trans (NewB.ext n3) x4) x10) x36) (NewB.ext n65)) (Wrote.keep k67) (fun i_ hi_ h_ => by have a_ := NewB.eq n65; have b_ := Keep.size (Ext.trans (Ext.trans (Ext.trans (NewB.ext n3) x4) x10) x36); omega))) (Row.extE r61 (Keep.then_ (Ext.trans (Ext.trans (Ext.trans (Ext.trans (NewB.ext n3) x4) x10) x36) (NewB.ext n65)) (Wrote.keep k67) (fun i_ hi_ h_ => by have a_ := NewB.eq n65; have b_ := Keep.size (Ext.trans (Ext.trans (Ext.trans (NewB.ext n3) x4) x10) x36); omega)))) ?_)))))
      rintro _ w69 ⟨rfl,x68⟩
      refine s_assign (v := .int .i64 (code (ltB (ltAt x.body k)))) (ej rfl rfl) (w0 rfl) (c_done (n_then (c_seq (c_reg (s_move (v := .int .i64 (code (ltB (ltAt x.body k)))) (ej rfl rfl) (w0 rfl) (s_cmp (r := !(ltB (ltAt x.body k))) (ej rfl rfl) ev_c (ci_tn (b := (ltB (ltAt x.body k))) (by decide)) (w0 rfl) (c_done (n_then ?_))))))))
      rcases Bool.eq_false_or_eq_true (ltB (ltAt x.body k)) with h70 | h70
      · refine c_cond0 (vb (ej rfl rfl) (nbt h70)) (c_skip (n_block (n_then (c_reg (s_add (r := ((k + 1 : Nat) : Int)) (ej rfl e43) ev_c (by omega) (by omega) (w0 rfl) (s_move (v := .int .i64 ((k + 1 : Nat) : Int)) (ej rfl rfl) (w0 rfl) (c_done ?_)))))))
        exact ⟨(k + 1),_,rfl,⟨(Ext.trans (Keep.then_ (Ext.trans x36 (NewB.ext n65)) (Wrote.keep k67) (fun i_ hi_ h_ => by have a_ := NewB.eq n65; have b_ := Keep.size x36; omega)) x68),by omega,(kids_step i39 (ltAt_there (by omega)) (by assumption)),e40,e41,e42,rfl⟩,(show x.body.length - (k + 1) < x.body.length - k by omega)⟩
      refine c_cond1 (vb (ej rfl rfl) (nbf h70)) (c_seq (c_reg (s_move (v := .int .i64 (code (ltB (ltAt x.body k)))) (ej rfl rfl) (w0 rfl) (s_assign (v := .int .i64 (code (ltB (ltAt x.body k)))) (ej rfl rfl) (w0 rfl) (c_done (n_then (c_ret (r_block (r_then (r_then (r_block ?_)))))))))))
      refine r_then (ret1 (v := .int .i64 (code (ltB (ltAt x.body k)))) rfl rfl rfl ?_)
      refine ⟨_,rfl,?_,(Ext.trans (Keep.then_ (Ext.trans (Ext.trans (Ext.trans (Ext.trans (NewB.ext n3) x4) x10) x36) (NewB.ext n65)) (Wrote.keep k67) (fun i_ hi_ h_ => by have a_ := NewB.eq n65; have b_ := Keep.size (Ext.trans (Ext.trans (Ext.trans (NewB.ext n3) x4) x10) x36); omega)) x68)⟩
      (refine congrArg (Value.int .i64) ?_; unfold ruB; first | (((try simp only [*,decide_true,decide_false,if_true,if_false,Bool.and_true,Bool.true_and,Bool.false_and,Bool.and_false,Bool.not_true,Bool.not_false,Bool.false_eq_true,reduceIte,not_true_eq_false,not_false_eq_true]); first | done | rfl); done) | (rw [all_no (agAt_there (l := x.head) (j := i) (by omega)) (by assumption)]; simp only [Bool.and_false,Bool.false_and]; first | done | rfl | (simp only [*]; done)) | (rw [all_no (ltAt_there (l := x.body) (j := k) (by omega)) (by assumption)]; simp only [Bool.and_false,Bool.false_and]; first | done | rfl | (simp only [*]; done)) | (rw [show decide ((x.head.length : Int) ≤ 24) = false from decide_eq_false (by omega)]; simp only [Bool.and_false,Bool.false_and]; first | done | rfl | (simp only [*]; done)) | (rw [show decide ((x.body.length : Int) ≤ 16) = false from decide_eq_false (by omega)]; simp only [Bool.and_false,Bool.false_and]; first | done | rfl | (simp only [*]; done)) | (rw [show decide ((x.head.length : Int) ≤ 24) = true from decide_eq_true (by omega),show decide ((x.body.length : Int) ≤ 16) = true from decide_eq_true (by omega)]; ((try simp only [*,decide_true,decide_false,if_true,if_false,Bool.and_true,Bool.true_and,Bool.false_and,Bool.and_false,Bool.not_true,Bool.not_false,Bool.false_eq_true,reduceIte,not_true_eq_false,not_false_eq_true]); first | done | rfl); done))
    refine c_cond0 (vb (ej rfl rfl) (decide_eq_false h44)) (c_exit (e_then (e_then (e_hit (n_then (c_seq (c_reg (s_loadL (cs := [.string x.p,.slice Ah x.head.length ch,.slice Ab x.body.length cb]) F_m42 (ej rfl e40) rfl rfl (blk_cells (Ext.blk x36 (Ext.blk x10 (Ext.blk x4 (NewB.blk n3)))) 0 rfl) (w0 rfl) ?_))))))))
    have hallb_ : x.body.all ltB = true := all_yes (by omega) i39
    have h24_ : x.head.length ≤ 24 := by omega
    have h16_ : x.body.length ≤ 16 := by omega
    have hbod_ : ∀ (j : Nat) (y : Lt),x.body[j]? = some y → ltB y = true := fun j_ y_ h_ => all_kid hallb_ h_
    refine s_call F_e65 (w0 rfl) ev_f (m1 (ej rfl rfl)) (args := #[.agg #[.string x.p,.slice Ah x.head.length ch,.slice Ab x.body.length cb]]) rfl (t_RuleVars x Ah Ab ch cb _ ho (Row.extG (Row.extG (Row.extG (Row.extG hrh (NewB.ext n3)) x4) x10) x36) (Row.extL (Row.extL (Row.extL (Row.extL hrb (NewB.ext n3)) x4) x10) x36) h24_ h16_ hbod_) ?_
    rintro _ w73 ⟨A71,c72,rfl,x74⟩
    refine s_lenL F_l122 (ej rfl rfl) (w0 rfl) (s_cmp (r := decide (((rvL x).length : Int) ≤ 24)) (ej rfl rfl) ev_c rfl (w0 rfl) (s_call F_e50 (w0 rfl) ev_f (m1 (ej rfl rfl)) (args := #[.bool (decide (((rvL x).length : Int) ≤ 24))]) rfl (t_code (decide (((rvL x).length : Int) ≤ 24)) _) ?_))
    rintro _ w76 ⟨rfl,x75⟩
    refine s_assign (v := .int .i64 (code (decide (((rvL x).length : Int) ≤ 24)))) (ej rfl rfl) (w0 rfl) (c_done (n_then (c_ret (ret1 (v := .int .i64 (code (decide (((rvL x).length : Int) ≤ 24)))) rfl rfl rfl ?_))))
    refine ⟨_,rfl,?_,(Ext.trans (Ext.trans (Ext.trans (Ext.trans (Ext.trans (NewB.ext n3) x4) x10) x36) x74) x75)⟩
    (refine congrArg (Value.int .i64) ?_; unfold ruB; first | (((try simp only [*,decide_true,decide_false,if_true,if_false,Bool.and_true,Bool.true_and,Bool.false_and,Bool.and_false,Bool.not_true,Bool.not_false,Bool.false_eq_true,reduceIte,not_true_eq_false,not_false_eq_true]); first | done | rfl); done) | (rw [all_no (agAt_there (l := x.head) (j := i) (by omega)) (by assumption)]; simp only [Bool.and_false,Bool.false_and]; first | done | rfl | (simp only [*]; done)) | (rw [all_no (ltAt_there (l := x.body) (j := k) (by omega)) (by assumption)]; simp only [Bool.and_false,Bool.false_and]; first | done | rfl | (simp only [*]; done)) | (rw [show decide ((x.head.length : Int) ≤ 24) = false from decide_eq_false (by omega)]; simp only [Bool.and_false,Bool.false_and]; first | done | rfl | (simp only [*]; done)) | (rw [show decide ((x.body.length : Int) ≤ 16) = false from decide_eq_false (by omega)]; simp only [Bool.and_false,Bool.false_and]; first | done | rfl | (simp only [*]; done)) | (rw [show decide ((x.head.length : Int) ≤ 24) = true from decide_eq_true (by omega),show decide ((x.body.length : Int) ≤ 16) = true from decide_eq_true (by omega)]; ((try simp only [*,decide_true,decide_false,if_true,if_false,Bool.and_true,Bool.true_and,Bool.false_and,Bool.and_false,Bool.not_true,Bool.not_false,Bool.false_eq_true,reduceIte,not_true_eq_false,not_false_eq_true]); first | done | rfl); done))
  refine s_move (v := .bool true) (vb (ej rfl rfl) (nbf h6)) (w0 rfl) (s_skip (wn rfl rfl rfl rfl rfl) (s_skip (wn rfl rfl rfl rfl rfl) (s_skip (wn rfl rfl rfl rfl rfl) (s_skip (wn rfl rfl rfl rfl rfl) (s_pick1 (v := .bool true) (ej rfl rfl) ev_c (w0 rfl) (s_move (v := .bool true) (ej rfl rfl) (w0 rfl) (s_skip (wn rfl rfl rfl rfl rfl) (s_skip (wn rfl rfl rfl rfl rfl) (s_skip (wn rfl rfl rfl rfl rfl) (s_skip (wn rfl rfl rfl rfl rfl) (s_pick1 (v := .bool true) (ej rfl rfl) ev_c (w0 rfl) ?_)))))))))))
  refine c_done (n_then (c_cond1 (ej rfl rfl) (c_seq (c_reg (s_assign (v := .int .i64 40) ev_c (w0 rfl) (c_done (n_then (c_ret (r_then (ret1 (v := .int .i64 40) rfl rfl rfl ?_))))))))))
  refine ⟨_,rfl,?_,(Ext.trans (NewB.ext n3) x4)⟩
  (refine congrArg (Value.int .i64) ?_; unfold ruB; first | (((try simp only [*,decide_true,decide_false,if_true,if_false,Bool.and_true,Bool.true_and,Bool.false_and,Bool.and_false,Bool.not_true,Bool.not_false,Bool.false_eq_true,reduceIte,not_true_eq_false,not_false_eq_true]); first | done | rfl); done) | (rw [all_no (agAt_there (l := x.head) (j := i) (by omega)) (by assumption)]; simp only [Bool.and_false,Bool.false_and]; first | done | rfl | (simp only [*]; done)) | (rw [all_no (ltAt_there (l := x.body) (j := k) (by omega)) (by assumption)]; simp only [Bool.and_false,Bool.false_and]; first | done | rfl | (simp only [*]; done)) | (rw [show decide ((x.head.length : Int) ≤ 24) = false from decide_eq_false (by omega)]; simp only [Bool.and_false,Bool.false_and]; first | done | rfl | (simp only [*]; done)) | (rw [show decide ((x.body.length : Int) ≤ 16) = false from decide_eq_false (by omega)]; simp only [Bool.and_false,Bool.false_and]; first | done | rfl | (simp only [*]; done)) | (rw [show decide ((x.head.length : Int) ≤ 24) = true from decide_eq_true (by omega),show decide ((x.body.length : Int) ≤ 16) = true from decide_eq_true (by omega)]; ((try simp only [*,decide_true,decide_false,if_true,if_false,Bool.and_true,Bool.true_and,Bool.false_and,Bool.and_false,Bool.not_true,Bool.not_false,Bool.false_eq_true,reduceIte,not_true_eq_false,not_false_eq_true]); first | done | rfl); done))
end Go.Proofs.Dw

set_option linter.unusedVariables false
set_option linter.unusedSimpArgs false
namespace Go.Wk
open Go Go.RowKit Go.Lib
/-! ### texts of rules: sizes; the table of folds -/
theorem z7 {a b c e f g h : UInt8} : (⟨#[a,b,c,e,f,g,h]⟩ : ByteArray).size = 7 := rfl
def FoldT (P : Program) (w : World) : Prop := w.var? P "pedigree/print.folds" = some #[.string ⟨#[]⟩, .string ⟨#[]⟩, .string ⟨#[115, 117, 109]⟩, .string ⟨#[109, 105, 110]⟩, .string ⟨#[109, 97, 120]⟩]
theorem FoldT.ext {P : Program} {w w' : World} (h : FoldT P w) (k : Ext w w') : FoldT P w' := var_ext h k
theorem FoldT.at_ {P : Program} {w : World} {g : Nat} {op : Int} (h : FoldT P w) (hg : P.globalNamed "pedigree/print.folds" = some g) (ho : 0 ≤ op ∧ op ≤ 4) : w.cell? ⟨g, 0 + op.toNat * 1, none⟩ = some (.string (foldB op)) := by
  refine var_cell h hg ?_
  have : op = 0 ∨ op = 1 ∨ op = 2 ∨ op = 3 ∨ op = 4 := by omega
  rcases this with rfl | rfl | rfl | rfl | rfl <;> rfl
theorem arg_kinds {x : Ag} (h : argB x = true) : 0 ≤ x.k ∧ x.k ≤ 4 := by
  unfold argB at h
  split at h
  · omega
  · split at h
    · omega
    · split at h
      · omega
      · cases h
theorem arg_term {x : Ag} (h : argB x = true) (h0 : x.k = 0) : tmB x.t = true := by
  unfold argB at h; rw [if_pos h0] at h
  simp only [Bool.and_eq_true] at h; exact h.2
theorem arg_var {x : Ag} (h : argB x = true) (h0 : x.k = 2 ∨ x.k = 3 ∨ x.k = 4) : ¬ x.t.v = ⟨#[]⟩ ∧ tmB x.t = true := by
  unfold argB at h; rw [if_neg (by omega),if_neg (by omega),if_pos h0] at h
  simp only [Bool.and_eq_true,Bool.not_eq_true',decide_eq_false_iff_not] at h; exact ⟨h.1,h.2.2⟩
theorem arg_vsize {x : Ag} (h : argB x = true) (hx : x.wf) (h0 : x.k = 2 ∨ x.k = 3 ∨ x.k = 4) : x.t.v.size ≤ 802 := by
  obtain ⟨h1,h2⟩ := arg_var h h0
  have := termW_size h2 hx.t
  unfold termW at this
  rwa [if_neg h1] at this
theorem foldB_size (k : Int) : (foldB k).size ≤ 3 := by unfold foldB; (repeat' split) <;> decide
theorem argW_size {x : Ag} (h : argB x = true) (hx : x.wf) : (argW x).size ≤ 900 := by
  unfold argW
  split
  · decide
  · split
    · rename_i h0
      have := arg_vsize h hx h0
      have := foldB_size x.k
      simp only [ByteArray.size_append,z1]; omega
    · rename_i h1 h2
      have := arg_kinds h
      have := termW_size (arg_term h (by omega)) hx.t
      omega
theorem RG_wf {w : World} {A : Option Addr} {l : List Ag} {m i : Nat} (h : Row RG m w A l) (hi : i < l.length) : (agAt l i).wf := by
  obtain ⟨_,_,y,_,_,hy,h,_⟩ := h.at_ i hi
  rw [agAt_of hy]
  exact h.2
theorem argW_at {l : List Ag} {i : Nat} (h : i < l.length) : (l.map argW).getD i ⟨#[]⟩ = argW (agAt l i) := by
  simp [agAt,List.getD_eq_getElem?_getD,h]
theorem ltW_size {x : Lt} {w : World} {Aa A1 A2 : Option Addr} {ca c1 c2 : Nat} (h : ltB x = true) (ho : x.okc ca c1 c2) (hra : Row RT 4 w Aa x.a.args) (hr1 : Row RE 6 w A1 x.e1.kids) (hr2 : Row RE 6 w A2 x.e2.kids) : (ltW x).size ≤ 500000 := by
  unfold ltW
  split
  · rename_i hk; have := atW_size (lt_at h (.inl hk)) hra; omega
  · split
    · rename_i hk; have := atW_size (lt_at h (.inr hk)) hra; simp only [ByteArray.size_append,z4]; omega
    · rename_i h1 h2
      obtain ⟨_,_,_,he1,he2⟩ := lt_cmp h h1 h2
      have := exW_le (d := 8) (by decide) he1 (Go.Wk.Row.ok hr1 ho.e1.t)
      have := exW_le (d := 8) (by decide) he2 (Go.Wk.Row.ok hr2 ho.e2.t)
      have := relW_size x.r
      simp only [ByteArray.size_append,z1]; omega
theorem ltW_at {w : World} {A : Option Addr} {l : List Lt} {i : Nat} (hr : Row RL 16 w A l) (hb : ∀ i,i < l.length → ltB (ltAt l i) = true) (hi : i < l.length) : (ltW (ltAt l i)).size ≤ 500000 := by
  obtain ⟨_,_,y,_,_,hy,hR,_⟩ := hr.at_ i hi
  have e := ltAt_of hy
  obtain ⟨Aa,A1,A2,ca,c1,c2,_,ho,ra,r1,r2⟩ := hR
  have := hb i hi
  rw [e] at this ⊢
  exact ltW_size this ho ra r1 r2
theorem ruP_le {w : World} {A : Option Addr} {l : List Lt} (hr : Row RL 16 w A l) (hb : ∀ i,i < l.length → ltB (ltAt l i) = true) : ∀ i,i ≤ l.length → (ruP l i).size ≤ i * 500004
  | 0,_ => by simp [ruP,z0]
  | i + 1,hi => by
    have h1 := ruP_le hr hb i (by omega)
    have h2 := ltW_at hr hb (i := i) (by omega)
    have h3 : (if i = 0 then (⟨#[32,58,45,32]⟩ : ByteArray) else ⟨#[44,32]⟩).size ≤ 4 := by split <;> decide
    simp only [ruP,ByteArray.size_append,Nat.add_mul,Nat.one_mul]
    omega
theorem headW_size {x : Ru} {w : World} {A : Option Addr} (h : ruB x = true) (hr : Row RG 5 w A x.head) : (colW x.p (x.head.map argW)).size ≤ 30000 := by
  obtain ⟨_,hp,h24,_,hh,_⟩ := ruB_parts h
  unfold colW
  split
  · omega
  · have := colP_le (l := x.head.map argW) (M := 900) (fun i hi => by rw [List.length_map] at hi; rw [argW_at hi]; exact argW_size (hh i hi) (RG_wf hr hi)) (x.head.map argW).length (Nat.le_refl _)
    rw [List.length_map] at this
    have h2 : x.head.length * (900 + 2) ≤ 24 * 902 := Nat.mul_le_mul_right _ h24
    simp only [ByteArray.size_append,z1,List.length_map]; omega
theorem ruW_ne {x : Ru} : (ruW x).size ≠ 0 := by simp only [ruW,ByteArray.size_append,z1]; omega
end Go.Wk

set_option linter.unusedVariables false
set_option linter.unusedSimpArgs false
set_option maxRecDepth 10000
namespace Go.Proofs.Dw
open Go Go.Wk Go.Proofs Go.Lib
attribute [local irreducible] Go.wpList Go.wpStill Go.wpQuiet Go.Code.wp Go.Calls
end Go.Proofs.Dw

set_option linter.unusedVariables false
set_option linter.unusedSimpArgs false
set_option maxRecDepth 10000
namespace Go.Proofs.Dw
open Go Go.Wk Go.Proofs Go.Lib
attribute [local irreducible] Go.wpList Go.wpStill Go.wpQuiet Go.Code.wp Go.Calls
theorem F_ar145 : arrayT Tryd.prog 145 5 1 = true := by kernel_rfl
theorem F_e66 : enterable Tryd.prog 66 = true := by kernel_rfl
theorem F_e67 : enterable Tryd.prog 67 = true := by kernel_rfl
theorem F_e68 : enterable Tryd.prog 68 = true := by kernel_rfl
theorem F_gn3 : Tryd.prog.globalNamed "pedigree/print.folds" = some 3 := by kernel_rfl
theorem bs122_4_0s_1s_2s_3s : ∀ (a0 : ByteArray) (a1 : ByteArray) (a2 : ByteArray) (a3 : ByteArray),∀ w : World,(Instr.buildSlice 122 4 [(0,.string a0),(1,.string a1),(2,.string a2),(3,.string a3)].toArray).run Tryd.prog w = .ok (.slice (some ⟨w.heap.size,0,none⟩) 4 4) (w.alloc (.cells #[.string a0,.string a1,.string a2,.string a3] 9)) := by
  intros
  kernel_rfl
theorem p_arg (x : Ag) (g : Nat) (s0 : ByteArray) (wz : World) (w : World) (x0 : Ext wz w) (tb : Tabs Tryd.prog wz) (hb : BW 5 85 wz.heap.size w g s0) (tf : FoldT Tryd.prog wz) (hx : x.wf) (hag : argB x = true) (hs : s0.size + 1000 ≤ 110000000000000) :
    Rt Tryd.prog 67 #[.pointer (some ⟨g,0,none⟩),.agg #[.int .i8 x.k,.string x.t.v,.int .i8 x.t.l.k,.int .i64 x.t.l.n,.string x.t.l.s]] w fun v w' => v = .tuple #[] ∧ Wr 5 85 wz.heap.size g (s0 ++ argW x) w w' := by
  refine enter Tryd.func67 rfl (l := [.pointer (some ⟨g,0,none⟩),.agg #[.int .i8 x.k,.string x.t.v,.int .i8 x.t.l.k,.int .i64 x.t.l.n,.string x.t.l.s]]) rfl Tryd.ntmps67 (Nat.le_of_ble_eq_true rfl) ?_
  have hB_ := Keep.size x0
  have hk04_ := arg_kinds hag
  have hvs_ : x.k = 2 ∨ x.k = 3 ∨ x.k = 4 → x.t.v.size ≤ 802 := arg_vsize hag hx
  have hfz_ := foldB_size x.k
  refine c_seq (c_reg (s_box (v := .agg #[.int .i8 x.k,.string x.t.v,.int .i8 x.t.l.k,.int .i64 x.t.l.n,.string x.t.l.s]) (cs := #[.int .i8 x.k,.string x.t.v,.int .i8 x.t.l.k,.int .i64 x.t.l.n,.string x.t.l.s]) (w0 rfl) (ej rfl rfl) rfl ?_))
  intro w2 g1 n3
  have ne_g1 : g1 ≠ g := by have a_ := NewB.eq n3; have b_ := BW.lt hb; omega
  refine c_done (n_then (c_seq (c_reg (s_field (off := 0) (o' := 0) F_f64_0 (ej rfl rfl) rfl (w0 rfl) (s_load (v := .int .i8 x.k) F_o62 (ej rfl rfl) (cell_of_blk (i := 0) (NewB.blk n3) rfl) (w0 rfl) (c_done (n_then (c_block (c_seq (c_reg (s_cmp (r := decide (x.k = 0)) (ej rfl rfl) ev_c rfl (w0 rfl) ?_)))))))))))
  refine s_assign (v := .bool (decide (x.k = 0))) (ej rfl rfl) (w0 rfl) (c_done (n_then ?_))
  by_cases h4 : x.k = 0
  · refine c_cond1 (vb (ej rfl rfl) (decide_eq_true h4)) (c_reg (s_move (v := .pointer (some ⟨g,0,none⟩)) (ej rfl rfl) (w0 rfl) (s_field (off := 1) (o' := 1) F_f64_1 (ej rfl rfl) rfl (w0 rfl) (s_loadL (cs := [.string x.t.v,.int .i8 x.t.l.k,.int .i64 x.t.l.n,.string x.t.l.s]) F_m28 (ej rfl rfl) rfl rfl (blk_cells (NewB.blk n3) 1 rfl) (w0 rfl) (s_call F_e41 (w0 rfl) ev_f (m2 (ej rfl rfl) (ej rfl rfl)) (args := #[.pointer (some ⟨g,0,none⟩),.agg #[.string x.t.v,.int .i8 x.t.l.k,.int .i64 x.t.l.n,.string x.t.l.s]]) rfl (p_term x.t g (s0) wz _ (Ext.trans x0 (NewB.ext n3)) tb (BW.ext hb (NewB.ext n3)) (Ag.wf.t hx) (by have := termW_size (arg_term hag (by omega)) (Ag.wf.t hx); omega)) ?_)))))
    rintro _ w5 ⟨rfl,wr6⟩
    refine c_done (n_block (ret0 rfl ?_))
    exact ⟨_,rfl,rfl,Wr.cast (Wr.then_ (Wr.of_ext hb (NewB.ext n3) hB_) wr6) (by unfold argW; first | (rw [if_pos (by omega)]; simp only [catL,app_nil]; done) | (rw [if_neg (by omega),if_pos (by omega)]; simp only [catL,app_nil,app_assoc]; done) | (rw [if_neg (by omega),if_neg (by omega)]; done))⟩
  refine c_cond0 (vb (ej rfl rfl) (decide_eq_false h4)) (c_seq (c_reg (s_cmp (r := decide (x.k = 1)) (ej rfl rfl) ev_c rfl (w0 rfl) (s_assign (v := .bool (decide (x.k = 1))) (ej rfl rfl) (w0 rfl) (c_done (n_then ?_))))))
  by_cases h7 : x.k = 1
  · refine c_cond1 (vb (ej rfl rfl) (decide_eq_true h7)) (c_reg (s_move (v := .pointer (some ⟨g,0,none⟩)) (ej rfl rfl) (w0 rfl) (s_bslice (vs := [(0,.string (⟨#[99,111,117,110,116,40,41]⟩ : ByteArray))]) (cs := #[.string (⟨#[99,111,117,110,116,40,41]⟩ : ByteArray)]) (b1 ev_c) (bs122_1_0s (⟨#[99,111,117,110,116,40,41]⟩ : ByteArray)) (w0 rfl) ?_)))
    intro w9 g8 n10
    have ne_g8 : g8 ≠ g := by have a_ := NewB.eq n10; have b_ := BW.lt (BW.ext hb (NewB.ext n3)); omega
    refine s_call F_e35 (w0 rfl) ev_f (m2 (ej rfl rfl) (ej rfl rfl)) (args := #[.pointer (some ⟨g,0,none⟩),.slice (some ⟨g8,0,none⟩) 1 1]) rfl (p_put 85 _ g g8 (s0) [(⟨#[99,111,117,110,116,40,41]⟩ : ByteArray)] _ (BW.ext (BW.ext hb (NewB.ext n3)) (NewB.ext n10)) (Nat.le_trans (Nat.le_trans hB_ (Keep.size (NewB.ext n3))) (Keep.size (NewB.ext n10))) (by decide) F_lies85 (NewB.blk n10) (by simp only [catL,ByteArray.size_append,z0,z1,z2,z3,z4,z5,z6,z7]; omega) (by simp)) ?_
    rintro _ w11 ⟨rfl,wr12⟩
    refine c_done (n_block (ret0 rfl ?_))
    exact ⟨_,rfl,rfl,Wr.cast (Wr.then_ (Wr.of_ext hb (Ext.trans (NewB.ext n3) (NewB.ext n10)) hB_) wr12) (by unfold argW; first | (rw [if_pos (by omega)]; simp only [catL,app_nil]; done) | (rw [if_neg (by omega),if_pos (by omega)]; simp only [catL,app_nil,app_assoc]; done) | (rw [if_neg (by omega),if_neg (by omega)]; done))⟩
  refine c_cond0 (vb (ej rfl rfl) (decide_eq_false h7)) ?_
  refine c_trace (fun k v wb wa => match k with | 0 => v = .pointer (some ⟨g,0,none⟩) | 1 => v = .pointer (some ⟨g1,0,none⟩) | 2 => v = .int .i8 x.k | 3 => v = .pointer (some ⟨3,0 + x.k.toNat * 1,none⟩) | 4 => v = .string (foldB x.k) | 5 => v = .pointer (some ⟨g1,1,none⟩) | 6 => v = .pointer (some ⟨g1,1,none⟩) | 7 => v = .string x.t.v | 8 => ∃ g_,v = .slice (some ⟨g_,0,none⟩) 4 4 ∧ NewB wb g_ (.cells #[.string (foldB x.k),.string (⟨#[40]⟩ : ByteArray),.string x.t.v,.string (⟨#[41]⟩ : ByteArray)] 9 (0,0)) wa | _ => True) (fun k => [6,7,8,9,10,11,12,13,14].getD k 999) (fun k => [[],[],[1],[2],[3],[],[5],[6],[4,7]].getD k []) 9 mixed (by kernel_rfl) (by decide) ?_ ?_
  · intro wd xd k_ hk_ env_ B_ A_ w_ hx_
    have hkm : k_ = 0 ∨ k_ = 1 ∨ k_ = 2 ∨ k_ = 3 ∨ k_ = 4 ∨ k_ = 5 ∨ k_ = 6 ∨ k_ = 7 ∨ k_ = 8 := by omega
    rcases hkm with rfl | rfl | rfl | rfl | rfl | rfl | rfl | rfl | rfl
    · refine ⟨_,rfl,?_⟩
      refine s_move (v := .pointer (some ⟨g,0,none⟩)) (ej rfl ((Tr.env hx_ 0 (by decide)).trans rfl)) (w0 rfl) ?_
      exact tl_done ⟨_,rfl,rfl,Ext.refl _⟩
    · refine ⟨_,rfl,?_⟩
      refine s_field (off := 0) (o' := 0) F_f64_0 (ej rfl ((Tr.env hx_ 3 (by decide)).trans rfl)) rfl (w0 rfl) ?_
      exact tl_done ⟨_,rfl,rfl,Ext.refl _⟩
    · refine ⟨_,rfl,?_⟩
      refine s_load (v := .int .i8 x.k) F_o62 (ej rfl (Tr.g hx_ 1 (by decide))) (cell_of_blk (i := 0) (Ext.blk (Tr.ext hx_) (Ext.blk xd (NewB.blk n3))) rfl) (w0 rfl) ?_
      exact tl_done ⟨_,rfl,rfl,Ext.refl _⟩
    · refine ⟨_,rfl,?_⟩
      refine s_indexA (j := x.k.toNat) F_ar145 ev_g (ej rfl (Tr.g hx_ 2 (by decide))) (by omega) (by omega) (w0 rfl) ?_
      exact tl_done ⟨_,rfl,rfl,Ext.refl _⟩
    · refine ⟨_,rfl,?_⟩
      refine s_load (v := .string (foldB x.k)) F_o9 (ej rfl (Tr.g hx_ 3 (by decide))) (FoldT.at_ (FoldT.ext tf (Ext.trans (Ext.trans (Ext.trans x0 (NewB.ext n3)) xd) (Tr.ext hx_))) F_gn3 (by omega)) (w0 rfl) ?_
      exact tl_done ⟨_,rfl,rfl,Ext.refl _⟩
    · refine ⟨_,rfl,?_⟩
      refine s_field (off := 1) (o' := 1) F_f64_1 (ej rfl ((Tr.env hx_ 3 (by decide)).trans rfl)) rfl (w0 rfl) ?_
      exact tl_done ⟨_,rfl,rfl,Ext.refl _⟩
    · refine ⟨_,rfl,?_⟩
      refine s_field (off := 0) (o' := 1) F_f28_0 (ej rfl (Tr.g hx_ 5 (by decide))) rfl (w0 rfl) ?_
      exact tl_done ⟨_,rfl,rfl,Ext.refl _⟩
    · refine ⟨_,rfl,?_⟩
      refine s_load (v := .string x.t.v) F_o9 (ej rfl (Tr.g hx_ 6 (by decide))) (cell_of_blk (i := 1) (Ext.blk (Tr.ext hx_) (Ext.blk xd (NewB.blk n3))) rfl) (w0 rfl) ?_
      exact tl_done ⟨_,rfl,rfl,Ext.refl _⟩
    refine ⟨_,rfl,?_⟩
    refine s_bslice (vs := [(0,.string (foldB x.k)),(1,.string (⟨#[40]⟩ : ByteArray)),(2,.string x.t.v),(3,.string (⟨#[41]⟩ : ByteArray))]) (cs := #[.string (foldB x.k),.string (⟨#[40]⟩ : ByteArray),.string x.t.v,.string (⟨#[41]⟩ : ByteArray)]) (b4 (ej rfl (Tr.g hx_ 4 (by decide))) ev_c (ej rfl (Tr.g hx_ 7 (by decide))) ev_c) (bs122_4_0s_1s_2s_3s (foldB x.k) (⟨#[40]⟩ : ByteArray) x.t.v (⟨#[41]⟩ : ByteArray)) (w0 rfl) ?_
    intro w14 g13 n15
    have ne_g13 : g13 ≠ g := by have a_ := NewB.eq n15; have b_ := BW.lt (BW.ext (BW.ext (BW.ext hb (NewB.ext n3)) xd) (Tr.ext hx_)); omega
    exact tl_done ⟨_,rfl,⟨g13,rfl,n15⟩,(NewB.ext n15)⟩
  intro wd xd env_ B_ A_ w_ hx_
  obtain ⟨g13,e16,n17⟩ := Tr.g hx_ 8 (by decide)
  replace e16 : env_ 14 = _ := e16
  have ne_g13 : g13 ≠ g := by have a_ := NewB.eq n17; have b_ := BW.lt (BW.ext hb (NewB.ext n3)); have c_ := Keep.size (Ext.trans xd (Tr.x0 hx_ 8 (by decide))); omega
  refine tl_cons ?_
  refine s_call F_e35 (w0 rfl) ev_f (m2 (ej rfl (Tr.g hx_ 0 (by decide))) (ej rfl e16)) (args := #[.pointer (some ⟨g,0,none⟩),.slice (some ⟨g13,0,none⟩) 4 4]) rfl (p_put 85 _ g g13 (s0) [foldB x.k,(⟨#[40]⟩ : ByteArray),x.t.v,(⟨#[41]⟩ : ByteArray)] _ (BW.ext (BW.ext (BW.ext hb (NewB.ext n3)) xd) (Tr.ext hx_)) (Nat.le_trans (Nat.le_trans (Nat.le_trans hB_ (Keep.size (NewB.ext n3))) (Keep.size xd)) (Keep.size (Tr.ext hx_))) (by decide) F_lies85 (Ext.blk (Tr.x2 hx_ 8 (by decide)) (NewB.blk n17)) (by simp only [catL,ByteArray.size_append,z0,z1,z2,z3,z4,z5,z6,z7]; omega) (by simp)) ?_
  rintro _ w18 ⟨rfl,wr19⟩
  refine tl_done ⟨trivial,?_⟩
  refine tl_nil ?_
  refine n_block (ret0 rfl ?_)
  exact ⟨_,rfl,rfl,Wr.cast (Wr.then_ (Wr.of_ext hb (Ext.trans (Ext.trans (NewB.ext n3) xd) (Tr.ext hx_)) hB_) wr19) (by unfold argW; first | (rw [if_pos (by omega)]; simp only [catL,app_nil]; done) | (rw [if_neg (by omega),if_pos (by omega)]; simp only [catL,app_nil,app_assoc]; done) | (rw [if_neg (by omega),if_neg (by omega)]; done))⟩
theorem p_columnsR (nm : ByteArray) (n : Nat) (l : List ByteArray) (g p1 p2 : Nat) (s0 : ByteArray) (wz : World) (w : World) (x0 : Ext wz w) (tb : Tabs Tryd.prog wz) (hb : BW 5 85 wz.heap.size w g s0) (hnl : n = l.length) (hn : l.length ≤ 24) (hM : ∀ i,i < l.length → (l.getD i ⟨#[]⟩).size ≤ 1000) (hs : s0.size + nm.size + 30000 ≤ 100000000000000) (hone : ∀ (i : Nat) (w' : World) (s1 : ByteArray),i < l.length → Ext wz w' → Bld 5 g w w' → BW 5 85 wz.heap.size w' g s1 → s1.size ≤ 100000000000000 → Rt Tryd.prog 66 #[.int .i64 ((i : Nat) : Int),.pointer (some ⟨p1,0,none⟩),.pointer (some ⟨p2,0,none⟩)] w' fun v w2 => v = .tuple #[] ∧ Wr 5 85 wz.heap.size g (s1 ++ l.getD i ⟨#[]⟩) w' w2) :
    Rt Tryd.prog 39 #[.pointer (some ⟨g,0,none⟩),.string nm,.int .i64 ((n : Nat) : Int),.func (.func 66) #[] #[.pointer (some ⟨p1,0,none⟩),.pointer (some ⟨p2,0,none⟩)]] w fun v w' => v = .tuple #[] ∧ Wr 5 85 wz.heap.size g (s0 ++ colW nm l) w w' := by
  refine enter Tryd.func39 rfl (l := [.pointer (some ⟨g,0,none⟩),.string nm,.int .i64 ((n : Nat) : Int),.func (.func 66) #[] #[.pointer (some ⟨p1,0,none⟩),.pointer (some ⟨p2,0,none⟩)]]) rfl Tryd.ntmps39 (Nat.le_of_ble_eq_true rfl) ?_
  subst hnl
  have hB_ := Keep.size x0
  refine c_seq (c_reg (s_move (v := .pointer (some ⟨g,0,none⟩)) (ej rfl rfl) (w0 rfl) (s_move (v := .string nm) (ej rfl rfl) (w0 rfl) (s_bslice (vs := [(0,.string nm)]) (cs := #[.string nm]) (b1 (ej rfl rfl)) (bs122_1_0s nm) (w0 rfl) ?_))))
  intro w2 g1 n3
  have ne_g1 : g1 ≠ g := by have a_ := NewB.eq n3; have b_ := BW.lt hb; omega
  refine s_call F_e35 (w0 rfl) ev_f (m2 (ej rfl rfl) (ej rfl rfl)) (args := #[.pointer (some ⟨g,0,none⟩),.slice (some ⟨g1,0,none⟩) 1 1]) rfl (p_put 85 _ g g1 (s0) [nm] _ (BW.ext hb (NewB.ext n3)) (Nat.le_trans hB_ (Keep.size (NewB.ext n3))) (by decide) F_lies85 (NewB.blk n3) (by simp only [catL,ByteArray.size_append,z0,z1,z2,z3,z4,z5,z6]; omega) (by simp)) ?_
  rintro _ w4 ⟨rfl,wr5⟩
  refine c_done (n_then (c_seq (c_seq (c_reg (s_move (v := .int .i64 ((l.length : Nat) : Int)) (ej rfl rfl) (w0 rfl) (s_move (v := .int .i64 0) ev_c (w0 rfl) (c_done (n_then (c_block (c_loop (α := Nat) (fun (i : Nat) env_ w_ => Wr 5 85 wz.heap.size g (s0 ++ nm ++ colP l i) w w_ ∧ i ≤ l.length ∧ env_ 0 = .pointer (some ⟨g,0,none⟩) ∧ env_ 2 = .int .i64 ((l.length : Nat) : Int) ∧ env_ 3 = .func (.func 66) #[] #[.pointer (some ⟨p1,0,none⟩),.pointer (some ⟨p2,0,none⟩)] ∧ env_ 13 = .int .i64 ((l.length : Nat) : Int) ∧ env_ 14 = .int .i64 ((i : Nat) : Int)) (fun i => l.length - i) (0) ⟨(Wr.cast (Wr.then_ (Wr.of_ext hb (NewB.ext n3) hB_) wr5) (by simp [catL,app_nil,colP])),Nat.zero_le _,rfl,rfl,rfl,rfl,rfl⟩ ?_))))))))))
  rintro i env8 w6 ⟨x7,i9,e10,e11,e12,e13,e14⟩
  have hP_ := colP_le hM i i9
  have hM2_ := hM i
  refine c_seq (c_reg (s_cmp (r := decide (((i : Nat) : Int) < ((l.length : Nat) : Int))) (ej rfl e14) (ej rfl e13) rfl (w0 rfl) (c_done (n_then (c_seq ?_)))))
  by_cases h15 : ((i : Nat) : Int) < ((l.length : Nat) : Int)
  · refine c_cond1 (vb (ej rfl rfl) (decide_eq_true h15)) (c_skip (n_then (c_seq (c_block (c_seq (c_reg (s_move (v := .int .i64 ((i : Nat) : Int)) (ej rfl e14) (w0 rfl) (s_assign (v := .int .i64 ((i : Nat) : Int)) (ej rfl rfl) (w0 rfl) (c_done (n_then (c_seq ?_)))))))))))
    refine c_seq (c_reg (s_move (v := .int .i64 ((i : Nat) : Int)) (ej rfl rfl) (w0 rfl) (s_cmp (r := decide (((i : Nat) : Int) = 0)) (ej rfl rfl) ev_c rfl (w0 rfl) (c_done (n_then ?_)))))
    by_cases h16 : ((i : Nat) : Int) = 0
    · refine c_cond1 (vb (ej rfl rfl) (decide_eq_true h16)) (c_reg (s_move (v := .pointer (some ⟨g,0,none⟩)) (ej rfl e10) (w0 rfl) (s_bslice (vs := [(0,.string (⟨#[40]⟩ : ByteArray))]) (cs := #[.string (⟨#[40]⟩ : ByteArray)]) (b1 ev_c) (bs122_1_0s (⟨#[40]⟩ : ByteArray)) (w0 rfl) ?_)))
      intro w18 g17 n19
      have ne_g17 : g17 ≠ g := by have a_ := NewB.eq n19; have b_ := BW.lt (Wr.bw x7); omega
      refine s_call F_e35 (w0 rfl) ev_f (m2 (ej rfl rfl) (ej rfl rfl)) (args := #[.pointer (some ⟨g,0,none⟩),.slice (some ⟨g17,0,none⟩) 1 1]) rfl (p_put 85 _ g g17 (s0 ++ nm ++ colP l i) [(⟨#[40]⟩ : ByteArray)] _ (BW.ext (Wr.bw x7) (NewB.ext n19)) (Nat.le_trans (Nat.le_trans hB_ (Wr.size x7)) (Keep.size (NewB.ext n19))) (by decide) F_lies85 (NewB.blk n19) (by simp only [catL,ByteArray.size_append,z0,z1,z2,z3,z4,z5,z6]; omega) (by simp)) ?_
      rintro _ w20 ⟨rfl,wr21⟩
      refine c_done (n_then (c_reg (s_move (v := .func (.func 66) #[] #[.pointer (some ⟨p1,0,none⟩),.pointer (some ⟨p2,0,none⟩)]) (ej rfl e12) (w0 rfl) (s_move (v := .int .i64 ((i : Nat) : Int)) (ej rfl rfl) (w0 rfl) (s_call F_e66 (w0 rfl) (ej rfl rfl) (m1 (ej rfl rfl)) (args := #[.int .i64 ((i : Nat) : Int),.pointer (some ⟨p1,0,none⟩),.pointer (some ⟨p2,0,none⟩)]) rfl (hone i _ (s0 ++ nm ++ colP l i ++ (catL [(⟨#[40]⟩ : ByteArray)])) (by omega) (Wr.after wr21 (Ext.trans (Wr.after x7 x0 rfl) (NewB.ext n19)) rfl) (Wr.bld (Wr.then_ (Wr.ext x7 (NewB.ext n19) hB_) wr21)) (Wr.bw wr21) (by simp only [catL,ByteArray.size_append,z0,z1,z2]; omega)) ?_)))))
      rintro _ w22 ⟨rfl,wr23⟩
      refine c_done (n_block (n_then (c_reg (s_add (r := ((i + 1 : Nat) : Int)) (ej rfl e14) ev_c (by omega) (by omega) (w0 rfl) (s_move (v := .int .i64 ((i + 1 : Nat) : Int)) (ej rfl rfl) (w0 rfl) (c_done ?_))))))
      exact ⟨(i + 1),_,rfl,⟨(Wr.cast (Wr.then_ (Wr.then_ (Wr.ext x7 (NewB.ext n19) hB_) wr21) wr23) (by simp only [colP]; (first | rw [if_pos (by omega)] | rw [if_neg (by omega)]); simp only [catL,app_nil,app_assoc])),by omega,e10,e11,e12,e13,rfl⟩,(show l.length - (i + 1) < l.length - i by omega)⟩
    refine c_cond0 (vb (ej rfl rfl) (decide_eq_false h16)) (c_reg (s_move (v := .pointer (some ⟨g,0,none⟩)) (ej rfl e10) (w0 rfl) (s_bslice (vs := [(0,.string (⟨#[44,32]⟩ : ByteArray))]) (cs := #[.string (⟨#[44,32]⟩ : ByteArray)]) (b1 ev_c) (bs122_1_0s (⟨#[44,32]⟩ : ByteArray)) (w0 rfl) ?_)))
    intro w25 g24 n26
    have ne_g24 : g24 ≠ g := by have a_ := NewB.eq n26; have b_ := BW.lt (Wr.bw x7); omega
    refine s_call F_e35 (w0 rfl) ev_f (m2 (ej rfl rfl) (ej rfl rfl)) (args := #[.pointer (some ⟨g,0,none⟩),.slice (some ⟨g24,0,none⟩) 1 1]) rfl (p_put 85 _ g g24 (s0 ++ nm ++ colP l i) [(⟨#[44,32]⟩ : ByteArray)] _ (BW.ext (Wr.bw x7) (NewB.ext n26)) (Nat.le_trans (Nat.le_trans hB_ (Wr.size x7)) (Keep.size (NewB.ext n26))) (by decide) F_lies85 (NewB.blk n26) (by simp only [catL,ByteArray.size_append,z0,z1,z2,z3,z4,z5,z6]; omega) (by simp)) ?_
    rintro _ w27 ⟨rfl,wr28⟩
    refine c_done (n_then (c_reg (s_move (v := .func (.func 66) #[] #[.pointer (some ⟨p1,0,none⟩),.pointer (some ⟨p2,0,none⟩)]) (ej rfl e12) (w0 rfl) (s_move (v := .int .i64 ((i : Nat) : Int)) (ej rfl rfl) (w0 rfl) (s_call F_e66 (w0 rfl) (ej rfl rfl) (m1 (ej rfl rfl)) (args := #[.int .i64 ((i : Nat) : Int),.pointer (some ⟨p1,0,none⟩),.pointer (some ⟨p2,0,none⟩)]) rfl (hone i _ (s0 ++ nm ++ colP l i ++ (catL [(⟨#[44,32]⟩ : ByteArray)])) (by omega) (Wr.after wr28 (Ext.trans (Wr.after x7 x0 rfl) (NewB.ext n26)) rfl) (Wr.bld (Wr.then_ (Wr.ext x7 (NewB.ext n26) hB_) wr28)) (Wr.bw wr28) (by simp only [catL,ByteArray.size_append,z0,z1,z2]; omega)) ?_)))))
    rintro _ w29 ⟨rfl,wr30⟩
    refine c_done (n_block (n_then (c_reg (s_add (r := ((i + 1 : Nat) : Int)) (ej rfl e14) ev_c (by omega) (by omega) (w0 rfl) (s_move (v := .int .i64 ((i + 1 : Nat) : Int)) (ej rfl rfl) (w0 rfl) (c_done ?_))))))
    exact ⟨(i + 1),_,rfl,⟨(Wr.cast (Wr.then_ (Wr.then_ (Wr.ext x7 (NewB.ext n26) hB_) wr28) wr30) (by simp only [colP]; (first | rw [if_pos (by omega)] | rw [if_neg (by omega)]); simp only [catL,app_nil,app_assoc])),by omega,e10,e11,e12,e13,rfl⟩,(show l.length - (i + 1) < l.length - i by omega)⟩
  refine c_cond0 (vb (ej rfl rfl) (decide_eq_false h15)) (c_exit (e_then (e_then (e_hit (n_then (c_seq (c_reg (s_move (v := .int .i64 ((l.length : Nat) : Int)) (ej rfl e11) (w0 rfl) (s_cmp (r := decide (0 < ((l.length : Nat) : Int))) (ej rfl rfl) ev_c rfl (w0 rfl) (c_done (n_then ?_)))))))))))
  by_cases h31 : 0 < ((l.length : Nat) : Int)
  · refine c_cond1 (vb (ej rfl rfl) (decide_eq_true h31)) (c_reg (s_move (v := .pointer (some ⟨g,0,none⟩)) (ej rfl e10) (w0 rfl) (s_bslice (vs := [(0,.string (⟨#[41]⟩ : ByteArray))]) (cs := #[.string (⟨#[41]⟩ : ByteArray)]) (b1 ev_c) (bs122_1_0s (⟨#[41]⟩ : ByteArray)) (w0 rfl) ?_)))
    intro w33 g32 n34
    have ne_g32 : g32 ≠ g := by have a_ := NewB.eq n34; have b_ := BW.lt (Wr.bw x7); omega
    refine s_call F_e35 (w0 rfl) ev_f (m2 (ej rfl rfl) (ej rfl rfl)) (args := #[.pointer (some ⟨g,0,none⟩),.slice (some ⟨g32,0,none⟩) 1 1]) rfl (p_put 85 _ g g32 (s0 ++ nm ++ colP l i) [(⟨#[41]⟩ : ByteArray)] _ (BW.ext (Wr.bw x7) (NewB.ext n34)) (Nat.le_trans (Nat.le_trans hB_ (Wr.size x7)) (Keep.size (NewB.ext n34))) (by decide) F_lies85 (NewB.blk n34) (by simp only [catL,ByteArray.size_append,z0,z1,z2,z3,z4,z5,z6]; omega) (by simp)) ?_
    rintro _ w35 ⟨rfl,wr36⟩
    refine c_done (ret0 rfl ?_)
    exact ⟨_,rfl,rfl,Wr.cast (Wr.then_ (Wr.ext x7 (NewB.ext n34) hB_) wr36) (by (have e_ : i = l.length := by omega); subst e_; unfold colW; first | (rw [if_neg (by omega)]; simp only [catL,app_nil,app_assoc]; done) | ((have e2_ : l.length = 0 := by omega); rw [if_pos e2_,e2_]; simp [colP,app_nil]))⟩
  refine c_cond0 (vb (ej rfl rfl) (decide_eq_false h31)) (c_skip (ret0 rfl ?_))
  exact ⟨_,rfl,rfl,Wr.cast x7 (by (have e_ : i = l.length := by omega); subst e_; unfold colW; first | (rw [if_neg (by omega)]; simp only [catL,app_nil,app_assoc]; done) | ((have e2_ : l.length = 0 := by omega); rw [if_pos e2_,e2_]; simp [colP,app_nil]))⟩
theorem p_rule1 (i : Nat) (x : Ru) (Ah Ab : Option Addr) (ch cb g p1 p2 : Nat) (s0 : ByteArray) (wz : World) (w : World) (x0 : Ext wz w) (tb : Tabs Tryd.prog wz) (hb : BW 5 85 wz.heap.size w g s0) (tf : FoldT Tryd.prog wz) (hrh : Row RG 5 wz Ah x.head) (hp1 : w.heap[p1]? = some (.cells #[.pointer (some ⟨g,0,none⟩)] 72 (0,0))) (hp2 : w.heap[p2]? = some (.cells #[.string x.p,.slice Ah x.head.length ch,.slice Ab x.body.length cb] 42 (0,0))) (hi : i < x.head.length) (hv : argB (agAt x.head i) = true) (hs : s0.size ≤ 100000000000000) :
    Rt Tryd.prog 66 #[.int .i64 ((i : Nat) : Int),.pointer (some ⟨p1,0,none⟩),.pointer (some ⟨p2,0,none⟩)] w fun v w' => v = .tuple #[] ∧ Wr 5 85 wz.heap.size g (s0 ++ argW (agAt x.head i)) w w' := by
  refine enter Tryd.func66 rfl (l := [.int .i64 ((i : Nat) : Int),.pointer (some ⟨p1,0,none⟩),.pointer (some ⟨p2,0,none⟩)]) rfl Tryd.ntmps66 (Nat.le_of_ble_eq_true rfl) ?_
  have hB_ := Keep.size x0
  have hag := hv
  refine c_tail 6 mixed (by kernel_rfl) rfl rfl ?_
  intro w1 x2
  refine t_val (v := .pointer (some ⟨g,0,none⟩)) (w0 rfl) (r_load (v := .pointer (some ⟨g,0,none⟩)) F_o72 (ej rfl rfl) (cell_of_blk (i := 0) (Ext.blk x2 hp1) rfl)) (t_val (v := .pointer (some ⟨p2,1,none⟩)) (w0 rfl) (r_field (off := 1) (o' := 1) F_f42_1 (ej rfl rfl) rfl) (t_val (v := .slice Ah x.head.length ch) (w0 rfl) (r_load (v := .slice Ah x.head.length ch) F_o39 (ej rfl rfl) (cell_of_blk (i := 1) (Ext.blk x2 hp2) rfl)) (t_val (v := .int .i64 ((i : Nat) : Int)) (w0 rfl) (r_move (v := .int .i64 ((i : Nat) : Int)) (ej rfl rfl)) ?_)))
  obtain ⟨b3,o4,x5,csx5,hA6,hx7,hR8,hc9⟩ := Row.at_ hrh i (by omega)
  obtain rfl := agAt_of hx7
  obtain ⟨rfl,wf10⟩ := hR8
  refine t_val (v := .pointer (some ⟨b3,o4 + i * 5,none⟩)) (w0 rfl) (r_indexR (j := i) F_l39 (ej rfl rfl) hA6 (ej rfl rfl) rfl (by omega)) (t_val (v := .agg #[.int .i8 ((agAt x.head i).k),.string ((agAt x.head i).t.v),.int .i8 ((agAt x.head i).t.l.k),.int .i64 ((agAt x.head i).t.l.n),.string ((agAt x.head i).t.l.s)]) (w0 rfl) (r_loadL (cs := [.int .i8 ((agAt x.head i).k),.string ((agAt x.head i).t.v),.int .i8 ((agAt x.head i).t.l.k),.int .i64 ((agAt x.head i).t.l.n),.string ((agAt x.head i).t.l.s)]) F_m64 (ej rfl rfl) rfl rfl (sub_cells (cells_ext x2 (cells_ext x0 hc9)) 0 rfl)) (t_done (s_call F_e67 (w0 rfl) ev_f (m2 (ej rfl rfl) (ej rfl rfl)) (args := #[.pointer (some ⟨g,0,none⟩),.agg #[.int .i8 ((agAt x.head i).k),.string ((agAt x.head i).t.v),.int .i8 ((agAt x.head i).t.l.k),.int .i64 ((agAt x.head i).t.l.n),.string ((agAt x.head i).t.l.s)]]) rfl (p_arg (agAt x.head i) g (s0) wz _ (Ext.trans x0 x2) tb (BW.ext hb x2) tf wf10 hag (by omega)) ?_)))
  rintro _ w11 ⟨rfl,wr12⟩
  refine c_done (ret0 rfl ?_)
  exact ⟨_,rfl,rfl,Wr.cast (Wr.then_ (Wr.of_ext hb x2 hB_) wr12) (rfl)⟩
theorem p_rule (x : Ru) (Ah Ab : Option Addr) (ch cb : Nat) (g : Nat) (s0 : ByteArray) (wz : World) (w : World) (x0 : Ext wz w) (tb : Tabs Tryd.prog wz) (hb : BW 5 85 wz.heap.size w g s0) (ho : x.okc ch cb) (hrh : Row RG 5 wz Ah x.head) (hrb : Row RL 16 wz Ab x.body) (hru : ruB x = true) (tr : RelT Tryd.prog wz) (tf : FoldT Tryd.prog wz) (hs : s0.size + 9000000 ≤ 90000000000000) :
    Rt Tryd.prog 34 #[.pointer (some ⟨g,0,none⟩),.agg #[.string x.p,.slice Ah x.head.length ch,.slice Ab x.body.length cb]] w fun v w' => v = .tuple #[] ∧ Wr 5 85 wz.heap.size g (s0 ++ ruW x) w w' := by
  refine enter Tryd.func34 rfl (l := [.pointer (some ⟨g,0,none⟩),.agg #[.string x.p,.slice Ah x.head.length ch,.slice Ab x.body.length cb]]) rfl Tryd.ntmps34 (Nat.le_of_ble_eq_true rfl) ?_
  have hB_ := Keep.size x0
  have hpr_ := Ru.okc.p ho
  have hhl_ := Ru.okc.hl ho
  have hhc_ := Ru.okc.hc ho
  have hbl_ := Ru.okc.bl ho
  have hbc_ := Ru.okc.bc ho
  obtain ⟨hnm_,hpz_,h24_,h16_,hha_,hlb_⟩ := ruB_parts hru
  have hcw_ := headW_size hru hrh
  refine c_seq (c_reg (s_box (v := .pointer (some ⟨g,0,none⟩)) (cs := #[.pointer (some ⟨g,0,none⟩)]) (w0 rfl) (ej rfl rfl) rfl ?_))
  intro w2 g1 n3
  have ne_g1 : g1 ≠ g := by have a_ := NewB.eq n3; have b_ := BW.lt hb; omega
  refine s_box (v := .agg #[.string x.p,.slice Ah x.head.length ch,.slice Ab x.body.length cb]) (cs := #[.string x.p,.slice Ah x.head.length ch,.slice Ab x.body.length cb]) (w0 rfl) (ej rfl rfl) rfl ?_
  intro w5 g4 n6
  have ne_g4 : g4 ≠ g := by have a_ := NewB.eq n6; have b_ := BW.lt (BW.ext hb (NewB.ext n3)); omega
  refine c_done (n_then (c_seq (c_reg (s_load (v := .pointer (some ⟨g,0,none⟩)) F_o72 (ej rfl rfl) (cell_of_blk (i := 0) (Ext.blk (NewB.ext n6) (NewB.blk n3)) rfl) (w0 rfl) (s_field (off := 0) (o' := 0) F_f42_0 (ej rfl rfl) rfl (w0 rfl) (s_load (v := .string x.p) F_o9 (ej rfl rfl) (cell_of_blk (i := 0) (NewB.blk n6) rfl) (w0 rfl) (s_field (off := 1) (o' := 1) F_f42_1 (ej rfl rfl) rfl (w0 rfl) (s_load (v := .slice Ah x.head.length ch) F_o39 (ej rfl rfl) (cell_of_blk (i := 1) (NewB.blk n6) rfl) (w0 rfl) (s_lenL F_l39 (ej rfl rfl) (w0 rfl) (s_makeFunc (vf := #[]) (vc := #[.pointer (some ⟨g1,0,none⟩),.pointer (some ⟨g4,0,none⟩)]) m0 (m2 (ej rfl rfl) (ej rfl rfl)) (w0 rfl) (s_call F_e39 (w0 rfl) ev_f (m4 (ej rfl rfl) (ej rfl rfl) (ej rfl rfl) (ej rfl rfl)) (args := #[.pointer (some ⟨g,0,none⟩),.string x.p,.int .i64 (x.head.length : Int),.func (.func 66) #[] #[.pointer (some ⟨g1,0,none⟩),.pointer (some ⟨g4,0,none⟩)]]) rfl (p_columnsR x.p _ (x.head.map argW) g g1 g4 (s0) wz _ (Ext.trans (Ext.trans x0 (NewB.ext n3)) (NewB.ext n6)) tb (BW.ext (BW.ext hb (NewB.ext n3)) (NewB.ext n6)) (by rw [List.length_map]) (by rw [List.length_map]; exact h24_) (fun i_ hi_ => by rw [List.length_map] at hi_; rw [argW_at hi_]; have z_ := argW_size (hha_ i_ hi_) (RG_wf hrh hi_); omega) (by omega) (fun i_ w_ s_ hi_ x_ bl_ hb_ hs_ => by rw [List.length_map] at hi_; rw [argW_at hi_]; exact p_rule1 i_ x Ah Ab ch cb g g1 g4 s_ wz w_ x_ tb hb_ tf hrh (Bld.blk bl_ (Ext.blk (NewB.ext n6) (NewB.blk n3)) (Or.inl (by decide)) ne_g1) (Bld.blk bl_ (NewB.blk n6) (Or.inl (by decide)) ne_g4) hi_ (hha_ i_ hi_) hs_)) ?_)))))))))))
  rintro _ w7 ⟨rfl,wr8⟩
  refine c_done (n_then (c_seq (c_seq (c_reg (s_field (off := 2) (o' := 2) F_f42_2 (ej rfl rfl) rfl (w0 rfl) (s_load (v := .slice Ab x.body.length cb) F_o40 (ej rfl rfl) (cell_of_blk (i := 2) (Wr.blk wr8 (NewB.blk n6) (Or.inl (by decide)) ne_g4) rfl) (w0 rfl) (s_lenL F_l40 (ej rfl rfl) (w0 rfl) (s_move (v := .int .i64 0) ev_c (w0 rfl) (c_done (n_then (c_block ?_)))))))))))
  have ge9 : wz.heap.size ≤ g1 := by have a_ := NewB.eq n3; have b_ := Keep.size x0; omega
  refine c_loop (α := Nat) (fun (k : Nat) env_ w_ => Wr 5 85 wz.heap.size g (s0 ++ colW x.p (x.head.map argW) ++ ruP x.body k) w w_ ∧ w_.heap[g1]? = some (.cells #[.pointer (some ⟨g,0,none⟩)] 72 (0,0)) ∧ k ≤ x.body.length ∧ env_ 2 = .pointer (some ⟨g1,0,none⟩) ∧ env_ 15 = .slice Ab x.body.length cb ∧ env_ 16 = .int .i64 (x.body.length : Int) ∧ env_ 17 = .int .i64 ((k : Nat) : Int)) (fun k => x.body.length - k) (0) ⟨(Wr.cast (Wr.then_ (Wr.of_ext hb (Ext.trans (NewB.ext n3) (NewB.ext n6)) hB_) wr8) (by simp only [ruP,app_nil])),(Wr.blk wr8 (Ext.blk (NewB.ext n6) (NewB.blk n3)) (Or.inl (by decide)) ne_g1),Nat.zero_le _,rfl,rfl,rfl,rfl⟩ ?_
  rintro k env12 w10 ⟨x11,bk18,i13,e14,e15,e16,e17⟩
  have hP_ := ruP_le hrb hlb_ k i13
  have hkb_ : k * 500004 ≤ 16 * 500004 := Nat.mul_le_mul_right _ (by omega)
  refine c_seq (c_reg (s_cmp (r := decide (((k : Nat) : Int) < (x.body.length : Int))) (ej rfl e17) (ej rfl e16) rfl (w0 rfl) (c_done (n_then (c_seq ?_)))))
  by_cases h19 : ((k : Nat) : Int) < (x.body.length : Int)
  · refine c_cond1 (vb (ej rfl rfl) (decide_eq_true h19)) (c_skip (n_then (c_seq (c_block (c_seq (c_reg (s_move (v := .int .i64 ((k : Nat) : Int)) (ej rfl e17) (w0 rfl) ?_)))))))
    obtain ⟨b20,o21,x22,csx22,hA23,hx24,hR25,hc26⟩ := Row.at_ hrb k (by omega)
    obtain rfl := ltAt_of hx24
    obtain ⟨Aa27,A28,A29,ca30,c31,c32,rfl,ho33,ra34,r35,r36⟩ := hR25
    have q37_a := Lt.okc.a ho33
    have q37_e1 := Lt.okc.e1 ho33
    have q37_e2 := Lt.okc.e2 ho33
    have := Ex.okc.l q37_e1
    have := Ex.okc.l q37_e2
    have := Ex.okc.c q37_e1
    have := Ex.okc.c q37_e2
    have := At.okc.l q37_a
    have := At.okc.c q37_a
    have := At.okc.p q37_a
    refine s_indexR (j := k) F_l40 (ej rfl e15) hA23 (ej rfl e17) rfl (by omega) (w0 rfl) (s_loadL (cs := [.int .i8 ((ltAt x.body k).k),.string ((ltAt x.body k).a.p),.slice Aa27 ((ltAt x.body k).a.args.length) ca30,.int .i8 ((ltAt x.body k).r),.int .i8 ((ltAt x.body k).e1.op),.string ((ltAt x.body k).e1.t.v),.int .i8 ((ltAt x.body k).e1.t.l.k),.int .i64 ((ltAt x.body k).e1.t.l.n),.string ((ltAt x.body k).e1.t.l.s),.slice A28 ((ltAt x.body k).e1.kids.length) c31,.int .i8 ((ltAt x.body k).e2.op),.string ((ltAt x.body k).e2.t.v),.int .i8 ((ltAt x.body k).e2.t.l.k),.int .i64 ((ltAt x.body k).e2.t.l.n),.string ((ltAt x.body k).e2.t.l.s),.slice A29 ((ltAt x.body k).e2.kids.length) c32]) F_m120 (ej rfl rfl) rfl rfl (sub_cells (cells_ext (Wr.after x11 x0 rfl) hc26) 0 rfl) (w0 rfl) (s_alloc (cs := #[.int .i8 0,.string (⟨#[]⟩ : ByteArray),.slice none 0 0,.int .i8 0,.int .i8 0,.string (⟨#[]⟩ : ByteArray),.int .i8 0,.int .i64 0,.string (⟨#[]⟩ : ByteArray),.slice none 0 0,.int .i8 0,.string (⟨#[]⟩ : ByteArray),.int .i8 0,.int .i64 0,.string (⟨#[]⟩ : ByteArray),.slice none 0 0]) (w0 rfl) F_z120 rfl ?_))
    intro w39 g38 n40
    have ne_g38 : g38 ≠ g := by have a_ := NewB.eq n40; have b_ := BW.lt (Wr.bw x11); omega
    refine s_assign (v := .int .i64 ((k : Nat) : Int)) (ej rfl rfl) (w0 rfl) (s_store (cs' := #[.int .i8 ((ltAt x.body k).k),.string ((ltAt x.body k).a.p),.slice Aa27 ((ltAt x.body k).a.args.length) ca30,.int .i8 ((ltAt x.body k).r),.int .i8 ((ltAt x.body k).e1.op),.string ((ltAt x.body k).e1.t.v),.int .i8 ((ltAt x.body k).e1.t.l.k),.int .i64 ((ltAt x.body k).e1.t.l.n),.string ((ltAt x.body k).e1.t.l.s),.slice A28 ((ltAt x.body k).e1.kids.length) c31,.int .i8 ((ltAt x.body k).e2.op),.string ((ltAt x.body k).e2.t.v),.int .i8 ((ltAt x.body k).e2.t.l.k),.int .i64 ((ltAt x.body k).e2.t.l.n),.string ((ltAt x.body k).e2.t.l.s),.slice A29 ((ltAt x.body k).e2.kids.length) c32]) F_sz120 (ej rfl rfl) (ej rfl rfl) (l := [.int .i8 ((ltAt x.body k).k),.string ((ltAt x.body k).a.p),.slice Aa27 ((ltAt x.body k).a.args.length) ca30,.int .i8 ((ltAt x.body k).r),.int .i8 ((ltAt x.body k).e1.op),.string ((ltAt x.body k).e1.t.v),.int .i8 ((ltAt x.body k).e1.t.l.k),.int .i64 ((ltAt x.body k).e1.t.l.n),.string ((ltAt x.body k).e1.t.l.s),.slice A28 ((ltAt x.body k).e1.kids.length) c31,.int .i8 ((ltAt x.body k).e2.op),.string ((ltAt x.body k).e2.t.v),.int .i8 ((ltAt x.body k).e2.t.l.k),.int .i64 ((ltAt x.body k).e2.t.l.n),.string ((ltAt x.body k).e2.t.l.s),.slice A29 ((ltAt x.body k).e2.kids.length) c32]) rfl rfl rfl (NewB.blk n40) (Nat.le_of_ble_eq_true rfl) rfl (w0 rfl) ?_)
    intro w41 k42
    refine c_done (n_then (c_seq (c_seq (c_reg (s_move (v := .int .i64 ((k : Nat) : Int)) (ej rfl rfl) (w0 rfl) (s_cmp (r := decide (((k : Nat) : Int) = 0)) (ej rfl rfl) ev_c rfl (w0 rfl) (c_done (n_then ?_))))))))
    by_cases h43 : ((k : Nat) : Int) = 0
    · refine c_cond1 (vb (ej rfl rfl) (decide_eq_true h43)) (c_reg (s_load (v := .pointer (some ⟨g,0,none⟩)) F_o72 (ej rfl e14) (cell_of_blk (i := 0) (Ext.blk (Keep.then_ (NewB.ext n40) (Wrote.keep k42) (fun i_ hi_ h_ => by have a_ := NewB.eq n40; have b_ := Keep.size (Ext.refl w10); omega)) bk18) rfl) (w0 rfl) (s_bslice (vs := [(0,.string (⟨#[32,58,45,32]⟩ : ByteArray))]) (cs := #[.string (⟨#[32,58,45,32]⟩ : ByteArray)]) (b1 ev_c) (bs122_1_0s (⟨#[32,58,45,32]⟩ : ByteArray)) (w0 rfl) ?_)))
      intro w45 g44 n46
      have ne_g44 : g44 ≠ g := by have a_ := NewB.eq n46; have b_ := BW.lt (BW.ext (Wr.bw x11) (Keep.then_ (NewB.ext n40) (Wrote.keep k42) (fun i_ hi_ h_ => by have a_ := NewB.eq n40; have b_ := Keep.size (Ext.refl w10); omega))); omega
      refine s_call F_e35 (w0 rfl) ev_f (m2 (ej rfl rfl) (ej rfl rfl)) (args := #[.pointer (some ⟨g,0,none⟩),.slice (some ⟨g44,0,none⟩) 1 1]) rfl (p_put 85 _ g g44 (s0 ++ colW x.p (x.head.map argW) ++ ruP x.body k) [(⟨#[32,58,45,32]⟩ : ByteArray)] _ (BW.ext (Wr.bw x11) (Ext.trans (Keep.then_ (NewB.ext n40) (Wrote.keep k42) (fun i_ hi_ h_ => by have a_ := NewB.eq n40; have b_ := Keep.size (Ext.refl w10); omega)) (NewB.ext n46))) (Nat.le_trans (Nat.le_trans (Nat.le_trans (Nat.le_trans hB_ (Wr.size x11)) (Keep.size (NewB.ext n40))) (Keep.size (Wrote.keep k42))) (Keep.size (NewB.ext n46))) (by decide) F_lies85 (NewB.blk n46) (by simp only [catL,ByteArray.size_append,z0,z1,z2,z3,z4,z5,z6,z7]; omega) (by simp)) ?_
      rintro _ w47 ⟨rfl,wr48⟩
      refine c_done (n_then (c_reg (s_load (v := .pointer (some ⟨g,0,none⟩)) F_o72 (ej rfl e14) (cell_of_blk (i := 0) (Wr.blk wr48 (Ext.blk (NewB.ext n46) (Keep.blk (Wrote.keep k42) (Ext.blk (NewB.ext n40) bk18) (by have a_ := NewB.eq n40; have b_ := lt_of_blk bk18; omega))) (Or.inl (by decide)) ne_g1) rfl) (w0 rfl) (s_loadL (cs := [.int .i8 ((ltAt x.body k).k),.string ((ltAt x.body k).a.p),.slice Aa27 ((ltAt x.body k).a.args.length) ca30,.int .i8 ((ltAt x.body k).r),.int .i8 ((ltAt x.body k).e1.op),.string ((ltAt x.body k).e1.t.v),.int .i8 ((ltAt x.body k).e1.t.l.k),.int .i64 ((ltAt x.body k).e1.t.l.n),.string ((ltAt x.body k).e1.t.l.s),.slice A28 ((ltAt x.body k).e1.kids.length) c31,.int .i8 ((ltAt x.body k).e2.op),.string ((ltAt x.body k).e2.t.v),.int .i8 ((ltAt x.body k).e2.t.l.k),.int .i64 ((ltAt x.body k).e2.t.l.n),.string ((ltAt x.body k).e2.t.l.s),.slice A29 ((ltAt x.body k).e2.kids.length) c32]) F_m120 (ej rfl rfl) rfl rfl (blk_cells (Wr.blk wr48 (Ext.blk (NewB.ext n46) (Wrote.blk k42)) (Or.inl (by decide)) ne_g38) 0 rfl) (w0 rfl) ?_))))
      have hz49 := ltW_at hrb hlb_ (i := k) (by omega)
      refine s_call F_e68 (w0 rfl) ev_f (m2 (ej rfl rfl) (ej rfl rfl)) (args := #[.pointer (some ⟨g,0,none⟩),.agg #[.int .i8 ((ltAt x.body k).k),.string ((ltAt x.body k).a.p),.slice Aa27 ((ltAt x.body k).a.args.length) ca30,.int .i8 ((ltAt x.body k).r),.int .i8 ((ltAt x.body k).e1.op),.string ((ltAt x.body k).e1.t.v),.int .i8 ((ltAt x.body k).e1.t.l.k),.int .i64 ((ltAt x.body k).e1.t.l.n),.string ((ltAt x.body k).e1.t.l.s),.slice A28 ((ltAt x.body k).e1.kids.length) c31,.int .i8 ((ltAt x.body k).e2.op),.string ((ltAt x.body k).e2.t.v),.int .i8 ((ltAt x.body k).e2.t.l.k),.int .i64 ((ltAt x.body k).e2.t.l.n),.string ((ltAt x.body k).e2.t.l.s),.slice A29 ((ltAt x.body k).e2.kids.length) c32]]) rfl (p_literal (ltAt x.body k) Aa27 A28 A29 ca30 c31 c32 g (s0 ++ colW x.p (x.head.map argW) ++ ruP x.body k ++ (catL [(⟨#[32,58,45,32]⟩ : ByteArray)])) wz _ (Wr.after wr48 (Ext.trans (Keep.then_ (Ext.trans (Wr.after x11 x0 rfl) (NewB.ext n40)) (Wrote.keep k42) (fun i_ hi_ h_ => by have a_ := NewB.eq n40; have b_ := Keep.size (Wr.after x11 x0 rfl); omega)) (NewB.ext n46)) rfl) tb (Wr.bw wr48) ho33 ra34 r35 r36 (hlb_ k (by omega)) tr (by (try simp only [ByteArray.size_append,catL,z0,z2,z4]); omega)) ?_
      rintro _ w50 ⟨rfl,wr51⟩
      refine c_done (n_block (n_then (c_reg (s_add (r := ((k + 1 : Nat) : Int)) (ej rfl e17) ev_c (by omega) (by omega) (w0 rfl) (s_move (v := .int .i64 ((k + 1 : Nat) : Int)) (ej rfl rfl) (w0 rfl) (c_done ?_))))))
      exact ⟨(k + 1),_,rfl,⟨(Wr.cast (Wr.then_ (Wr.then_ (Wr.ext x11 (Ext.trans (Keep.then_ (NewB.ext n40) (Wrote.keep k42) (fun i_ hi_ h_ => by have a_ := NewB.eq n40; have b_ := Keep.size (Ext.refl w10); omega)) (NewB.ext n46)) hB_) wr48) wr51) (by simp only [ruP]; (first | rw [if_pos (by omega)] | rw [if_neg (by omega)]); simp only [catL,app_nil,app_assoc])),(Wr.blk wr51 (Wr.blk wr48 (Ext.blk (NewB.ext n46) (Keep.blk (Wrote.keep k42) (Ext.blk (NewB.ext n40) bk18) (by have a_ := NewB.eq n40; have b_ := lt_of_blk bk18; omega))) (Or.inl (by decide)) ne_g1) (Or.inl (by decide)) ne_g1),by omega,e14,e15,e16,rfl⟩,(show x.body.length - (k + 1) < x.body.length - k by omega)⟩
    refine c_cond0 (vb (ej rfl rfl) (decide_eq_false h43)) (c_reg (s_load (v := .pointer (some ⟨g,0,none⟩)) F_o72 (ej rfl e14) (cell_of_blk (i := 0) (Ext.blk (Keep.then_ (NewB.ext n40) (Wrote.keep k42) (fun i_ hi_ h_ => by have a_ := NewB.eq n40; have b_ := Keep.size (Ext.refl w10); omega)) bk18) rfl) (w0 rfl) (s_bslice (vs := [(0,.string (⟨#[44,32]⟩ : ByteArray))]) (cs := #[.string (⟨#[44,32]⟩ : ByteArray)]) (b1 ev_c) (bs122_1_0s (⟨#[44,32]⟩ : ByteArray)) (w0 rfl) ?_)))
    intro w53 g52 n54
    have ne_g52 : g52 ≠ g := by have a_ := NewB.eq n54; have b_ := BW.lt (BW.ext (Wr.bw x11) (Keep.then_ (NewB.ext n40) (Wrote.keep k42) (fun i_ hi_ h_ => by have a_ := NewB.eq n40; have b_ := Keep.size (Ext.refl w10); omega))); omega
    refine s_call F_e35 (w0 rfl) ev_f (m2 (ej rfl rfl) (ej rfl rfl)) (args := #[.pointer (some ⟨g,0,none⟩),.slice (some ⟨g52,0,none⟩) 1 1]) rfl (p_put 85 _ g g52 (s0 ++ colW x.p (x.head.map argW) ++ ruP x.body k) [(⟨#[44,32]⟩ : ByteArray)] _ (BW.ext (Wr.bw x11) (Ext.trans (Keep.then_ (NewB.ext n40) (Wrote.keep k42) (fun i_ hi_ h_ => by have a_ := NewB.eq n40; have b_ := Keep.size (Ext.refl w10); omega)) (NewB.ext n54))) (Nat.le_trans (Nat.le_trans (Nat.le_trans (Nat.le_trans hB_ (Wr.size x11)) (Keep.size (NewB.ext n40))) (Keep.size (Wrote.keep k42))) (Keep.size (NewB.ext n54))) (by decide) F_lies85 (NewB.blk n54) (by simp only [catL,ByteArray.size_append,z0,z1,z2,z3,z4,z5,z6,z7]; omega) (by simp)) ?_
    rintro _ w55 ⟨rfl,wr56⟩
    refine c_done (n_then (c_reg (s_load (v := .pointer (some ⟨g,0,none⟩)) F_o72 (ej rfl e14) (cell_of_blk (i := 0) (Wr.blk wr56 (Ext.blk (NewB.ext n54) (Keep.blk (Wrote.keep k42) (Ext.blk (NewB.ext n40) bk18) (by have a_ := NewB.eq n40; have b_ := lt_of_blk bk18; omega))) (Or.inl (by decide)) ne_g1) rfl) (w0 rfl) (s_loadL (cs := [.int .i8 ((ltAt x.body k).k),.string ((ltAt x.body k).a.p),.slice Aa27 ((ltAt x.body k).a.args.length) ca30,.int .i8 ((ltAt x.body k).r),.int .i8 ((ltAt x.body k).e1.op),.string ((ltAt x.body k).e1.t.v),.int .i8 ((ltAt x.body k).e1.t.l.k),.int .i64 ((ltAt x.body k).e1.t.l.n),.string ((ltAt x.body k).e1.t.l.s),.slice A28 ((ltAt x.body k).e1.kids.length) c31,.int .i8 ((ltAt x.body k).e2.op),.string ((ltAt x.body k).e2.t.v),.int .i8 ((ltAt x.body k).e2.t.l.k),.int .i64 ((ltAt x.body k).e2.t.l.n),.string ((ltAt x.body k).e2.t.l.s),.slice A29 ((ltAt x.body k).e2.kids.length) c32]) F_m120 (ej rfl rfl) rfl rfl (blk_cells (Wr.blk wr56 (Ext.blk (NewB.ext n54) (Wrote.blk k42)) (Or.inl (by decide)) ne_g38) 0 rfl) (w0 rfl) ?_))))
    have hz57 := ltW_at hrb hlb_ (i := k) (by omega)
    refine s_call F_e68 (w0 rfl) ev_f (m2 (ej rfl rfl) (ej rfl rfl)) (args := #[.pointer (some ⟨g,0,none⟩),.agg #[.int .i8 ((ltAt x.body k).k),.string ((ltAt x.body k).a.p),.slice Aa27 ((ltAt x.body k).a.args.length) ca30,.int .i8 ((ltAt x.body k).r),.int .i8 ((ltAt x.body k).e1.op),.string ((ltAt x.body k).e1.t.v),.int .i8 ((ltAt x.body k).e1.t.l.k),.int .i64 ((ltAt x.body k).e1.t.l.n),.string ((ltAt x.body k).e1.t.l.s),.slice A28 ((ltAt x.body k).e1.kids.length) c31,.int .i8 ((ltAt x.body k).e2.op),.string ((ltAt x.body k).e2.t.v),.int .i8 ((ltAt x.body k).e2.t.l.k),.int .i64 ((ltAt x.body k).e2.t.l.n),.string ((ltAt x.body k).e2.t.l.s),.slice A29 ((ltAt x.body k).e2.kids.length) c32]]) rfl (p_literal (ltAt x.body k) Aa27 A28 A29 ca30 c31 c32 g (s0 ++ colW x.p (x.head.map argW) ++ ruP x.body k ++ (catL [(⟨#[44,32]⟩ : ByteArray)])) wz _ (Wr.after wr56 (Ext.trans (Keep.then_ (Ext.trans (Wr.after x11 x0 rfl) (NewB.ext n40)) (Wrote.keep k42) (fun i_ hi_ h_ => by have a_ := NewB.eq n40; have b_ := Keep.size (Wr.after x11 x0 rfl); omega)) (NewB.ext n54)) rfl) tb (Wr.bw wr56) ho33 ra34 r35 r36 (hlb_ k (by omega)) tr (by (try simp only [ByteArray.size_append,catL,z0,z2,z4]); omega)) ?_
    rintro _ w58 ⟨rfl,wr59⟩
    refine c_done (n_block (n_then (c_reg (s_add (r := ((k + 1 : Nat) : Int)) (ej rfl e17) ev_c (by omega) (by omega) (w0 rfl) (s_move (v := .int .i64 ((k + 1 : Nat) : Int)) (ej rfl rfl) (w0 rfl) (c_done ?_))))))
    exact ⟨(k + 1),_,rfl,⟨(Wr.cast (Wr.then_ (Wr.then_ (Wr.ext x11 (Ext.trans (Keep.then_ (NewB.ext n40) (Wrote.keep k42) (fun i_ hi_ h_ => by have a_ := NewB.eq n40; have b_ := Keep.size (Ext.refl w10); omega)) (NewB.ext n54)) hB_) wr56) wr59) (by simp only [ruP]; (first | rw [if_pos (by omega)] | rw [if_neg (by omega)]); simp only [catL,app_nil,app_assoc])),(Wr.blk wr59 (Wr.blk wr56 (Ext.blk (NewB.ext n54) (Keep.blk (Wrote.keep k42) (Ext.blk (NewB.ext n40) bk18) (by have a_ := NewB.eq n40; have b_ := lt_of_blk bk18; omega))) (Or.inl (by decide)) ne_g1) (Or.inl (by decide)) ne_g1),by omega,e14,e15,e16,rfl⟩,(show x.body.length - (k + 1) < x.body.length - k by omega)⟩
  refine c_cond0 (vb (ej rfl rfl) (decide_eq_false h19)) (c_exit (e_then (e_then (e_hit (n_then (c_reg (s_load (v := .pointer (some ⟨g,0,none⟩)) F_o72 (ej rfl e14) (cell_of_blk (i := 0) bk18 rfl) (w0 rfl) (s_bslice (vs := [(0,.string (⟨#[46]⟩ : ByteArray))]) (cs := #[.string (⟨#[46]⟩ : ByteArray)]) (b1 ev_c) (bs122_1_0s (⟨#[46]⟩ : ByteArray)) (w0 rfl) ?_))))))))
  intro w61 g60 n62
  have ne_g60 : g60 ≠ g := by have a_ := NewB.eq n62; have b_ := BW.lt (Wr.bw x11); omega
  refine s_call F_e35 (w0 rfl) ev_f (m2 (ej rfl rfl) (ej rfl rfl)) (args := #[.pointer (some ⟨g,0,none⟩),.slice (some ⟨g60,0,none⟩) 1 1]) rfl (p_put 85 _ g g60 (s0 ++ colW x.p (x.head.map argW) ++ ruP x.body k) [(⟨#[46]⟩ : ByteArray)] _ (BW.ext (Wr.bw x11) (NewB.ext n62)) (Nat.le_trans (Nat.le_trans hB_ (Wr.size x11)) (Keep.size (NewB.ext n62))) (by decide) F_lies85 (NewB.blk n62) (by simp only [catL,ByteArray.size_append,z0,z1,z2,z3,z4,z5,z6,z7]; omega) (by simp)) ?_
  rintro _ w63 ⟨rfl,wr64⟩
  refine c_done (ret0 rfl ?_)
  exact ⟨_,rfl,rfl,Wr.cast (Wr.then_ (Wr.ext x11 (NewB.ext n62) hB_) wr64) (by (have e_ : k = x.body.length := by omega); subst e_; simp only [ruW,catL,app_nil,app_assoc])⟩
end Go.Proofs.Dw

set_option linter.unusedVariables false
set_option linter.unusedSimpArgs false
set_option maxRecDepth 10000
namespace Go.Proofs.Dw
open Go Go.Wk Go.Proofs Go.Lib
attribute [local irreducible] Go.wpList Go.wpStill Go.wpQuiet Go.Code.wp Go.Calls
theorem F_e33 : enterable Tryd.prog 33 = true := by kernel_rfl
theorem F_e34 : enterable Tryd.prog 34 = true := by kernel_rfl
theorem F_e37 : enterable Tryd.prog 37 = true := by kernel_rfl
theorem p_toldR (x : Ru) (Ah Ab : Option Addr) (ch cb : Nat) (w : World) (ho : x.okc ch cb) (hrh : Row RG 5 w Ah x.head) (hrb : Row RL 16 w Ab x.body) (tb : Tabs Tryd.prog w) (tr : RelT Tryd.prog w) (tf : FoldT Tryd.prog w) :
    Rt Tryd.prog 37 #[.agg #[.string x.p,.slice Ah x.head.length ch,.slice Ab x.body.length cb],.func (.func 33) #[] #[],.func (.func 34) #[] #[]] w fun v w' => v = .tuple #[.string (if ruB x then ruW x else ⟨#[]⟩),.int .i64 (code (ruB x))] ∧ Ext w w' := by
  refine enter Tryd.func37 rfl (l := [.agg #[.string x.p,.slice Ah x.head.length ch,.slice Ab x.body.length cb],.func (.func 33) #[] #[],.func (.func 34) #[] #[]]) rfl Tryd.ntmps37 (Nat.le_of_ble_eq_true rfl) ?_
  have hpr_ := Ru.okc.p ho
  have hhl_ := Ru.okc.hl ho
  have hhc_ := Ru.okc.hc ho
  have hbl_ := Ru.okc.bl ho
  have hbc_ := Ru.okc.bc ho
  refine c_seq (c_reg (s_box (v := .agg #[.string x.p,.slice Ah x.head.length ch,.slice Ab x.body.length cb]) (cs := #[.string x.p,.slice Ah x.head.length ch,.slice Ab x.body.length cb]) (w0 rfl) (ej rfl rfl) rfl ?_))
  intro w2 g1 n3
  refine s_assign (v := .string (⟨#[]⟩ : ByteArray)) ev_c (w0 rfl) (s_assign (v := .int .i64 0) ev_c (w0 rfl) (c_done (n_then (c_seq (c_seq (c_reg (s_move (v := .func (.func 33) #[] #[]) (ej rfl rfl) (w0 rfl) (s_loadL (cs := [.string x.p,.slice Ah x.head.length ch,.slice Ab x.body.length cb]) F_m42 (ej rfl rfl) rfl rfl (blk_cells (NewB.blk n3) 0 rfl) (w0 rfl) (s_call F_e33 (w0 rfl) (ej rfl rfl) (m1 (ej rfl rfl)) (args := #[.agg #[.string x.p,.slice Ah x.head.length ch,.slice Ab x.body.length cb]]) rfl (t_CheckRule x Ah Ab ch cb _ ho (Row.extG hrh (NewB.ext n3)) (Row.extL hrb (NewB.ext n3))) ?_)))))))))
  rintro _ w5 ⟨rfl,x4⟩
  refine s_cmp (r := !(ruB x)) (ej rfl rfl) ev_c (ci_tn (b := (ruB x)) (by decide)) (w0 rfl) (c_done (n_then ?_))
  rcases Bool.eq_false_or_eq_true (ruB x) with h6 | h6
  · refine c_cond0 (vb (ej rfl rfl) (nbt h6)) (c_skip (n_then (c_seq (c_reg (s_alloc (cs := #[.pointer none,.slice none 0 0]) (w0 rfl) F_z85 rfl ?_)))))
    intro w8 g7 n9
    have bw_ : BW 5 85 w.heap.size w8 g7 ⟨#[]⟩ := BW.new n9 rfl (by decide) (Keep.size (Ext.trans (NewB.ext n3) x4))
    have hB_ := Keep.size (Ext.trans (Ext.trans (NewB.ext n3) x4) (NewB.ext n9))
    refine c_done (n_then (c_seq (c_reg (s_move (v := .func (.func 34) #[] #[]) (ej rfl rfl) (w0 rfl) (s_loadL (cs := [.string x.p,.slice Ah x.head.length ch,.slice Ab x.body.length cb]) F_m42 (ej rfl rfl) rfl rfl (blk_cells (Ext.blk (NewB.ext n9) (Ext.blk x4 (NewB.blk n3))) 0 rfl) (w0 rfl) (s_call F_e34 (w0 rfl) (ej rfl rfl) (m2 (ej rfl rfl) (ej rfl rfl)) (args := #[.pointer (some ⟨g7,0,none⟩),.agg #[.string x.p,.slice Ah x.head.length ch,.slice Ab x.body.length cb]]) rfl (p_rule x Ah Ab ch cb g7 ((⟨#[]⟩ : ByteArray)) w _ (Ext.trans (Ext.trans (NewB.ext n3) x4) (NewB.ext n9)) tb bw_ ho hrh hrb (by assumption) tr tf (by (try simp only [ByteArray.size_append,z0]); omega)) ?_))))))
    rintro _ w10 ⟨rfl,wr11⟩
    refine c_done (n_then (c_seq (c_reg (s_field (off := 0) (o' := 0) F_f85_0 (ej rfl rfl) rfl (w0 rfl) (s_call F_e36 (w0 rfl) ev_f (m1 (ej rfl rfl)) (args := #[.pointer (some ⟨g7,0,none⟩)]) rfl (b_String 85 _ g7 ((⟨#[]⟩ : ByteArray) ++ (ruW x)) _ (Wr.bw wr11) (Nat.le_trans hB_ (Wr.size wr11)) (by rw [nil_app]; exact ruW_ne)) ?_)))))
    rintro _ w12 ⟨rfl,bl13⟩
    refine s_assign (v := .string ((⟨#[]⟩ : ByteArray) ++ (ruW x))) (ej rfl rfl) (w0 rfl) (s_assign (v := .int .i64 0) ev_c (w0 rfl) (c_done (n_then (c_ret (ret2 (v := .string ((⟨#[]⟩ : ByteArray) ++ (ruW x))) (v2 := .int .i64 0) rfl rfl rfl rfl rfl ?_)))))
    refine ⟨_,rfl,?_,(ext_bel (Wr.after wr11 (Ext.trans (Ext.trans (NewB.ext n3) x4) (NewB.ext n9)) rfl) bl13)⟩
    (simp [code,nil_app, *])
  refine c_cond1 (vb (ej rfl rfl) (nbf h6)) (c_seq (c_reg (s_assign (v := .string (⟨#[]⟩ : ByteArray)) ev_c (w0 rfl) (s_assign (v := .int .i64 40) ev_c (w0 rfl) (c_done (n_then (c_ret (r_then (ret2 (v := .string (⟨#[]⟩ : ByteArray)) (v2 := .int .i64 40) rfl rfl rfl rfl rfl ?_)))))))))
  refine ⟨_,rfl,?_,(Ext.trans (NewB.ext n3) x4)⟩
  (simp [code,nil_app, *])
theorem p_Rule (x : Ru) (Ah Ab : Option Addr) (ch cb : Nat) (w : World) (ho : x.okc ch cb) (hrh : Row RG 5 w Ah x.head) (hrb : Row RL 16 w Ab x.body) (tb : Tabs Tryd.prog w) (tr : RelT Tryd.prog w) (tf : FoldT Tryd.prog w) :
    Rt Tryd.prog 15 #[.agg #[.string x.p,.slice Ah x.head.length ch,.slice Ab x.body.length cb]] w fun v w' => v = .tuple #[.string (if ruB x then ruW x else ⟨#[]⟩),.int .i64 (code (ruB x))] ∧ Ext w w' := by
  refine enter Tryd.func15 rfl (l := [.agg #[.string x.p,.slice Ah x.head.length ch,.slice Ab x.body.length cb]]) rfl Tryd.ntmps15 (Nat.le_of_ble_eq_true rfl) ?_
  have hpr_ := Ru.okc.p ho
  have hhl_ := Ru.okc.hl ho
  have hhc_ := Ru.okc.hc ho
  have hbl_ := Ru.okc.bl ho
  have hbc_ := Ru.okc.bc ho
  refine c_seq (c_reg (s_box (v := .agg #[.string x.p,.slice Ah x.head.length ch,.slice Ab x.body.length cb]) (cs := #[.string x.p,.slice Ah x.head.length ch,.slice Ab x.body.length cb]) (w0 rfl) (ej rfl rfl) rfl ?_))
  intro w2 g1 n3
  refine s_assign (v := .string (⟨#[]⟩ : ByteArray)) ev_c (w0 rfl) (s_assign (v := .int .i64 0) ev_c (w0 rfl) (c_done (n_then (c_seq (c_reg (s_loadL (cs := [.string x.p,.slice Ah x.head.length ch,.slice Ab x.body.length cb]) F_m42 (ej rfl rfl) rfl rfl (blk_cells (NewB.blk n3) 0 rfl) (w0 rfl) (s_call F_e37 (w0 rfl) ev_f (m3 (ej rfl rfl) ev_f ev_f) (args := #[.agg #[.string x.p,.slice Ah x.head.length ch,.slice Ab x.body.length cb],.func (.func 33) #[] #[],.func (.func 34) #[] #[]]) rfl (p_toldR x Ah Ab ch cb _ ho (Row.extG hrh (NewB.ext n3)) (Row.extL hrb (NewB.ext n3)) (Tabs.ext tb (NewB.ext n3)) (RelT.ext tr (NewB.ext n3)) (FoldT.ext tf (NewB.ext n3))) ?_)))))))
  rintro _ w5 ⟨rfl,x4⟩
  refine s_extract (v := .string (if ruB x then ruW x else ⟨#[]⟩)) (ej rfl rfl) rfl (w0 rfl) (s_extract (v := .int .i64 (code (ruB x))) (ej rfl rfl) rfl (w0 rfl) (s_assign (v := .string (if ruB x then ruW x else ⟨#[]⟩)) (ej rfl rfl) (w0 rfl) (s_assign (v := .int .i64 (code (ruB x))) (ej rfl rfl) (w0 rfl) (c_done (n_then (c_ret (ret2 (v := .string (if ruB x then ruW x else ⟨#[]⟩)) (v2 := .int .i64 (code (ruB x))) rfl rfl rfl rfl rfl ?_)))))))
  refine ⟨_,rfl,?_,(Ext.trans (NewB.ext n3) x4)⟩
  rfl
end Go.Proofs.Dw

set_option linter.unusedVariables false
set_option linter.unusedSimpArgs false
namespace Go.Wk
open Go Go.RowKit Go.Lib
/-! ### a copied list of rules whose elements change places -/
def FU (e lo : Nat) (w : World) (b : Nat) (l : List Ru) : Prop := lo ≤ b ∧ Fill (EG QU markU (b + 1) l) 3 e w b (l.length + 1) (l.length + 1)
section
variable {e lo b : Nat} {w w' : World} {l : List Ru}
theorem FU.ext (h : FU e lo w b l) (x : Ext w w') : FU e lo w' b l := ⟨h.1,Fill.ext h.2 x (fun j c hE => EG.keep okU hE x (fun _ h => h.elim))⟩
theorem FU.mono {lo' : Nat} (h : FU e lo w b l) (hl : lo' ≤ lo) : FU e lo' w b l := ⟨Nat.le_trans hl h.1,h.2⟩
theorem FU.at_ (h : FU e lo w b l) {j : Nat} (hj : j < l.length) : ∃ c,QU (b + 1) w (ruAt l j) c ∧ ∀ (k : Nat) (u : Value),c[k]? = some u → w.cell? ⟨b,0 + j * 3 + k,none⟩ = some u := by
  obtain ⟨c,h1,_,h3⟩ := h.2.cells j (by omega)
  unfold EG at h1; rw [if_pos hj] at h1
  exact ⟨c,h1 _ (ruAt_there hj),h3⟩
end
section
variable {P : Program} {ops : Array Oper} {Q : Exit → Act → World → Prop} {rest : List Oper} {n d t : Nat} {env : Nat → Value} {ds : List Deferred} {w w' : World} {v u : Value}
  {ty T : TypeId} {pos : String} {af : Array Edge} {gd : Option (Nat × Bool)} {x y z : Operand}
/-! ### an empty text -/
theorem r_sliceDataN {ln c : Nat} (hx : (mkA n env ds).eval x = .slice none ln c) : (execOp (mkA n env ds).eval ⟨some d,.call ⟨.builtin .unsafeSliceData,#[x],#[T]⟩,ty,pos,af,gd⟩).run P w = .ok (.value (.pointer none)) w := by
  simp only [execOp,resolve,Sem.run_bind,Sem.run_pure,Result.andThen_ok,invoke,builtin,m1 hx]
  rfl
theorem r_unsafeStringN {pt it : TypeId} (hx : (mkA n env ds).eval x = .pointer none) (hy : (mkA n env ds).eval y = .int .i64 0) : (execOp (mkA n env ds).eval ⟨some d,.call ⟨.builtin .unsafeString,#[x,y],#[pt,it]⟩,ty,pos,af,gd⟩).run P w = .ok (.value (.string ⟨#[]⟩)) w := by
  simp only [execOp,resolve,Sem.run_bind,Sem.run_pure,Result.andThen_ok,invoke,builtin,m2 hx hy]
  rfl
theorem s_unsafeStringN {pt it : TypeId} (hx : (mkA n env ds).eval x = .pointer none) (hy : (mkA n env ds).eval y = .int .i64 0) (hw : Region.wanted ⟨some d,.call ⟨.builtin .unsafeString,#[x,y],#[pt,it]⟩,ty,pos,af,gd⟩ (yielded ops (mkA n env ds).tmps) = true)
    (k : wpList P ops Q rest (mkA n (upd env d (.string ⟨#[]⟩)) ds) w) : wpList P ops Q (⟨some d,.call ⟨.builtin .unsafeString,#[x,y],#[pt,it]⟩,ty,pos,af,gd⟩ :: rest) (mkA n env ds) w := s_val hw (r_unsafeStringN hx hy) k
end
section
variable {P : Program} {ops : Array Oper} {Q : Exit → Act → World → Prop} {n : Nat} {ds : List Deferred} {w w0 : World} {G : Nat → Value → World → World → Prop} {dst : Nat → Nat} {m nh : Nat} {env0 env : Nat → Value} {B A : Nat → World}
end
end Go.Wk

set_option linter.unusedVariables false
set_option linter.unusedSimpArgs false
set_option maxRecDepth 10000
namespace Go.Proofs.Dw
open Go Go.Wk Go.Proofs Go.Lib
attribute [local irreducible] Go.wpList Go.wpStill Go.wpQuiet Go.Code.wp Go.Calls
theorem F_e57 : enterable Tryd.prog 57 = true := by kernel_rfl
theorem F_l51 : sliceT Tryd.prog 51 3 = true := by kernel_rfl
theorem l_BeyondRules (l : List Ru) (A : Option Addr) (c : Nat) (w : World) (hl : l.length * 64 ≤ 140737488351232) (hr : Row RU 3 w A l) :
    Rt Tryd.prog 27 #[.slice A l.length c] w fun v w' => (∃ z : Bool,v = .bool z ∧ (z = false → l.length ≤ 1048577)) ∧ Ext w w' := by
  refine enter Tryd.func27 rfl (l := [.slice A l.length c]) rfl Tryd.ntmps27 (Nat.le_of_ble_eq_true rfl) ?_
  refine c_seq (c_reg (s_assign (v := .bool false) ev_c (w0 rfl) (c_done (n_then (c_seq (c_reg (s_assign (v := .int .i64 0) ev_c (w0 rfl) (c_done (n_then (c_seq (c_seq ?_)))))))))))
  refine c_reg (s_assign (v := .int .i64 0) ev_c (w0 rfl) (c_done (n_then (c_block (c_loop (α := Nat × Nat) (fun x_ env_ w_ => match x_ with | (i,nn) => Ext w w_ ∧ i ≤ l.length ∧ i ≤ nn ∧ nn ≤ 1048576 ∧ env_ 0 = .slice A l.length c ∧ env_ 3 = .int .i64 ((nn : Nat) : Int) ∧ env_ 4 = .int .i64 ((i : Nat) : Int)) (fun x_ => match x_ with | (i,nn) => l.length - i) (0,0) ⟨Ext.refl _,Nat.zero_le _,Nat.zero_le _,(by omega),rfl,rfl,rfl⟩ ?_)))))
  rintro ⟨i,nn⟩ env3 w1 ⟨x2,i4,i5,i6,e7,e8,e9⟩
  refine c_seq (c_seq (c_reg (s_move (v := .int .i64 ((i : Nat) : Int)) (ej rfl e9) (w0 rfl) (s_move (v := .slice A l.length c) (ej rfl e7) (w0 rfl) (s_lenL F_l51 (ej rfl rfl) (w0 rfl) (s_cmp (r := decide (((i : Nat) : Int) < (l.length : Int))) (ej rfl rfl) (ej rfl rfl) rfl (w0 rfl) (c_done (n_then ?_))))))))
  by_cases h10 : ((i : Nat) : Int) < (l.length : Int)
  · refine c_cond1 (vb (ej rfl rfl) (decide_eq_true h10)) (c_skip (n_then (c_seq (c_block (c_seq (c_reg (s_move (v := .int .i64 ((nn : Nat) : Int)) (ej rfl e8) (w0 rfl) (s_move (v := .slice A l.length c) (ej rfl e7) (w0 rfl) (s_move (v := .int .i64 ((i : Nat) : Int)) (ej rfl e9) (w0 rfl) ?_)))))))))
    obtain ⟨b11,o12,x13,csx13,hA14,hx15,hR16,hc17⟩ := Row.at_ hr i (by omega)
    obtain rfl := ruAt_of hx15
    obtain ⟨Ah18,Ab19,ch20,cb21,rfl,ho22,rh23,rb24⟩ := hR16
    have := Ru.okc.p ho22
    have := Ru.okc.hl ho22
    have := Ru.okc.hc ho22
    have := Ru.okc.bl ho22
    have := Ru.okc.bc ho22
    refine s_indexR (j := i) F_l51 (ej rfl rfl) hA14 (ej rfl rfl) rfl (by omega) (w0 rfl) (s_loadL (cs := [.string ((ruAt l i).p),.slice Ah18 ((ruAt l i).head.length) ch20,.slice Ab19 ((ruAt l i).body.length) cb21]) F_m42 (ej rfl rfl) rfl rfl (sub_cells (cells_ext x2 hc17) 0 rfl) (w0 rfl) (s_call F_e57 (w0 rfl) ev_f (m2 (ej rfl rfl) ev_c) (args := #[.agg #[.string ((ruAt l i).p),.slice Ah18 ((ruAt l i).head.length) ch20,.slice Ab19 ((ruAt l i).body.length) cb21],.int .i64 1048576]) rfl (l_RuleParts (ruAt l i) Ah18 Ab19 ch20 cb21 1048576 _ ho22 (Row.extG rh23 x2) (Row.extL rb24 x2) (by omega)) ?_))
    rintro _ w26 ⟨⟨z25,hz28,rfl⟩,x27⟩
    refine s_add (r := ((nn + z25 : Nat) : Int)) (ej rfl rfl) (ej rfl rfl) (by omega) (by omega) (w0 rfl) (s_assign (v := .int .i64 ((nn + z25 : Nat) : Int)) (ej rfl rfl) (w0 rfl) (c_done (n_then (c_seq (c_reg (s_move (v := .int .i64 ((nn + z25 : Nat) : Int)) (ej rfl rfl) (w0 rfl) (s_cmp (r := decide (1048576 < ((nn + z25 : Nat) : Int))) (ej rfl rfl) ev_c rfl (w0 rfl) (c_done (n_then ?_)))))))))
    by_cases h29 : 1048576 < ((nn + z25 : Nat) : Int)
    · refine c_cond1 (vb (ej rfl rfl) (decide_eq_true h29)) (c_seq (c_reg (s_assign (v := .bool true) ev_c (w0 rfl) (c_done (n_then (c_ret (r_block (r_then (r_then (r_block (r_then ?_)))))))))))
      refine ret1 (v := .bool true) rfl rfl rfl ?_
      exact ⟨_,rfl,⟨_,rfl,fun h_ => by cases h_⟩,(Ext.trans x2 x27)⟩
    refine c_cond0 (vb (ej rfl rfl) (decide_eq_false h29)) (c_skip (n_block (n_then (c_reg (s_move (v := .int .i64 ((i : Nat) : Int)) (ej rfl e9) (w0 rfl) (s_add (r := ((i + 1 : Nat) : Int)) (ej rfl rfl) ev_c (by omega) (by omega) (w0 rfl) (s_assign (v := .int .i64 ((i + 1 : Nat) : Int)) (ej rfl rfl) (w0 rfl) (c_done ?_))))))))
    exact ⟨(i + 1,nn + z25),_,rfl,⟨(Ext.trans x2 x27),by omega,by omega,by omega,e7,rfl,rfl⟩,(show l.length - (i + 1) < l.length - i by omega)⟩
  refine c_cond0 (vb (ej rfl rfl) (decide_eq_false h10)) (c_exit (e_then (e_then (e_hit (n_then (c_seq (c_reg (s_assign (v := .bool false) ev_c (w0 rfl) (c_done (n_then (c_ret ?_)))))))))))
  refine ret1 (v := .bool false) rfl rfl rfl ?_
  exact ⟨_,rfl,⟨_,rfl,fun h_ => by omega⟩,x2⟩
end Go.Proofs.Dw

set_option linter.unusedVariables false
set_option linter.unusedSimpArgs false
set_option maxRecDepth 10000
namespace Go.Proofs.Dw
open Go Go.Wk Go.Proofs Go.Lib
attribute [local irreducible] Go.wpList Go.wpStill Go.wpQuiet Go.Code.wp Go.Calls
end Go.Proofs.Dw

set_option linter.unusedVariables false
set_option linter.unusedSimpArgs false
set_option maxRecDepth 10000
namespace Go.Proofs.Dw
open Go Go.Wk Go.Proofs Go.Lib
attribute [local irreducible] Go.wpList Go.wpStill Go.wpQuiet Go.Code.wp Go.Calls
theorem b_String0 (T g : Nat) (w : World) (hg : w.heap[g]? = some (.cells #[.pointer none,.slice none 0 0] T (0,0))) :
    Rt Tryd.prog 36 #[.pointer (some ⟨g,0,none⟩)] w fun v w' => v = .string (⟨#[]⟩ : ByteArray) ∧ Ext w w' := by
  refine enter Tryd.func36 rfl (l := [.pointer (some ⟨g,0,none⟩)]) rfl Tryd.ntmps36 (Nat.le_of_ble_eq_true rfl) ?_
  refine c_seq (c_reg (s_assign (v := .string (⟨#[]⟩ : ByteArray)) ev_c (w0 rfl) (c_done (n_then (c_seq (c_tail 10 mixed (by kernel_rfl) rfl rfl ?_))))))
  intro w1 x2
  refine t_val (v := .pointer (some ⟨g,0,none⟩)) (w0 rfl) (r_move (v := .pointer (some ⟨g,0,none⟩)) (ej rfl rfl)) (t_val (v := .pointer (some ⟨g,0,none⟩)) (w0 rfl) (r_nilCheck (ej rfl rfl)) (t_val (v := .pointer (some ⟨g,1,none⟩)) (w0 rfl) (r_field (off := 1) (o' := 1) F_f83_1 (ej rfl rfl) rfl) (t_val (v := .slice none 0 0) (w0 rfl) (r_load (v := .slice none 0 0) F_o81 (ej rfl rfl) (cell_of_blk (i := 1) (Ext.blk x2 hg) rfl)) (t_val (v := .pointer none) (w0 rfl) (r_sliceDataN (ej rfl rfl)) (t_val (v := .pointer (some ⟨g,0,none⟩)) (w0 rfl) (r_move (v := .pointer (some ⟨g,0,none⟩)) (ej rfl rfl)) (t_val (v := .pointer (some ⟨g,0,none⟩)) (w0 rfl) (r_nilCheck (ej rfl rfl)) (t_val (v := .pointer (some ⟨g,1,none⟩)) (w0 rfl) (r_field (off := 1) (o' := 1) F_f83_1 (ej rfl rfl) rfl) (t_val (v := .slice none 0 0) (w0 rfl) (r_load (v := .slice none 0 0) F_o81 (ej rfl rfl) (cell_of_blk (i := 1) (Ext.blk x2 hg) rfl)) (t_val (v := .int .i64 0) (w0 rfl) (r_lenL F_l81 (ej rfl rfl)) (t_done (s_unsafeStringN (ej rfl rfl) (ej rfl rfl) (w0 rfl) ?_)))))))))))
  refine s_assign (v := .string (⟨#[]⟩ : ByteArray)) (ej rfl rfl) (w0 rfl) (c_done (n_then (c_ret (ret1 (v := .string (⟨#[]⟩ : ByteArray)) rfl rfl rfl ?_))))
  refine ⟨_,rfl,?_,x2⟩
  rfl
end Go.Proofs.Dw

set_option linter.unusedVariables false
set_option linter.unusedSimpArgs false
set_option maxRecDepth 10000
namespace Go.Proofs.Dw
open Go Go.Wk Go.Proofs Go.Lib
attribute [local irreducible] Go.wpList Go.wpStill Go.wpQuiet Go.Code.wp Go.Calls
end Go.Proofs.Dw

set_option linter.unusedVariables false
set_option linter.unusedSimpArgs false
namespace Go.Wk
open Go Go.RowKit Go.Lib
/-! ### a text gone through rune by rune -/
def runeB (c : Int) : Bool := decide ((97 ≤ c ∧ c ≤ 122) ∨ (65 ≤ c ∧ c ≤ 90) ∨ (48 ≤ c ∧ c ≤ 57) ∨ c = 95)
def runeAt (s : ByteArray) (i : Nat) : Nat := (Utf8.decode s i).1
def stepAt (s : ByteArray) (i : Nat) : Nat := (Utf8.decode s i).2
theorem byteAt_get {s : ByteArray} {i : Nat} (h : i < s.size) : (s[i]'h).toNat = byteAt s i := by
  have h' : i < s.data.size := h
  have e1 : s.data.getD i 0 = s.data[i] := by rw [Array.getD_eq_getD_getElem?,Array.getElem?_eq_getElem h']; rfl
  show (s.data[i]).toNat = (s.data.getD i 0).toNat
  rw [e1]
theorem rune_low {s : ByteArray} {i : Nat} (h : i < s.size) (hb : byteAt s i < 128) : runeAt s i = byteAt s i ∧ stepAt s i = 1 := by
  have := decode_ascii s i h (by rw [byteAt_get h]; exact hb)
  unfold runeAt stepAt; rw [this,byteAt_get h]; exact ⟨rfl,rfl⟩
theorem rune_high {s : ByteArray} {i : Nat} (h : i < s.size) (hb : ¬ byteAt s i < 128) : 128 ≤ runeAt s i ∧ 1 ≤ stepAt s i := decode_high s i h (by rw [byteAt_get h]; omega)
theorem rune_le (s : ByteArray) (i : Nat) : runeAt s i ≤ 2147483647 := decode_le s i
theorem rune_yes {s : ByteArray} {i : Nat} (h : i < s.size) (hr : runeB (runeAt s i) = true) : runeAt s i = byteAt s i ∧ stepAt s i = 1 ∧ letterB (byteAt s i) = true := by
  by_cases hb : byteAt s i < 128
  · obtain ⟨h1,h2⟩ := rune_low h hb
    refine ⟨h1,h2,?_⟩
    rw [h1] at hr; exact hr
  · have h1 := (rune_high h hb).1
    simp only [runeB,decide_eq_true_eq] at hr; omega
theorem rune_no {s : ByteArray} {i : Nat} (h : i < s.size) (hr : runeB (runeAt s i) = false) : letterB (byteAt s i) = false := by
  by_cases hb : byteAt s i < 128
  · obtain ⟨h1,h2⟩ := rune_low h hb
    rw [h1] at hr; exact hr
  · simp only [letterB,decide_eq_false_iff_not]; omega
section
variable {P : Program} {ops : Array Oper} {Q : Exit → Act → World → Prop} {rest : List Oper} {n d t : Nat} {env : Nat → Value} {ds : List Deferred} {w w' : World} {v u : Value}
  {ty T : TypeId} {pos : String} {af : Array Edge} {gd : Option (Nat × Bool)} {x y z : Operand}
theorem s_range {s : ByteArray} (hu : P.underlying T = some .string) (hx : (mkA n env ds).eval x = .string s) (hw : Region.wanted ⟨some d,.range T x,ty,pos,af,gd⟩ (yielded ops (mkA n env ds).tmps) = true)
    (k : ∀ w' g,NewB w g (.stringIter s 0) w' → wpList P ops Q rest (mkA n (upd env d (.pointer (some ⟨g,0,none⟩))) ds) w') : wpList P ops Q (⟨some d,.range T x,ty,pos,af,gd⟩ :: rest) (mkA n env ds) w := by
  refine s_val hw (w' := w.alloc (.stringIter s 0)) (v := .pointer (some ⟨w.heap.size,0,none⟩)) ?_ (k _ _ (newB w _))
  simp only [execOp,hx,Sem.run_bind]
  have : (Instr.range T (.string s)).run P w = .ok (.pointer (some ⟨w.heap.size,0,none⟩)) (w.alloc (.stringIter s 0)) := by
    simp [Instr.range,run_underlying hu]
  rw [this]; rfl
theorem s_next1 {g i : Nat} {s : ByteArray} (hb : w.heap[g]? = some (.stringIter s i)) (hx : (mkA n env ds).eval x = .pointer (some ⟨g,0,none⟩)) (hi : i < s.size) (hw : Region.wanted ⟨some d,.next x true,ty,pos,af,gd⟩ (yielded ops (mkA n env ds).tmps) = true)
    (k : ∀ w',w'.heap[g]? = some (.stringIter s (i + stepAt s i)) → Keep (fun j => j = g) w w' → wpList P ops Q rest (mkA n (upd env d (.tuple #[.bool true,.int .i64 (i : Int),.int .i32 (runeAt s i : Int)])) ds) w') : wpList P ops Q (⟨some d,.next x true,ty,pos,af,gd⟩ :: rest) (mkA n env ds) w := by
  refine s_val hw (w' := w.iterAt g s (i + (Utf8.decode s i).2)) (v := .tuple #[.bool true,.int .i64 (i : Int),.int .i32 (runeAt s i : Int)]) ?_ (k _ (iterAt_heap w g s i _ hb) ⟨rfl,rfl,rfl,by rw [iterAt_size]; exact Nat.le_refl _,fun j _ hj => iterAt_other w g j s _ hj⟩)
  simp only [execOp,hx,Sem.run_bind]
  rw [run_next_any_at w g s i ty hb hi]; rfl
theorem s_next0 {g i : Nat} {s : ByteArray} (hb : w.heap[g]? = some (.stringIter s i)) (hx : (mkA n env ds).eval x = .pointer (some ⟨g,0,none⟩)) (hi : ¬ i < s.size) (hw : Region.wanted ⟨some d,.next x true,ty,pos,af,gd⟩ (yielded ops (mkA n env ds).tmps) = true)
    (k : wpList P ops Q rest (mkA n (upd env d (.tuple #[.bool false])) ds) w) : wpList P ops Q (⟨some d,.next x true,ty,pos,af,gd⟩ :: rest) (mkA n env ds) w := by
  refine s_val hw (w' := w) (v := .tuple #[.bool false]) ?_ k
  simp only [execOp,hx,Sem.run_bind]
  rw [run_next_end_at w g s i ty hb hi]; rfl
theorem r_indexV {e ln : Nat} {cs : Array Value} {j : Nat} (hu : P.underlying T = some (.array ln e)) (he : one P e = true) (hsz : (P.info? e).map (·.size) = some 1) (hx : (mkA n env ds).eval x = .agg cs) (hy : (mkA n env ds).eval y = .int .i64 (j : Int)) (hj : j < ln) (hc : cs[j]? = some v) : (execOp (mkA n env ds).eval ⟨some d,.index T x y,ty,pos,af,gd⟩).run P w = .ok (.value v) w := by
  obtain ⟨D,hD,hag⟩ := one_spec he
  obtain ⟨i,hi,hz⟩ := Option.map_eq_some_iff.1 hsz
  have hp : (part e cs j).run P w = .ok v w := by
    unfold part
    rw [Sem.run_bind,run_isAgg hD,hag]
    simp [hc]
  have h0 : (0 : Int) ≤ (j : Int) ∧ (j : Int) < (ln : Int) := by omega
  simp only [execOp,hx,hy,Sem.run_bind,Instr.index,asIntOf,Sem.run_pure,Result.andThen_ok,run_underlying hu]
  simp [h0,sizeOf,typeInfo,hi,hz,hp,Result.andThen]
theorem s_indexV {e ln : Nat} {cs : Array Value} {j : Nat} (hu : P.underlying T = some (.array ln e)) (he : one P e = true) (hsz : (P.info? e).map (·.size) = some 1) (hx : (mkA n env ds).eval x = .agg cs) (hy : (mkA n env ds).eval y = .int .i64 (j : Int)) (hj : j < ln) (hc : cs[j]? = some v) (hw : Region.wanted ⟨some d,.index T x y,ty,pos,af,gd⟩ (yielded ops (mkA n env ds).tmps) = true)
    (k : wpList P ops Q rest (mkA n (upd env d v) ds) w) : wpList P ops Q (⟨some d,.index T x y,ty,pos,af,gd⟩ :: rest) (mkA n env ds) w := s_val hw (r_indexV hu he hsz hx hy hj hc) k
end
theorem size_ne {s : ByteArray} (h : ¬ s = ⟨#[]⟩) : s.size ≠ 0 := fun h0 => h (by
  obtain ⟨a⟩ := s
  have : a = #[] := Array.eq_empty_of_size_eq_zero h0
  rw [this])
/-! ### the keywords -/
def kwL : List ByteArray := [⟨#[110,111,116]⟩,⟨#[99,111,117,110,116]⟩,⟨#[115,117,109]⟩,⟨#[109,105,110]⟩,⟨#[109,97,120]⟩,⟨#[108,101,110]⟩,⟨#[99,104,97,114,115]⟩,⟨#[98,97,99,107]⟩]
def kwC : List Value := [.string ⟨#[110,111,116]⟩,.string ⟨#[99,111,117,110,116]⟩,.string ⟨#[115,117,109]⟩,.string ⟨#[109,105,110]⟩,.string ⟨#[109,97,120]⟩,.string ⟨#[108,101,110]⟩,.string ⟨#[99,104,97,114,115]⟩,.string ⟨#[98,97,99,107]⟩]
def KwT (P : Program) (w : World) : Prop := w.var? P "pedigree/lex.keywords" = some kwC.toArray
theorem KwT.ext {P : Program} {w w' : World} (h : KwT P w) (k : Ext w w') : KwT P w' := var_ext h k
theorem KwT.cells {P : Program} {w : World} {g : Nat} (h : KwT P w) (hg : P.globalNamed "pedigree/lex.keywords" = some g) : ∀ (i : Nat) (u : Value), kwC[i]? = some u → w.cell? ⟨g, 0 + i, none⟩ = some u := fun i u hu => by
  have := var_cell (i := i) h hg (by simpa using hu)
  simpa using this
theorem kw_at {i : Nat} (h : i < 8) : kwC.toArray[i]? = some (.string (sAt kwL i)) := by
  have : i = 0 ∨ i = 1 ∨ i = 2 ∨ i = 3 ∨ i = 4 ∨ i = 5 ∨ i = 6 ∨ i = 7 := by omega
  rcases this with rfl | rfl | rfl | rfl | rfl | rfl | rfl | rfl <;> rfl
theorem kw_yes {s : ByteArray} {i : Nat} (h : i < 8) (e : s = sAt kwL i) : kwB s = true := by
  have : i = 0 ∨ i = 1 ∨ i = 2 ∨ i = 3 ∨ i = 4 ∨ i = 5 ∨ i = 6 ∨ i = 7 := by omega
  unfold kwB
  rcases this with rfl | rfl | rfl | rfl | rfl | rfl | rfl | rfl <;> (subst e; simp [sAt,kwL])
theorem kw_no {s : ByteArray} {i : Nat} (hi : ¬ i < 8) (h : ∀ j,j < i → ¬ s = sAt kwL j) : kwB s = false := by
  unfold kwB
  simp only [decide_eq_false_iff_not]
  rintro (e | e | e | e | e | e | e | e)
  · exact h 0 (by omega) e
  · exact h 1 (by omega) e
  · exact h 2 (by omega) e
  · exact h 3 (by omega) e
  · exact h 4 (by omega) e
  · exact h 5 (by omega) e
  · exact h 6 (by omega) e
  · exact h 7 (by omega) e
theorem kw_step {s : ByteArray} {i : Nat} (h : ∀ j,j < i → ¬ s = sAt kwL j) (hn : ¬ s = sAt kwL i) : ∀ j,j < i + 1 → ¬ s = sAt kwL j := fun j hj => by
  rcases Nat.lt_succ_iff_lt_or_eq.1 hj with hj | rfl
  · exact h j hj
  · exact hn
/-! ### facts -/
structure Fc where
  p : ByteArray
  args : List Vl
def Vl.none : Vl := ⟨0,0,⟨#[]⟩⟩
def Fc.none : Fc := ⟨⟨#[]⟩,[]⟩
structure Fc.okc (x : Fc) (c : Nat) : Prop where
  p : x.p.size ≤ 140737488351232
  l : x.args.length ≤ c
  c : x.args.length * 32 ≤ 140737488351232
def RF (w : World) (x : Fc) (cs : List Value) : Prop := ∃ A c,cs = [.string x.p,.slice A x.args.length c] ∧ x.okc c ∧ Row RV 3 w A x.args
def vlAt (l : List Vl) (j : Nat) : Vl := l.getD j Vl.none
theorem vlAt_of {l : List Vl} {y : Vl} {j : Nat} (h : l[j]? = some y) : vlAt l j = y := by simp [vlAt,List.getD_eq_getElem?_getD,h]
theorem vlAt_there {l : List Vl} {j : Nat} (h : j < l.length) : l[j]? = some (vlAt l j) := by simp [vlAt,List.getD_eq_getElem?_getD,h]
def fcAt (l : List Fc) (j : Nat) : Fc := l.getD j Fc.none
theorem fcAt_of {l : List Fc} {y : Fc} {j : Nat} (h : l[j]? = some y) : fcAt l j = y := by simp [fcAt,List.getD_eq_getElem?_getD,h]
theorem fcAt_there {l : List Fc} {j : Nat} (h : j < l.length) : l[j]? = some (fcAt l j) := by simp [fcAt,List.getD_eq_getElem?_getD,h]
theorem RF.ext {w w' : World} (k : Ext w w') {x : Fc} {cs : List Value} (h : RF w x cs) : RF w' x cs := by
  obtain ⟨A,c,h1,h2,h3⟩ := h; exact ⟨A,c,h1,h2,h3.extV k⟩
theorem Row.extF {w w' : World} {A : Option Addr} {xs : List Fc} (h : Row RF 2 w A xs) (k : Ext w w') : Row RF 2 w' A xs := h.ext k (fun _ _ k h => RF.ext k h)
def mayB (x : Fc) : Bool := x.args.all okV && nameB x.p && decide ((x.args.length : Int) ≤ 24)
def vT (v : Vl) : Tm := ⟨⟨#[]⟩,v⟩
def fcW (x : Fc) : ByteArray := colW x.p (x.args.map (fun v => termW (vT v)))
def fsW (l : List Fc) : Nat → ByteArray
  | 0 => ⟨#[]⟩
  | i + 1 => fsW l i ++ fcW (fcAt l i) ++ ⟨#[46,10]⟩
def fsT (l : List Fc) : ByteArray := fsW l l.length
def code10 (b : Bool) : Int := if b then 0 else 10
def plainB (s : ByteArray) : Bool := decide (∀ j,j < s.size → 32 ≤ byteAt s j ∧ byteAt s j ≤ 126)
theorem tmB_vT {v : Vl} (h : okV v = true) : tmB (vT v) = true := by
  unfold tmB vT; simp [h]
theorem vT_wf {v : Vl} (h : v.wf) : (vT v).wf := ⟨by show (0 : Nat) ≤ _; omega,h⟩
theorem RV_wf {w : World} {A : Option Addr} {l : List Vl} {m i : Nat} (h : Row RV m w A l) (hi : i < l.length) : (vlAt l i).wf := by
  obtain ⟨_,_,y,_,_,hy,h,_⟩ := h.at_ i hi
  rw [vlAt_of hy]
  exact h.2
theorem mayB_parts {x : Fc} (h : mayB x = true) : nameB x.p = true ∧ x.p.size ≤ 120 ∧ x.args.length ≤ 24 ∧ ∀ i,i < x.args.length → okV (vlAt x.args i) = true := by
  simp only [mayB,Bool.and_eq_true,decide_eq_true_eq] at h
  obtain ⟨⟨h1,h2⟩,h3⟩ := h
  have h4 := h2
  simp only [nameB,Bool.and_eq_true] at h4
  exact ⟨h2,wordB_size h4.1,by omega,fun i hi => all_kid h1 (vlAt_there hi)⟩
theorem vW_at {l : List Vl} {i : Nat} (h : i < l.length) : (l.map (fun v => termW (vT v))).getD i ⟨#[]⟩ = termW (vT (vlAt l i)) := by
  simp [vlAt,List.getD_eq_getElem?_getD,h]
theorem fcW_size {x : Fc} {w : World} {A : Option Addr} (h : mayB x = true) (hr : Row RV 3 w A x.args) : (fcW x).size ≤ 30000 := by
  obtain ⟨_,hp,h24,hh⟩ := mayB_parts h
  unfold fcW colW
  split
  · omega
  · have := colP_le (l := x.args.map (fun v => termW (vT v))) (M := 900) (fun i hi => by rw [List.length_map] at hi; rw [vW_at hi]; have := termW_size (tmB_vT (hh i hi)) (vT_wf (RV_wf hr hi)); omega) (x.args.map (fun v => termW (vT v))).length (Nat.le_refl _)
    rw [List.length_map] at this
    have h2 : x.args.length * (900 + 2) ≤ 24 * 902 := Nat.mul_le_mul_right _ h24
    simp only [ByteArray.size_append,z1,List.length_map]; omega
theorem fcW_at {w : World} {A : Option Addr} {l : List Fc} {i : Nat} (hr : Row RF 2 w A l) (hi : i < l.length) (hb : mayB (fcAt l i) = true) : (fcW (fcAt l i)).size ≤ 30000 := by
  obtain ⟨_,_,y,_,_,hy,hR,_⟩ := hr.at_ i hi
  have e := fcAt_of hy
  obtain ⟨A',c',_,ho,rr⟩ := hR
  rw [e] at hb ⊢
  exact fcW_size hb rr
theorem fsW_le {w : World} {A : Option Addr} {l : List Fc} (hr : Row RF 2 w A l) : ∀ i,i ≤ l.length → (∀ j y,j < i → l[j]? = some y → mayB y = true) → (fsW l i).size ≤ i * 30002
  | 0,_,_ => by simp [fsW,z0]
  | i + 1,hi,hb => by
    have h1 := fsW_le hr i (by omega) (fun j y hj hy => hb j y (by omega) hy)
    have h2 := fcW_at hr (i := i) (by omega) (hb i _ (by omega) (fcAt_there (by omega)))
    simp only [fsW,ByteArray.size_append,Nat.add_mul,Nat.one_mul,z2]
    omega
theorem fsT_ne {l : List Fc} (h : l.length ≠ 0) : (fsT l).size ≠ 0 := by
  obtain ⟨i,hi⟩ := Nat.exists_eq_succ_of_ne_zero h
  unfold fsT; rw [hi]; simp only [fsW,ByteArray.size_append,z2]; omega
def ruOf (x : Fc) : Ru := ⟨x.p,x.args.map (fun v => ⟨0,vT v⟩),[]⟩
end Go.Wk

set_option linter.unusedVariables false
set_option linter.unusedSimpArgs false
set_option maxRecDepth 10000
namespace Go.Proofs.Dw
open Go Go.Wk Go.Proofs Go.Lib
attribute [local irreducible] Go.wpList Go.wpStill Go.wpQuiet Go.Code.wp Go.Calls
theorem F_e113 : enterable Tryd.prog 113 = true := by kernel_rfl
theorem F_e96 : enterable Tryd.prog 96 = true := by kernel_rfl
theorem F_e97 : enterable Tryd.prog 97 = true := by kernel_rfl
theorem F_gn5 : Tryd.prog.globalNamed "pedigree/lex.keywords" = some 5 := by kernel_rfl
theorem F_m106 : many Tryd.prog 106 8 = true := by kernel_rfl
theorem F_sz9 : (Tryd.prog.info? 9).map (·.size) = some 1 := by kernel_rfl
theorem F_ua106 : Tryd.prog.underlying 106 = some (.array 8 9) := by kernel_rfl
theorem x_rune (c : Int) (w : World) :
    Rt Tryd.prog 113 #[.int .i32 c] w fun v w' => v = .bool (runeB c) ∧ Ext w w' := by
  refine enter Tryd.func113 rfl (l := [.int .i32 c]) rfl Tryd.ntmps113 (Nat.le_of_ble_eq_true rfl) ?_
  refine c_seq (c_reg (s_assign (v := .bool false) ev_c (w0 rfl) (c_done (n_then (c_seq (c_reg (s_move (v := .int .i32 c) (ej rfl rfl) (w0 rfl) (s_cmp (r := decide (97 ≤ c)) (ej rfl rfl) ev_c rfl (w0 rfl) ?_))))))))
  by_cases h1 : 97 ≤ c
  · refine s_move (v := .bool true) (vb (ej rfl rfl) (decide_eq_true h1)) (w0 rfl) (s_move (v := .int .i32 c) (ej rfl rfl) (wy rfl rfl rfl rfl) (s_cmp (r := decide (c ≤ 122)) (ej rfl rfl) ev_c rfl (wy rfl rfl rfl rfl) (s_pick1 (v := .bool (decide (c ≤ 122))) (ej rfl rfl) (ej rfl rfl) (w0 rfl) ?_)))
    by_cases h2 : c ≤ 122
    · refine s_move (v := .bool true) (vb (ej rfl rfl) (decide_eq_true h2)) (w0 rfl) (s_skip (wn rfl rfl rfl rfl rfl) (s_skip (wn rfl rfl rfl rfl rfl) (s_skip (wn rfl rfl rfl rfl rfl) (s_skip (wu rfl rfl rfl rfl) (s_skip (wu rfl rfl rfl rfl) (s_skip (wn rfl rfl rfl rfl rfl) (s_pick1 (v := .bool true) (ej rfl rfl) ev_c (w0 rfl) (s_move (v := .bool true) (ej rfl rfl) (w0 rfl) (s_skip (wn rfl rfl rfl rfl rfl) (s_skip (wn rfl rfl rfl rfl rfl) (s_skip (wn rfl rfl rfl rfl rfl) ?_)))))))))))
      refine s_skip (wu rfl rfl rfl rfl) (s_skip (wu rfl rfl rfl rfl) (s_skip (wn rfl rfl rfl rfl rfl) (s_pick1 (v := .bool true) (ej rfl rfl) ev_c (w0 rfl) (s_move (v := .bool true) (ej rfl rfl) (w0 rfl) (s_skip (wn rfl rfl rfl rfl rfl) (s_skip (wn rfl rfl rfl rfl rfl) (s_pick1 (v := .bool true) (ej rfl rfl) ev_c (w0 rfl) (s_assign (v := .bool true) (ej rfl rfl) (w0 rfl) (c_done (n_then (c_ret ?_)))))))))))
      refine ret1 (v := .bool true) rfl rfl rfl ?_
      refine ⟨_,rfl,?_,(Ext.refl w)⟩
      (refine congrArg Value.bool ?_; unfold runeB; symm; first | (rw [decide_eq_true_eq]; omega) | (rw [decide_eq_false_iff_not]; omega) | (congr 1; apply propext; omega))
    refine s_move (v := .bool false) (vb (ej rfl rfl) (decide_eq_false h2)) (w0 rfl) (s_move (v := .int .i32 c) (ej rfl rfl) (wy rfl rfl rfl rfl) (s_cmp (r := decide (65 ≤ c)) (ej rfl rfl) ev_c rfl (wy rfl rfl rfl rfl) ?_))
    by_cases h3 : 65 ≤ c
    · refine s_move (v := .bool true) (vb (ej rfl rfl) (decide_eq_true h3)) (wy rfl rfl rfl rfl) (s_move (v := .int .i32 c) (ej rfl rfl) (wy rfl rfl rfl rfl) (s_cmp (r := decide (c ≤ 90)) (ej rfl rfl) ev_c rfl (wy rfl rfl rfl rfl) (s_pick1 (v := .bool (decide (c ≤ 90))) (ej rfl rfl) (ej rfl rfl) (wy rfl rfl rfl rfl) (s_pick0 (v := .bool (decide (c ≤ 90))) (ej rfl rfl) (ej rfl rfl) (w0 rfl) ?_))))
      by_cases h4 : c ≤ 90
      · refine s_move (v := .bool true) (vb (ej rfl rfl) (decide_eq_true h4)) (w0 rfl) (s_skip (wn rfl rfl rfl rfl rfl) (s_skip (wn rfl rfl rfl rfl rfl) (s_skip (wn rfl rfl rfl rfl rfl) (s_skip (wu rfl rfl rfl rfl) (s_skip (wu rfl rfl rfl rfl) (s_skip (wn rfl rfl rfl rfl rfl) (s_pick1 (v := .bool true) (ej rfl rfl) ev_c (w0 rfl) (s_move (v := .bool true) (ej rfl rfl) (w0 rfl) (s_skip (wn rfl rfl rfl rfl rfl) (s_skip (wn rfl rfl rfl rfl rfl) (s_pick1 (v := .bool true) (ej rfl rfl) ev_c (w0 rfl) ?_)))))))))))
        refine s_assign (v := .bool true) (ej rfl rfl) (w0 rfl) (c_done (n_then (c_ret (ret1 (v := .bool true) rfl rfl rfl ?_))))
        refine ⟨_,rfl,?_,(Ext.refl w)⟩
        (refine congrArg Value.bool ?_; unfold runeB; symm; first | (rw [decide_eq_true_eq]; omega) | (rw [decide_eq_false_iff_not]; omega) | (congr 1; apply propext; omega))
      refine s_move (v := .bool false) (vb (ej rfl rfl) (decide_eq_false h4)) (w0 rfl) (s_move (v := .int .i32 c) (ej rfl rfl) (wy rfl rfl rfl rfl) (s_cmp (r := decide (48 ≤ c)) (ej rfl rfl) ev_c rfl (wy rfl rfl rfl rfl) ?_))
      by_cases h5 : 48 ≤ c
      · refine s_move (v := .bool true) (vb (ej rfl rfl) (decide_eq_true h5)) (wy rfl rfl rfl rfl) (s_move (v := .int .i32 c) (ej rfl rfl) (wy rfl rfl rfl rfl) (s_cmp (r := decide (c ≤ 57)) (ej rfl rfl) ev_c rfl (wy rfl rfl rfl rfl) (s_pick1 (v := .bool (decide (c ≤ 57))) (ej rfl rfl) (ej rfl rfl) (wy rfl rfl rfl rfl) (s_pick0 (v := .bool (decide (c ≤ 57))) (ej rfl rfl) (ej rfl rfl) (w0 rfl) ?_))))
        by_cases h6 : c ≤ 57
        · refine s_move (v := .bool true) (vb (ej rfl rfl) (decide_eq_true h6)) (w0 rfl) (s_skip (wn rfl rfl rfl rfl rfl) (s_skip (wn rfl rfl rfl rfl rfl) (s_pick1 (v := .bool true) (ej rfl rfl) ev_c (w0 rfl) (s_assign (v := .bool true) (ej rfl rfl) (w0 rfl) (c_done (n_then (c_ret (ret1 (v := .bool true) rfl rfl rfl ?_))))))))
          refine ⟨_,rfl,?_,(Ext.refl w)⟩
          (refine congrArg Value.bool ?_; unfold runeB; symm; first | (rw [decide_eq_true_eq]; omega) | (rw [decide_eq_false_iff_not]; omega) | (congr 1; apply propext; omega))
        refine s_move (v := .bool false) (vb (ej rfl rfl) (decide_eq_false h6)) (w0 rfl) (s_move (v := .int .i32 c) (ej rfl rfl) (wy rfl rfl rfl rfl) (s_cmp (r := decide (c = 95)) (ej rfl rfl) ev_c rfl (wy rfl rfl rfl rfl) (s_pick0 (v := .bool (decide (c = 95))) (ej rfl rfl) (ej rfl rfl) (w0 rfl) (s_assign (v := .bool (decide (c = 95))) (ej rfl rfl) (w0 rfl) (c_done (n_then (c_ret (ret1 (v := .bool (decide (c = 95))) rfl rfl rfl ?_))))))))
        refine ⟨_,rfl,?_,(Ext.refl w)⟩
        (refine congrArg Value.bool ?_; unfold runeB; symm; first | (rw [decide_eq_true_eq]; omega) | (rw [decide_eq_false_iff_not]; omega) | (congr 1; apply propext; omega))
      refine s_move (v := .bool false) (vb (ej rfl rfl) (decide_eq_false h5)) (wy rfl rfl rfl rfl) (s_skip (wn rfl rfl rfl rfl rfl) (s_skip (wn rfl rfl rfl rfl rfl) (s_pick0 (v := .bool false) (ej rfl rfl) ev_c (wy rfl rfl rfl rfl) (s_pick0 (v := .bool false) (ej rfl rfl) (ej rfl rfl) (w0 rfl) (s_move (v := .bool false) (ej rfl rfl) (w0 rfl) (s_move (v := .int .i32 c) (ej rfl rfl) (wy rfl rfl rfl rfl) (s_cmp (r := decide (c = 95)) (ej rfl rfl) ev_c rfl (wy rfl rfl rfl rfl) (s_pick0 (v := .bool (decide (c = 95))) (ej rfl rfl) (ej rfl rfl) (w0 rfl) (s_assign (v := .bool (decide (c = 95))) (ej rfl rfl) (w0 rfl) (c_done (n_then ?_)))))))))))
      refine c_ret (ret1 (v := .bool (decide (c = 95))) rfl rfl rfl ?_)
      refine ⟨_,rfl,?_,(Ext.refl w)⟩
      (refine congrArg Value.bool ?_; unfold runeB; symm; first | (rw [decide_eq_true_eq]; omega) | (rw [decide_eq_false_iff_not]; omega) | (congr 1; apply propext; omega))
    refine s_move (v := .bool false) (vb (ej rfl rfl) (decide_eq_false h3)) (wy rfl rfl rfl rfl) (s_skip (wn rfl rfl rfl rfl rfl) (s_skip (wn rfl rfl rfl rfl rfl) (s_pick0 (v := .bool false) (ej rfl rfl) ev_c (wy rfl rfl rfl rfl) (s_pick0 (v := .bool false) (ej rfl rfl) (ej rfl rfl) (w0 rfl) (s_move (v := .bool false) (ej rfl rfl) (w0 rfl) (s_move (v := .int .i32 c) (ej rfl rfl) (wy rfl rfl rfl rfl) (s_cmp (r := decide (48 ≤ c)) (ej rfl rfl) ev_c rfl (wy rfl rfl rfl rfl) ?_)))))))
    by_cases h7 : 48 ≤ c
    · refine s_move (v := .bool true) (vb (ej rfl rfl) (decide_eq_true h7)) (wy rfl rfl rfl rfl) (s_move (v := .int .i32 c) (ej rfl rfl) (wy rfl rfl rfl rfl) (s_cmp (r := decide (c ≤ 57)) (ej rfl rfl) ev_c rfl (wy rfl rfl rfl rfl) (s_pick1 (v := .bool (decide (c ≤ 57))) (ej rfl rfl) (ej rfl rfl) (wy rfl rfl rfl rfl) (s_pick0 (v := .bool (decide (c ≤ 57))) (ej rfl rfl) (ej rfl rfl) (w0 rfl) ?_))))
      by_cases h8 : c ≤ 57
      · refine s_move (v := .bool true) (vb (ej rfl rfl) (decide_eq_true h8)) (w0 rfl) (s_skip (wn rfl rfl rfl rfl rfl) (s_skip (wn rfl rfl rfl rfl rfl) (s_pick1 (v := .bool true) (ej rfl rfl) ev_c (w0 rfl) (s_assign (v := .bool true) (ej rfl rfl) (w0 rfl) (c_done (n_then (c_ret (ret1 (v := .bool true) rfl rfl rfl ?_))))))))
        refine ⟨_,rfl,?_,(Ext.refl w)⟩
        (refine congrArg Value.bool ?_; unfold runeB; symm; first | (rw [decide_eq_true_eq]; omega) | (rw [decide_eq_false_iff_not]; omega) | (congr 1; apply propext; omega))
      refine s_move (v := .bool false) (vb (ej rfl rfl) (decide_eq_false h8)) (w0 rfl) (s_move (v := .int .i32 c) (ej rfl rfl) (wy rfl rfl rfl rfl) (s_cmp (r := decide (c = 95)) (ej rfl rfl) ev_c rfl (wy rfl rfl rfl rfl) (s_pick0 (v := .bool (decide (c = 95))) (ej rfl rfl) (ej rfl rfl) (w0 rfl) (s_assign (v := .bool (decide (c = 95))) (ej rfl rfl) (w0 rfl) (c_done (n_then (c_ret (ret1 (v := .bool (decide (c = 95))) rfl rfl rfl ?_))))))))
      refine ⟨_,rfl,?_,(Ext.refl w)⟩
      (refine congrArg Value.bool ?_; unfold runeB; symm; first | (rw [decide_eq_true_eq]; omega) | (rw [decide_eq_false_iff_not]; omega) | (congr 1; apply propext; omega))
    refine s_move (v := .bool false) (vb (ej rfl rfl) (decide_eq_false h7)) (wy rfl rfl rfl rfl) (s_skip (wn rfl rfl rfl rfl rfl) (s_skip (wn rfl rfl rfl rfl rfl) (s_pick0 (v := .bool false) (ej rfl rfl) ev_c (wy rfl rfl rfl rfl) (s_pick0 (v := .bool false) (ej rfl rfl) (ej rfl rfl) (w0 rfl) (s_move (v := .bool false) (ej rfl rfl) (w0 rfl) (s_move (v := .int .i32 c) (ej rfl rfl) (wy rfl rfl rfl rfl) (s_cmp (r := decide (c = 95)) (ej rfl rfl) ev_c rfl (wy rfl rfl rfl rfl) (s_pick0 (v := .bool (decide (c = 95))) (ej rfl rfl) (ej rfl rfl) (w0 rfl) (s_assign (v := .bool (decide (c = 95))) (ej rfl rfl) (w0 rfl) (c_done (n_then ?_)))))))))))
    refine c_ret (ret1 (v := .bool (decide (c = 95))) rfl rfl rfl ?_)
    refine ⟨_,rfl,?_,(Ext.refl w)⟩
    (refine congrArg Value.bool ?_; unfold runeB; symm; first | (rw [decide_eq_true_eq]; omega) | (rw [decide_eq_false_iff_not]; omega) | (congr 1; apply propext; omega))
  refine s_move (v := .bool false) (vb (ej rfl rfl) (decide_eq_false h1)) (w0 rfl) (s_skip (wn rfl rfl rfl rfl rfl) (s_skip (wn rfl rfl rfl rfl rfl) (s_pick0 (v := .bool false) (ej rfl rfl) ev_c (w0 rfl) (s_move (v := .bool false) (ej rfl rfl) (w0 rfl) (s_move (v := .int .i32 c) (ej rfl rfl) (wy rfl rfl rfl rfl) (s_cmp (r := decide (65 ≤ c)) (ej rfl rfl) ev_c rfl (wy rfl rfl rfl rfl) ?_))))))
  by_cases h9 : 65 ≤ c
  · refine s_move (v := .bool true) (vb (ej rfl rfl) (decide_eq_true h9)) (wy rfl rfl rfl rfl) (s_move (v := .int .i32 c) (ej rfl rfl) (wy rfl rfl rfl rfl) (s_cmp (r := decide (c ≤ 90)) (ej rfl rfl) ev_c rfl (wy rfl rfl rfl rfl) (s_pick1 (v := .bool (decide (c ≤ 90))) (ej rfl rfl) (ej rfl rfl) (wy rfl rfl rfl rfl) (s_pick0 (v := .bool (decide (c ≤ 90))) (ej rfl rfl) (ej rfl rfl) (w0 rfl) ?_))))
    by_cases h10 : c ≤ 90
    · refine s_move (v := .bool true) (vb (ej rfl rfl) (decide_eq_true h10)) (w0 rfl) (s_skip (wn rfl rfl rfl rfl rfl) (s_skip (wn rfl rfl rfl rfl rfl) (s_skip (wn rfl rfl rfl rfl rfl) (s_skip (wu rfl rfl rfl rfl) (s_skip (wu rfl rfl rfl rfl) (s_skip (wn rfl rfl rfl rfl rfl) (s_pick1 (v := .bool true) (ej rfl rfl) ev_c (w0 rfl) (s_move (v := .bool true) (ej rfl rfl) (w0 rfl) (s_skip (wn rfl rfl rfl rfl rfl) (s_skip (wn rfl rfl rfl rfl rfl) (s_pick1 (v := .bool true) (ej rfl rfl) ev_c (w0 rfl) ?_)))))))))))
      refine s_assign (v := .bool true) (ej rfl rfl) (w0 rfl) (c_done (n_then (c_ret (ret1 (v := .bool true) rfl rfl rfl ?_))))
      refine ⟨_,rfl,?_,(Ext.refl w)⟩
      (refine congrArg Value.bool ?_; unfold runeB; symm; first | (rw [decide_eq_true_eq]; omega) | (rw [decide_eq_false_iff_not]; omega) | (congr 1; apply propext; omega))
    refine s_move (v := .bool false) (vb (ej rfl rfl) (decide_eq_false h10)) (w0 rfl) (s_move (v := .int .i32 c) (ej rfl rfl) (wy rfl rfl rfl rfl) (s_cmp (r := decide (48 ≤ c)) (ej rfl rfl) ev_c rfl (wy rfl rfl rfl rfl) ?_))
    by_cases h11 : 48 ≤ c
    · refine s_move (v := .bool true) (vb (ej rfl rfl) (decide_eq_true h11)) (wy rfl rfl rfl rfl) (s_move (v := .int .i32 c) (ej rfl rfl) (wy rfl rfl rfl rfl) (s_cmp (r := decide (c ≤ 57)) (ej rfl rfl) ev_c rfl (wy rfl rfl rfl rfl) (s_pick1 (v := .bool (decide (c ≤ 57))) (ej rfl rfl) (ej rfl rfl) (wy rfl rfl rfl rfl) (s_pick0 (v := .bool (decide (c ≤ 57))) (ej rfl rfl) (ej rfl rfl) (w0 rfl) ?_))))
      by_cases h12 : c ≤ 57
      · refine s_move (v := .bool true) (vb (ej rfl rfl) (decide_eq_true h12)) (w0 rfl) (s_skip (wn rfl rfl rfl rfl rfl) (s_skip (wn rfl rfl rfl rfl rfl) (s_pick1 (v := .bool true) (ej rfl rfl) ev_c (w0 rfl) (s_assign (v := .bool true) (ej rfl rfl) (w0 rfl) (c_done (n_then (c_ret (ret1 (v := .bool true) rfl rfl rfl ?_))))))))
        refine ⟨_,rfl,?_,(Ext.refl w)⟩
        (refine congrArg Value.bool ?_; unfold runeB; symm; first | (rw [decide_eq_true_eq]; omega) | (rw [decide_eq_false_iff_not]; omega) | (congr 1; apply propext; omega))
      refine s_move (v := .bool false) (vb (ej rfl rfl) (decide_eq_false h12)) (w0 rfl) (s_move (v := .int .i32 c) (ej rfl rfl) (wy rfl rfl rfl rfl) (s_cmp (r := decide (c = 95)) (ej rfl rfl) ev_c rfl (wy rfl rfl rfl rfl) (s_pick0 (v := .bool (decide (c = 95))) (ej rfl rfl) (ej rfl rfl) (w0 rfl) (s_assign (v := .bool (decide (c = 95))) (ej rfl rfl) (w0 rfl) (c_done (n_then (c_ret (ret1 (v := .bool (decide (c = 95))) rfl rfl rfl ?_))))))))
      refine ⟨_,rfl,?_,(Ext.refl w)⟩
      (refine congrArg Value.bool ?_; unfold runeB; symm; first | (rw [decide_eq_true_eq]; omega) | (rw [decide_eq_false_iff_not]; omega) | (congr 1; apply propext; omega))
    refine s_move (v := .bool false) (vb (ej rfl rfl) (decide_eq_false h11)) (wy rfl rfl rfl rfl) (s_skip (wn rfl rfl rfl rfl rfl) (s_skip (wn rfl rfl rfl rfl rfl) (s_pick0 (v := .bool false) (ej rfl rfl) ev_c (wy rfl rfl rfl rfl) (s_pick0 (v := .bool false) (ej rfl rfl) (ej rfl rfl) (w0 rfl) (s_move (v := .bool false) (ej rfl rfl) (w0 rfl) (s_move (v := .int .i32 c) (ej rfl rfl) (wy rfl rfl rfl rfl) (s_cmp (r := decide (c = 95)) (ej rfl rfl) ev_c rfl (wy rfl rfl rfl rfl) (s_pick0 (v := .bool (decide (c = 95))) (ej rfl rfl) (ej rfl rfl) (w0 rfl) (s_assign (v := .bool (decide (c = 95))) (ej rfl rfl) (w0 rfl) (c_done (n_then ?_)))))))))))
    refine c_ret (ret1 (v := .bool (decide (c = 95))) rfl rfl rfl ?_)
    refine ⟨_,rfl,?_,(Ext.refl w)⟩
    (refine congrArg Value.bool ?_; unfold runeB; symm; first | (rw [decide_eq_true_eq]; omega) | (rw [decide_eq_false_iff_not]; omega) | (congr 1; apply propext; omega))
  refine s_move (v := .bool false) (vb (ej rfl rfl) (decide_eq_false h9)) (wy rfl rfl rfl rfl) (s_skip (wn rfl rfl rfl rfl rfl) (s_skip (wn rfl rfl rfl rfl rfl) (s_pick0 (v := .bool false) (ej rfl rfl) ev_c (wy rfl rfl rfl rfl) (s_pick0 (v := .bool false) (ej rfl rfl) (ej rfl rfl) (w0 rfl) (s_move (v := .bool false) (ej rfl rfl) (w0 rfl) (s_move (v := .int .i32 c) (ej rfl rfl) (wy rfl rfl rfl rfl) (s_cmp (r := decide (48 ≤ c)) (ej rfl rfl) ev_c rfl (wy rfl rfl rfl rfl) ?_)))))))
  by_cases h13 : 48 ≤ c
  · refine s_move (v := .bool true) (vb (ej rfl rfl) (decide_eq_true h13)) (wy rfl rfl rfl rfl) (s_move (v := .int .i32 c) (ej rfl rfl) (wy rfl rfl rfl rfl) (s_cmp (r := decide (c ≤ 57)) (ej rfl rfl) ev_c rfl (wy rfl rfl rfl rfl) (s_pick1 (v := .bool (decide (c ≤ 57))) (ej rfl rfl) (ej rfl rfl) (wy rfl rfl rfl rfl) (s_pick0 (v := .bool (decide (c ≤ 57))) (ej rfl rfl) (ej rfl rfl) (w0 rfl) ?_))))
    by_cases h14 : c ≤ 57
    · refine s_move (v := .bool true) (vb (ej rfl rfl) (decide_eq_true h14)) (w0 rfl) (s_skip (wn rfl rfl rfl rfl rfl) (s_skip (wn rfl rfl rfl rfl rfl) (s_pick1 (v := .bool true) (ej rfl rfl) ev_c (w0 rfl) (s_assign (v := .bool true) (ej rfl rfl) (w0 rfl) (c_done (n_then (c_ret (ret1 (v := .bool true) rfl rfl rfl ?_))))))))
      refine ⟨_,rfl,?_,(Ext.refl w)⟩
      (refine congrArg Value.bool ?_; unfold runeB; symm; first | (rw [decide_eq_true_eq]; omega) | (rw [decide_eq_false_iff_not]; omega) | (congr 1; apply propext; omega))
    refine s_move (v := .bool false) (vb (ej rfl rfl) (decide_eq_false h14)) (w0 rfl) (s_move (v := .int .i32 c) (ej rfl rfl) (wy rfl rfl rfl rfl) (s_cmp (r := decide (c = 95)) (ej rfl rfl) ev_c rfl (wy rfl rfl rfl rfl) (s_pick0 (v := .bool (decide (c = 95))) (ej rfl rfl) (ej rfl rfl) (w0 rfl) (s_assign (v := .bool (decide (c = 95))) (ej rfl rfl) (w0 rfl) (c_done (n_then (c_ret (ret1 (v := .bool (decide (c = 95))) rfl rfl rfl ?_))))))))
    refine ⟨_,rfl,?_,(Ext.refl w)⟩
    (refine congrArg Value.bool ?_; unfold runeB; symm; first | (rw [decide_eq_true_eq]; omega) | (rw [decide_eq_false_iff_not]; omega) | (congr 1; apply propext; omega))
  refine s_move (v := .bool false) (vb (ej rfl rfl) (decide_eq_false h13)) (wy rfl rfl rfl rfl) (s_skip (wn rfl rfl rfl rfl rfl) (s_skip (wn rfl rfl rfl rfl rfl) (s_pick0 (v := .bool false) (ej rfl rfl) ev_c (wy rfl rfl rfl rfl) (s_pick0 (v := .bool false) (ej rfl rfl) (ej rfl rfl) (w0 rfl) (s_move (v := .bool false) (ej rfl rfl) (w0 rfl) (s_move (v := .int .i32 c) (ej rfl rfl) (wy rfl rfl rfl rfl) (s_cmp (r := decide (c = 95)) (ej rfl rfl) ev_c rfl (wy rfl rfl rfl rfl) (s_pick0 (v := .bool (decide (c = 95))) (ej rfl rfl) (ej rfl rfl) (w0 rfl) (s_assign (v := .bool (decide (c = 95))) (ej rfl rfl) (w0 rfl) (c_done (n_then ?_)))))))))))
  refine c_ret (ret1 (v := .bool (decide (c = 95))) rfl rfl rfl ?_)
  refine ⟨_,rfl,?_,(Ext.refl w)⟩
  (refine congrArg Value.bool ?_; unfold runeB; symm; first | (rw [decide_eq_true_eq]; omega) | (rw [decide_eq_false_iff_not]; omega) | (congr 1; apply propext; omega))
theorem x_spelt (s : ByteArray) (lo hi : Int) (w : World) (hs : s.size ≤ 140737488351232) :
    Rt Tryd.prog 96 #[.string s,.int .i32 lo,.int .i32 hi] w fun v w' => v = .bool (wordB s lo hi) ∧ Ext w w' := by
  refine enter Tryd.func96 rfl (l := [.string s,.int .i32 lo,.int .i32 hi]) rfl Tryd.ntmps96 (Nat.le_of_ble_eq_true rfl) ?_
  refine c_seq (c_reg (s_assign (v := .bool false) ev_c (w0 rfl) (c_done (n_then (c_seq (c_seq (c_reg (s_move (v := .string s) (ej rfl rfl) (w0 rfl) (s_cmpS (r := decide (s = (⟨#[]⟩ : ByteArray))) (ej rfl rfl) ev_c rfl (w0 rfl) ?_)))))))))
  by_cases h1 : s = (⟨#[]⟩ : ByteArray)
  · refine s_move (v := .bool true) (vb (ej rfl rfl) (decide_eq_true h1)) (w0 rfl) (s_skip (wn rfl rfl rfl rfl rfl) (s_skip (wn rfl rfl rfl rfl rfl) (s_skip (wn rfl rfl rfl rfl rfl) (s_pick1 (v := .bool true) (ej rfl rfl) ev_c (w0 rfl) (c_done (n_then (c_cond1 (ej rfl rfl) (c_seq (c_reg (s_assign (v := .bool false) ev_c (w0 rfl) (c_done ?_)))))))))))
    refine n_then (c_ret (r_then (ret1 (v := .bool false) rfl rfl rfl ?_)))
    refine ⟨_,rfl,?_,(Ext.refl w)⟩
    (simp only [wordB]; congr 1; symm; simp only [decide_eq_false_iff_not]; intro hq_; first | omega | (have hz_ : s.size = 0 := (by have e_ : s = (⟨#[]⟩ : ByteArray) := (by assumption); rw [e_]; rfl); omega))
  refine s_move (v := .bool false) (vb (ej rfl rfl) (decide_eq_false h1)) (w0 rfl) (s_move (v := .string s) (ej rfl rfl) (wy rfl rfl rfl rfl) (s_lenS F_us9 (ej rfl rfl) (wy rfl rfl rfl rfl) (s_cmp (r := decide (120 < (s.size : Int))) (ej rfl rfl) ev_c rfl (wy rfl rfl rfl rfl) (s_pick0 (v := .bool (decide (120 < (s.size : Int)))) (ej rfl rfl) (ej rfl rfl) (w0 rfl) (c_done (n_then ?_))))))
  by_cases h2 : 120 < (s.size : Int)
  · refine c_cond1 (vb (ej rfl rfl) (decide_eq_true h2)) (c_seq (c_reg (s_assign (v := .bool false) ev_c (w0 rfl) (c_done (n_then (c_ret (r_then (ret1 (v := .bool false) rfl rfl rfl ?_))))))))
    refine ⟨_,rfl,?_,(Ext.refl w)⟩
    (simp only [wordB]; congr 1; symm; simp only [decide_eq_false_iff_not]; intro hq_; first | omega | (have hz_ : s.size = 0 := (by have e_ : s = (⟨#[]⟩ : ByteArray) := (by assumption); rw [e_]; rfl); omega))
  refine c_cond0 (vb (ej rfl rfl) (decide_eq_false h2)) (c_skip (n_then (c_seq (c_seq (c_reg (s_move (v := .string s) (ej rfl rfl) (w0 rfl) (s_range F_us9 (ej rfl rfl) (w0 rfl) ?_)))))))
  intro w4 g3 n5
  refine c_done (n_then (c_block ?_))
  have ge_it_ : w.heap.size ≤ g3 := by have a_ := NewB.eq n5; have b_ := Keep.size (Ext.refl w); omega
  refine c_loop (α := Nat) (fun (i : Nat) env_ w_ => Ext w w_ ∧ (∀ j,j < i → letterB (byteAt s j) = true) ∧ w_.heap[g3]? = some (.stringIter s i) ∧ (0 < i → lo ≤ (byteAt s 0 : Int) ∧ (byteAt s 0 : Int) ≤ hi) ∧ env_ 1 = .int .i32 lo ∧ env_ 2 = .int .i32 hi ∧ env_ 17 = .pointer (some ⟨g3,0,none⟩)) (fun i => s.size - i) (0) ⟨(NewB.ext n5),(fun j hj => absurd hj (Nat.not_lt_zero j)),(NewB.blk n5),(fun h_ => absurd h_ (by decide)),rfl,rfl,rfl⟩ ?_
  rintro i env8 w6 ⟨x7,i9,i10,i11,e12,e13,e14⟩
  refine c_seq (c_reg ?_)
  by_cases h15 : i < s.size
  · refine s_next1 i10 (ej rfl e14) h15 (w0 rfl) ?_
    intro w16 hb17 k18
    have hrl_ := rune_le s i
    refine s_extract (v := .bool true) (ej rfl rfl) rfl (w0 rfl) (c_done (n_then (c_seq (c_cond1 (ej rfl rfl) (c_skip (n_then (c_block (c_seq (c_reg (s_extract (v := .int .i64 ((i : Nat) : Int)) (ej rfl rfl) rfl (w0 rfl) (s_extract (v := .int .i32 (runeAt s i : Int)) (ej rfl rfl) rfl (w0 rfl) ?_)))))))))))
    refine s_assign (v := .int .i64 ((i : Nat) : Int)) (ej rfl rfl) (w0 rfl) (s_assign (v := .int .i32 (runeAt s i : Int)) (ej rfl rfl) (w0 rfl) (c_done (n_then (c_seq (c_reg (s_move (v := .int .i32 (runeAt s i : Int)) (ej rfl rfl) (w0 rfl) (s_call F_e113 (w0 rfl) ev_f (m1 (ej rfl rfl)) (args := #[.int .i32 (runeAt s i : Int)]) rfl (x_rune (runeAt s i : Int) _) ?_)))))))
    rintro _ w20 ⟨rfl,x19⟩
    refine s_not (b := runeB (runeAt s i : Int)) (ej rfl rfl) (w0 rfl) ?_
    rcases Bool.eq_false_or_eq_true (runeB (runeAt s i : Int)) with h21 | h21
    · refine s_move (v := .bool false) (vb (ej rfl rfl) (nbt h21)) (w0 rfl) (s_move (v := .int .i64 ((i : Nat) : Int)) (ej rfl rfl) (wy rfl rfl rfl rfl) (s_cmp (r := decide (((i : Nat) : Int) = 0)) (ej rfl rfl) ev_c rfl (wy rfl rfl rfl rfl) ?_))
      by_cases h22 : ((i : Nat) : Int) = 0
      · refine s_move (v := .bool true) (vb (ej rfl rfl) (decide_eq_true h22)) (wy rfl rfl rfl rfl) (s_move (v := .int .i32 (runeAt s i : Int)) (ej rfl rfl) (wy rfl rfl rfl rfl) (s_move (v := .int .i32 lo) (ej rfl e12) (wy rfl rfl rfl rfl) (s_cmp (r := decide ((runeAt s i : Int) < lo)) (ej rfl rfl) (ej rfl rfl) rfl (wy rfl rfl rfl rfl) ?_)))
        by_cases h23 : (runeAt s i : Int) < lo
        · refine s_move (v := .bool true) (vb (ej rfl rfl) (decide_eq_true h23)) (wy rfl rfl rfl rfl) (s_skip (wn rfl rfl rfl rfl rfl) (s_skip (wn rfl rfl rfl rfl rfl) (s_skip (wn rfl rfl rfl rfl rfl) (s_pick1 (v := .bool true) (ej rfl rfl) ev_c (wy rfl rfl rfl rfl) (s_pick1 (v := .bool true) (ej rfl rfl) (ej rfl rfl) (wy rfl rfl rfl rfl) (s_pick0 (v := .bool true) (ej rfl rfl) (ej rfl rfl) (w0 rfl) (c_done (n_then (c_cond1 (ej rfl rfl) (c_seq (c_reg ?_)))))))))))
          refine s_assign (v := .bool false) ev_c (w0 rfl) (c_done (n_then (c_ret (r_block (r_then (r_block (r_then (ret1 (v := .bool false) rfl rfl rfl ?_))))))))
          refine ⟨_,rfl,?_,(Ext.trans (Keep.then_ x7 k18 (fun i_ hi_ h_ => by have a_ := ge_it_; omega)) x19)⟩
          (refine congrArg Value.bool (Eq.symm ?_); first | exact wordB_no i h15 (rune_no h15 (by assumption)) | (simp only [wordB,decide_eq_false_iff_not]; have z_ := (rune_yes h15 (by assumption)).1; have z0_ : i = 0 := (by omega); subst z0_; omega))
        refine s_move (v := .bool false) (vb (ej rfl rfl) (decide_eq_false h23)) (wy rfl rfl rfl rfl) (s_move (v := .int .i32 (runeAt s i : Int)) (ej rfl rfl) (wy rfl rfl rfl rfl) (s_move (v := .int .i32 hi) (ej rfl e13) (wy rfl rfl rfl rfl) (s_cmp (r := decide (hi < (runeAt s i : Int))) (ej rfl rfl) (ej rfl rfl) rfl (wy rfl rfl rfl rfl) (s_pick0 (v := .bool (decide (hi < (runeAt s i : Int)))) (ej rfl rfl) (ej rfl rfl) (wy rfl rfl rfl rfl) (s_pick1 (v := .bool (decide (hi < (runeAt s i : Int)))) (ej rfl rfl) (ej rfl rfl) (wy rfl rfl rfl rfl) (s_pick0 (v := .bool (decide (hi < (runeAt s i : Int)))) (ej rfl rfl) (ej rfl rfl) (w0 rfl) (c_done (n_then ?_))))))))
        by_cases h24 : hi < (runeAt s i : Int)
        · refine c_cond1 (vb (ej rfl rfl) (decide_eq_true h24)) (c_seq (c_reg (s_assign (v := .bool false) ev_c (w0 rfl) (c_done (n_then (c_ret (r_block (r_then (r_block (r_then (ret1 (v := .bool false) rfl rfl rfl ?_)))))))))))
          refine ⟨_,rfl,?_,(Ext.trans (Keep.then_ x7 k18 (fun i_ hi_ h_ => by have a_ := ge_it_; omega)) x19)⟩
          (refine congrArg Value.bool (Eq.symm ?_); first | exact wordB_no i h15 (rune_no h15 (by assumption)) | (simp only [wordB,decide_eq_false_iff_not]; have z_ := (rune_yes h15 (by assumption)).1; have z0_ : i = 0 := (by omega); subst z0_; omega))
        refine c_cond0 (vb (ej rfl rfl) (decide_eq_false h24)) (c_skip (n_block ?_))
        exact ⟨(i + 1),_,rfl,⟨(Ext.trans (Keep.then_ x7 k18 (fun i_ hi_ h_ => by have a_ := ge_it_; omega)) x19),(step_all0 i9 (rune_yes h15 (by assumption)).2.2),(by have z_ := (Ext.blk x19 hb17); rw [(rune_yes h15 (by assumption)).2.1] at z_; exact z_),(fun _ => by have z_ := (rune_yes h15 (by assumption)).1; (by_cases h0_ : i = 0); (subst h0_; omega); (exact i11 (by omega))),e12,e13,e14⟩,(by omega)⟩
      refine s_move (v := .bool false) (vb (ej rfl rfl) (decide_eq_false h22)) (wy rfl rfl rfl rfl) (s_skip (wn rfl rfl rfl rfl rfl) (s_skip (wn rfl rfl rfl rfl rfl) (s_skip (wn rfl rfl rfl rfl rfl) (s_skip (wn rfl rfl rfl rfl rfl) (s_skip (wu rfl rfl rfl rfl) (s_skip (wu rfl rfl rfl rfl) (s_skip (wu rfl rfl rfl rfl) (s_skip (wn rfl rfl rfl rfl rfl) (s_pick0 (v := .bool false) (ej rfl rfl) ev_c (wy rfl rfl rfl rfl) (s_pick0 (v := .bool false) (ej rfl rfl) (ej rfl rfl) (w0 rfl) (c_done ?_)))))))))))
      refine n_then (c_cond0 (ej rfl rfl) (c_skip (n_block ?_)))
      exact ⟨(i + 1),_,rfl,⟨(Ext.trans (Keep.then_ x7 k18 (fun i_ hi_ h_ => by have a_ := ge_it_; omega)) x19),(step_all0 i9 (rune_yes h15 (by assumption)).2.2),(by have z_ := (Ext.blk x19 hb17); rw [(rune_yes h15 (by assumption)).2.1] at z_; exact z_),(fun _ => by have z_ := (rune_yes h15 (by assumption)).1; (by_cases h0_ : i = 0); (subst h0_; omega); (exact i11 (by omega))),e12,e13,e14⟩,(by omega)⟩
    refine s_move (v := .bool true) (vb (ej rfl rfl) (nbf h21)) (w0 rfl) (s_skip (wn rfl rfl rfl rfl rfl) (s_skip (wn rfl rfl rfl rfl rfl) (s_skip (wn rfl rfl rfl rfl rfl) (s_skip (wu rfl rfl rfl rfl) (s_skip (wu rfl rfl rfl rfl) (s_skip (wu rfl rfl rfl rfl) (s_skip (wu rfl rfl rfl rfl) (s_skip (wu rfl rfl rfl rfl) (s_skip (wu rfl rfl rfl rfl) (s_skip (wu rfl rfl rfl rfl) (s_skip (wu rfl rfl rfl rfl) ?_)))))))))))
    refine s_skip (wn rfl rfl rfl rfl rfl) (s_pick1 (v := .bool true) (ej rfl rfl) ev_c (w0 rfl) (c_done (n_then (c_cond1 (ej rfl rfl) (c_seq (c_reg (s_assign (v := .bool false) ev_c (w0 rfl) (c_done (n_then (c_ret (r_block ?_)))))))))))
    refine r_then (r_block (r_then (ret1 (v := .bool false) rfl rfl rfl ?_)))
    refine ⟨_,rfl,?_,(Ext.trans (Keep.then_ x7 k18 (fun i_ hi_ h_ => by have a_ := ge_it_; omega)) x19)⟩
    (refine congrArg Value.bool (Eq.symm ?_); first | exact wordB_no i h15 (rune_no h15 (by assumption)) | (simp only [wordB,decide_eq_false_iff_not]; have z_ := (rune_yes h15 (by assumption)).1; have z0_ : i = 0 := (by omega); subst z0_; omega))
  refine s_next0 i10 (ej rfl e14) h15 (w0 rfl) (s_extract (v := .bool false) (ej rfl rfl) rfl (w0 rfl) (c_done (n_then (c_seq (c_cond0 (ej rfl rfl) (c_exit (e_then (e_then (e_hit (n_then (c_seq ?_)))))))))))
  refine c_reg (s_assign (v := .bool true) ev_c (w0 rfl) (c_done (n_then (c_ret (ret1 (v := .bool true) rfl rfl rfl ?_)))))
  refine ⟨_,rfl,?_,x7⟩
  (have hz_ := size_ne (s := s) (by assumption); refine congrArg Value.bool (Eq.symm (wordB_yes0 (by omega) (by omega) (by have z_ := i11 (by omega); omega) (by have z_ := i11 (by omega); omega) (i := i) (by omega) i9)))
theorem x_Keyword (s : ByteArray) (w : World) (tk : KwT Tryd.prog w) :
    Rt Tryd.prog 97 #[.string s] w fun v w' => v = .bool (kwB s) ∧ Ext w w' := by
  refine enter Tryd.func97 rfl (l := [.string s]) rfl Tryd.ntmps97 (Nat.le_of_ble_eq_true rfl) ?_
  refine c_seq (c_reg (s_assign (v := .bool false) ev_c (w0 rfl) (c_done (n_then (c_seq (c_seq (c_reg (s_loadL (cs := kwC) (ca := #[.string (⟨#[110,111,116]⟩ : ByteArray),.string (⟨#[99,111,117,110,116]⟩ : ByteArray),.string (⟨#[115,117,109]⟩ : ByteArray),.string (⟨#[109,105,110]⟩ : ByteArray),.string (⟨#[109,97,120]⟩ : ByteArray),.string (⟨#[108,101,110]⟩ : ByteArray),.string (⟨#[99,104,97,114,115]⟩ : ByteArray),.string (⟨#[98,97,99,107]⟩ : ByteArray)]) F_m106 ev_g rfl rfl (KwT.cells (KwT.ext tk (Ext.refl w)) F_gn5) (w0 rfl) (s_move (v := .int .i64 0) ev_c (w0 rfl) (c_done (n_then ?_)))))))))))
  refine c_block (c_loop (α := Nat) (fun (i : Nat) env_ w_ => Ext w w_ ∧ (∀ j,j < i → ¬ s = sAt kwL j) ∧ env_ 0 = .string s ∧ env_ 5 = .agg #[.string (⟨#[110,111,116]⟩ : ByteArray),.string (⟨#[99,111,117,110,116]⟩ : ByteArray),.string (⟨#[115,117,109]⟩ : ByteArray),.string (⟨#[109,105,110]⟩ : ByteArray),.string (⟨#[109,97,120]⟩ : ByteArray),.string (⟨#[108,101,110]⟩ : ByteArray),.string (⟨#[99,104,97,114,115]⟩ : ByteArray),.string (⟨#[98,97,99,107]⟩ : ByteArray)] ∧ env_ 6 = .int .i64 ((i : Nat) : Int)) (fun i => 8 - i) (0) ⟨Ext.refl _,(fun j hj => absurd hj (Nat.not_lt_zero j)),rfl,rfl,rfl⟩ ?_)
  rintro i env3 w1 ⟨x2,i4,e5,e6,e7⟩
  refine c_seq (c_reg (s_cmp (r := decide (((i : Nat) : Int) < 8)) (ej rfl e7) ev_c rfl (w0 rfl) (c_done (n_then (c_seq ?_)))))
  by_cases h8 : ((i : Nat) : Int) < 8
  · refine c_cond1 (vb (ej rfl rfl) (decide_eq_true h8)) (c_skip (n_then (c_seq (c_block (c_seq (c_reg (s_indexV (v := .string (sAt kwL i)) (j := i) F_ua106 F_o9 F_sz9 (ej rfl e6) (ej rfl e7) (by omega) (kw_at (by omega)) (w0 rfl) (s_assign (v := .string (sAt kwL i)) (ej rfl rfl) (w0 rfl) (c_done (n_then (c_seq ?_)))))))))))
    refine c_reg (s_move (v := .string s) (ej rfl e5) (w0 rfl) (s_move (v := .string (sAt kwL i)) (ej rfl rfl) (w0 rfl) (s_cmpS (r := decide (s = (sAt kwL i))) (ej rfl rfl) (ej rfl rfl) rfl (w0 rfl) (c_done (n_then ?_)))))
    by_cases h9 : s = (sAt kwL i)
    · refine c_cond1 (vb (ej rfl rfl) (decide_eq_true h9)) (c_seq (c_reg (s_assign (v := .bool true) ev_c (w0 rfl) (c_done (n_then (c_ret (r_block (r_then (r_then (r_block (r_then ?_)))))))))))
      refine ret1 (v := .bool true) rfl rfl rfl ?_
      refine ⟨_,rfl,?_,x2⟩
      (exact congrArg Value.bool (kw_yes (i := i) (by omega) (by assumption)).symm)
    refine c_cond0 (vb (ej rfl rfl) (decide_eq_false h9)) (c_skip (n_block (n_then (c_reg (s_add (r := ((i + 1 : Nat) : Int)) (ej rfl e7) ev_c (by omega) (by omega) (w0 rfl) (s_move (v := .int .i64 ((i + 1 : Nat) : Int)) (ej rfl rfl) (w0 rfl) (c_done ?_)))))))
    exact ⟨(i + 1),_,rfl,⟨x2,(kw_step i4 (by assumption)),e5,e6,rfl⟩,(show 8 - (i + 1) < 8 - i by omega)⟩
  refine c_cond0 (vb (ej rfl rfl) (decide_eq_false h8)) (c_exit (e_then (e_then (e_hit (n_then (c_seq (c_reg (s_assign (v := .bool false) ev_c (w0 rfl) (c_done (n_then (c_ret ?_)))))))))))
  refine ret1 (v := .bool false) rfl rfl rfl ?_
  refine ⟨_,rfl,?_,x2⟩
  (exact congrArg Value.bool (kw_no (i := i) (by omega) i4).symm)
theorem x_Name (s : ByteArray) (w : World) (hs : s.size ≤ 140737488351232) (tk : KwT Tryd.prog w) :
    Rt Tryd.prog 71 #[.string s] w fun v w' => v = .bool (nameB s) ∧ Ext w w' := by
  refine enter Tryd.func71 rfl (l := [.string s]) rfl Tryd.ntmps71 (Nat.le_of_ble_eq_true rfl) ?_
  refine c_seq (c_reg (s_assign (v := .bool false) ev_c (w0 rfl) (c_done (n_then (c_seq (c_reg (s_move (v := .string s) (ej rfl rfl) (w0 rfl) (s_call F_e96 (w0 rfl) ev_f (m3 (ej rfl rfl) ev_c ev_c) (args := #[.string s,.int .i32 97,.int .i32 122]) rfl (x_spelt s 97 122 _ hs) ?_))))))))
  rintro _ w2 ⟨rfl,x1⟩
  rcases Bool.eq_false_or_eq_true (wordB s 97 122) with h3 | h3
  · refine s_move (v := .bool true) (vb (ej rfl rfl) h3) (w0 rfl) (s_move (v := .string s) (ej rfl rfl) (wy rfl rfl rfl rfl) (s_call F_e97 (wy rfl rfl rfl rfl) ev_f (m1 (ej rfl rfl)) (args := #[.string s]) rfl (x_Keyword s _ (KwT.ext tk x1)) ?_))
    rintro _ w5 ⟨rfl,x4⟩
    refine s_not (b := kwB s) (ej rfl rfl) (wy rfl rfl rfl rfl) (s_pick1 (v := .bool (!(kwB s))) (ej rfl rfl) (ej rfl rfl) (w0 rfl) (s_assign (v := .bool (!(kwB s))) (ej rfl rfl) (w0 rfl) (c_done (n_then (c_ret (ret1 (v := .bool (!(kwB s))) rfl rfl rfl ?_))))))
    refine ⟨_,rfl,?_,(Ext.trans x1 x4)⟩
    (refine congrArg Value.bool ?_; unfold nameB; ((try simp only [*,decide_true,decide_false,if_true,if_false,Bool.and_true,Bool.true_and,Bool.false_and,Bool.and_false,Bool.not_true,Bool.not_false,Bool.false_eq_true,reduceIte,not_true_eq_false,not_false_eq_true]); first | done | rfl))
  refine s_move (v := .bool false) (vb (ej rfl rfl) h3) (w0 rfl) (s_skip (wn rfl rfl rfl rfl rfl) (s_skip (wn rfl rfl rfl rfl rfl) (s_skip (wn rfl rfl rfl rfl rfl) (s_pick0 (v := .bool false) (ej rfl rfl) ev_c (w0 rfl) (s_assign (v := .bool false) (ej rfl rfl) (w0 rfl) (c_done (n_then (c_ret (ret1 (v := .bool false) rfl rfl rfl ?_)))))))))
  refine ⟨_,rfl,?_,x1⟩
  (refine congrArg Value.bool ?_; unfold nameB; ((try simp only [*,decide_true,decide_false,if_true,if_false,Bool.and_true,Bool.true_and,Bool.false_and,Bool.and_false,Bool.not_true,Bool.not_false,Bool.false_eq_true,reduceIte,not_true_eq_false,not_false_eq_true]); first | done | rfl))
end Go.Proofs.Dw

set_option linter.unusedVariables false
set_option linter.unusedSimpArgs false
set_option maxRecDepth 10000
namespace Go.Proofs.Dw
open Go Go.Wk Go.Proofs Go.Lib
attribute [local irreducible] Go.wpList Go.wpStill Go.wpQuiet Go.Code.wp Go.Calls
theorem F_e27 : enterable Tryd.prog 27 = true := by kernel_rfl
theorem F_e71 : enterable Tryd.prog 71 = true := by kernel_rfl
theorem F_f61_0 : fieldAt Tryd.prog 61 0 0 = true := by kernel_rfl
theorem F_f61_1 : fieldAt Tryd.prog 61 1 1 = true := by kernel_rfl
theorem F_l43 : sliceT Tryd.prog 43 2 = true := by kernel_rfl
theorem F_l59 : sliceT Tryd.prog 59 3 = true := by kernel_rfl
theorem F_o59 : one Tryd.prog 59 = true := by kernel_rfl
theorem p_mayBe (x : Fc) (A : Option Addr) (c : Nat) (w : World) (ho : x.okc c) (hr : Row RV 3 w A x.args) (tk : KwT Tryd.prog w) :
    Rt Tryd.prog 38 #[.agg #[.string x.p,.slice A x.args.length c]] w fun v w' => v = .bool (mayB x) ∧ Ext w w' := by
  refine enter Tryd.func38 rfl (l := [.agg #[.string x.p,.slice A x.args.length c]]) rfl Tryd.ntmps38 (Nat.le_of_ble_eq_true rfl) ?_
  have hp_ := Fc.okc.p ho
  have hl_ := Fc.okc.l ho
  have hc_ := Fc.okc.c ho
  refine c_seq (c_reg (s_box (v := .agg #[.string x.p,.slice A x.args.length c]) (cs := #[.string x.p,.slice A x.args.length c]) (w0 rfl) (ej rfl rfl) rfl ?_))
  intro w2 g1 n3
  refine s_assign (v := .bool false) ev_c (w0 rfl) (c_done (n_then (c_seq (c_seq (c_reg (s_field (off := 1) (o' := 1) F_f61_1 (ej rfl rfl) rfl (w0 rfl) (s_load (v := .slice A x.args.length c) F_o59 (ej rfl rfl) (cell_of_blk (i := 1) (NewB.blk n3) rfl) (w0 rfl) (s_lenL F_l59 (ej rfl rfl) (w0 rfl) (s_move (v := .int .i64 0) ev_c (w0 rfl) (c_done (n_then ?_)))))))))))
  refine c_block ?_
  refine c_loop (α := Nat) (fun (i : Nat) env_ w_ => Ext w2 w_ ∧ i ≤ x.args.length ∧ (∀ j y,j < i → x.args[j]? = some y → okV y = true) ∧ env_ 1 = .pointer (some ⟨g1,0,none⟩) ∧ env_ 6 = .slice A x.args.length c ∧ env_ 7 = .int .i64 (x.args.length : Int) ∧ env_ 8 = .int .i64 ((i : Nat) : Int)) (fun i => x.args.length - i) (0) ⟨Ext.refl _,Nat.zero_le _,(fun j y h => absurd h (Nat.not_lt_zero j)),rfl,rfl,rfl,rfl⟩ ?_
  rintro i env6 w4 ⟨x5,i7,i8,e9,e10,e11,e12⟩
  refine c_seq (c_reg (s_cmp (r := decide (((i : Nat) : Int) < (x.args.length : Int))) (ej rfl e12) (ej rfl e11) rfl (w0 rfl) (c_done (n_then (c_seq ?_)))))
  by_cases h13 : ((i : Nat) : Int) < (x.args.length : Int)
  · refine c_cond1 (vb (ej rfl rfl) (decide_eq_true h13)) (c_skip (n_then (c_seq (c_block (c_seq (c_reg ?_))))))
    obtain ⟨b14,o15,x16,csx16,hA17,hx18,hR19,hc20⟩ := Row.at_ hr i (by omega)
    obtain rfl := vlAt_of hx18
    obtain ⟨rfl,wf21⟩ := hR19
    refine s_indexR (j := i) F_l59 (ej rfl e10) hA17 (ej rfl e12) rfl (by omega) (w0 rfl) (s_loadL (cs := [.int .i8 ((vlAt x.args i).k),.int .i64 ((vlAt x.args i).n),.string ((vlAt x.args i).s)]) F_m26 (ej rfl rfl) rfl rfl (sub_cells (cells_ext x5 (cells_ext (NewB.ext n3) hc20)) 0 rfl) (w0 rfl) (s_alloc (cs := #[.int .i8 0,.int .i64 0,.string (⟨#[]⟩ : ByteArray)]) (w0 rfl) F_z26 rfl ?_))
    intro w23 g22 n24
    refine s_store (cs' := #[.int .i8 ((vlAt x.args i).k),.int .i64 ((vlAt x.args i).n),.string ((vlAt x.args i).s)]) F_sz26 (ej rfl rfl) (ej rfl rfl) (l := [.int .i8 ((vlAt x.args i).k),.int .i64 ((vlAt x.args i).n),.string ((vlAt x.args i).s)]) rfl rfl rfl (NewB.blk n24) (Nat.le_of_ble_eq_true rfl) rfl (w0 rfl) ?_
    intro w25 k26
    refine c_done (n_then (c_seq (c_reg (s_loadL (cs := [.int .i8 ((vlAt x.args i).k),.int .i64 ((vlAt x.args i).n),.string ((vlAt x.args i).s)]) F_m26 (ej rfl rfl) rfl rfl (blk_cells (Wrote.blk k26) 0 rfl) (w0 rfl) (s_call F_e70 (w0 rfl) ev_f (m1 (ej rfl rfl)) (args := #[.agg #[.int .i8 ((vlAt x.args i).k),.int .i64 ((vlAt x.args i).n),.string ((vlAt x.args i).s)]]) rfl (v_Check (vlAt x.args i) _) ?_)))))
    rintro _ w28 ⟨rfl,x27⟩
    refine s_cmp (r := !(okV (vlAt x.args i))) (ej rfl rfl) ev_c (ci_tn (b := (okV (vlAt x.args i))) (by decide)) (w0 rfl) (c_done (n_then ?_))
    rcases Bool.eq_false_or_eq_true (okV (vlAt x.args i)) with h29 | h29
    · refine c_cond0 (vb (ej rfl rfl) (nbt h29)) (c_skip (n_block (n_then (c_reg (s_add (r := ((i + 1 : Nat) : Int)) (ej rfl e12) ev_c (by omega) (by omega) (w0 rfl) (s_move (v := .int .i64 ((i + 1 : Nat) : Int)) (ej rfl rfl) (w0 rfl) (c_done ?_)))))))
      exact ⟨(i + 1),_,rfl,⟨(Ext.trans (Keep.then_ (Ext.trans x5 (NewB.ext n24)) (Wrote.keep k26) (fun i_ hi_ h_ => by have a_ := NewB.eq n24; have b_ := Keep.size x5; omega)) x27),by omega,(kids_step i8 (vlAt_there (by omega)) (by assumption)),e9,e10,e11,rfl⟩,(show x.args.length - (i + 1) < x.args.length - i by omega)⟩
    refine c_cond1 (vb (ej rfl rfl) (nbf h29)) (c_seq (c_reg (s_assign (v := .bool false) ev_c (w0 rfl) (c_done (n_then (c_ret (r_block (r_then (r_then (r_block (r_then ?_)))))))))))
    refine ret1 (v := .bool false) rfl rfl rfl ?_
    refine ⟨_,rfl,?_,(Ext.trans (Keep.then_ (Ext.trans (Ext.trans (NewB.ext n3) x5) (NewB.ext n24)) (Wrote.keep k26) (fun i_ hi_ h_ => by have a_ := NewB.eq n24; have b_ := Keep.size (Ext.trans (NewB.ext n3) x5); omega)) x27)⟩
    (refine congrArg Value.bool ?_; unfold mayB; first | (rw [all_no (vlAt_there (l := x.args) (j := i) (by omega)) (by assumption)]; simp only [Bool.false_and]; done) | (rw [all_yes (by omega) i8]; ((try simp only [*,decide_true,decide_false,if_true,if_false,Bool.and_true,Bool.true_and,Bool.false_and,Bool.and_false,Bool.not_true,Bool.not_false,Bool.false_eq_true,reduceIte,not_true_eq_false,not_false_eq_true]); first | done | rfl)))
  refine c_cond0 (vb (ej rfl rfl) (decide_eq_false h13)) (c_exit (e_then (e_then (e_hit (n_then (c_seq (c_reg (s_field (off := 0) (o' := 0) F_f61_0 (ej rfl e9) rfl (w0 rfl) (s_load (v := .string x.p) F_o9 (ej rfl rfl) (cell_of_blk (i := 0) (Ext.blk x5 (NewB.blk n3)) rfl) (w0 rfl) (s_call F_e71 (w0 rfl) ev_f (m1 (ej rfl rfl)) (args := #[.string x.p]) rfl (x_Name x.p _ (by omega) (KwT.ext tk (Ext.trans (NewB.ext n3) x5))) ?_))))))))))
  rintro _ w31 ⟨rfl,x30⟩
  rcases Bool.eq_false_or_eq_true (nameB x.p) with h32 | h32
  · refine s_move (v := .bool true) (vb (ej rfl rfl) h32) (w0 rfl) (s_field (off := 1) (o' := 1) F_f61_1 (ej rfl e9) rfl (wy rfl rfl rfl rfl) (s_load (v := .slice A x.args.length c) F_o59 (ej rfl rfl) (cell_of_blk (i := 1) (Ext.blk x30 (Ext.blk x5 (NewB.blk n3))) rfl) (wy rfl rfl rfl rfl) (s_lenL F_l59 (ej rfl rfl) (wy rfl rfl rfl rfl) (s_cmp (r := decide ((x.args.length : Int) ≤ 24)) (ej rfl rfl) ev_c rfl (wy rfl rfl rfl rfl) (s_pick1 (v := .bool (decide ((x.args.length : Int) ≤ 24))) (ej rfl rfl) (ej rfl rfl) (w0 rfl) (s_assign (v := .bool (decide ((x.args.length : Int) ≤ 24))) (ej rfl rfl) (w0 rfl) (c_done (n_then (c_ret (ret1 (v := .bool (decide ((x.args.length : Int) ≤ 24))) rfl rfl rfl ?_))))))))))
    refine ⟨_,rfl,?_,(Ext.trans (Ext.trans (NewB.ext n3) x5) x30)⟩
    (refine congrArg Value.bool ?_; unfold mayB; first | (rw [all_no (vlAt_there (l := x.args) (j := i) (by omega)) (by assumption)]; simp only [Bool.false_and]; done) | (rw [all_yes (by omega) i8]; ((try simp only [*,decide_true,decide_false,if_true,if_false,Bool.and_true,Bool.true_and,Bool.false_and,Bool.and_false,Bool.not_true,Bool.not_false,Bool.false_eq_true,reduceIte,not_true_eq_false,not_false_eq_true]); first | done | rfl)))
  refine s_move (v := .bool false) (vb (ej rfl rfl) h32) (w0 rfl) (s_skip (wn rfl rfl rfl rfl rfl) (s_skip (wn rfl rfl rfl rfl rfl) (s_skip (wn rfl rfl rfl rfl rfl) (s_skip (wn rfl rfl rfl rfl rfl) (s_pick0 (v := .bool false) (ej rfl rfl) ev_c (w0 rfl) (s_assign (v := .bool false) (ej rfl rfl) (w0 rfl) (c_done (n_then (c_ret (ret1 (v := .bool false) rfl rfl rfl ?_))))))))))
  refine ⟨_,rfl,?_,(Ext.trans (Ext.trans (NewB.ext n3) x5) x30)⟩
  (refine congrArg Value.bool ?_; unfold mayB; first | (rw [all_no (vlAt_there (l := x.args) (j := i) (by omega)) (by assumption)]; simp only [Bool.false_and]; done) | (rw [all_yes (by omega) i8]; ((try simp only [*,decide_true,decide_false,if_true,if_false,Bool.and_true,Bool.true_and,Bool.false_and,Bool.and_false,Bool.not_true,Bool.not_false,Bool.false_eq_true,reduceIte,not_true_eq_false,not_false_eq_true]); first | done | rfl)))
end Go.Proofs.Dw
