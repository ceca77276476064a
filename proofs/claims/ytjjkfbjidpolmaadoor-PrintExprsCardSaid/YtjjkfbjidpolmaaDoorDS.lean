/- YtjjkfbjidpolmaaDoorDS: part of the proof of this seat, by an AI agent: the argument is opened. No condition of its own but those that its theorems state. -/
import Derived.Test.YtjjkfbjidpolmaaDoorDR
import Derived.Test.YtjjkfbjidpolmaaDoorRows
import Derived.ChangeArms
import Derived.DataReads
import Derived.SizedLaws
import Derived.Deep.Slices
set_option linter.unusedVariables false
set_option linter.unusedSimpArgs false
set_option maxRecDepth 10000
namespace Go.Proofs.Dw
open Go Go.Wk Go.Proofs Go.Lib Go.ChangeShapes Go.WideShapes Go.RowKit
section
variable {H : Type} {enc : TypeId × Value → H} {w : World} {sp : Nat → Bool} {held : Bool}
theorem ce2 : Tryd.prog.cellsOf 2 = 1 := by kernel_rfl
theorem ce9 : Tryd.prog.cellsOf 9 = 1 := by kernel_rfl
theorem ce23 : Tryd.prog.cellsOf 23 = 1 := by kernel_rfl
theorem ce24 : Tryd.prog.cellsOf 24 = 1 := by kernel_rfl
theorem ce26 : Tryd.prog.cellsOf 26 = 3 := by kernel_rfl
theorem ce28 : Tryd.prog.cellsOf 28 = 4 := by kernel_rfl
theorem ce29 : Tryd.prog.cellsOf 29 = 1 := by kernel_rfl
theorem ce31 : Tryd.prog.cellsOf 31 = 6 := by kernel_rfl
theorem by31 : Tryd.prog.bytesOf 31 = 80 := by kernel_rfl
theorem len3 {l : List Value} (h : l.length = 3) : ∃ a b c, l = [a, b, c] := by
  match l, h with | [a, b, c], _ => exact ⟨a, b, c, rfl⟩
theorem len4 {l : List Value} (h : l.length = 4) : ∃ a b c d, l = [a, b, c, d] := by
  match l, h with | [a, b, c, d], _ => exact ⟨a, b, c, d, rfl⟩
theorem len6 {l : List Value} (h : l.length = 6) : ∃ a b c d e f, l = [a, b, c, d, e, f] := by
  match l, h with | [a, b, c, d, e, f], _ => exact ⟨a, b, c, d, e, f, rfl⟩
theorem xs2 {α : Type} {l : List α} (h : l.length = 2) : ∃ a b, l = [a, b] := by
  match l, h with | [a, b], _ => exact ⟨a, b, rfl⟩
theorem xs3 {α : Type} {l : List α} (h : l.length = 3) : ∃ a b c, l = [a, b, c] := by
  match l, h with | [a, b, c], _ => exact ⟨a, b, c, rfl⟩
theorem small (n : Nat) : n ≤ reachBytes → n ≤ 140737488351232 := fun h => h
theorem i8_wf {n : Int} (h : (Lit.int .i8 n).wf = true) : -128 ≤ n ∧ n ≤ 127 := by
  simp only [Lit.wf, Bool.and_eq_true, decide_eq_true_eq] at h; exact h
theorem i64_wf {n : Int} (h : (Lit.int .i64 n).wf = true) : -9223372036854775808 ≤ n ∧ n ≤ 9223372036854775807 := by
  simp only [Lit.wf, Bool.and_eq_true, decide_eq_true_eq] at h; exact h
theorem o_V {n : Nat} {cs : List Value} {x : DataW H × List MemPlace} (h : DataW.trod enc Tryd.prog w 0 sp held n 26 cs = some x) (hs : ∀ k ∈ x.1.weights Tryd.prog 26, k ≤ reachBytes) : ∃ v : Vl, cs = [.int .i8 v.k, .int .i64 v.n, .string v.s] ∧ v.wf := by
  obtain ⟨xs, m, rfl, rfl, hl, hx, hf⟩ := DataW.trod_struct Tryd.underlying26 h
  obtain ⟨c0, c1, c2, rfl⟩ := len3 (hl.trans ce26)
  obtain ⟨a, b, c, rfl⟩ := xs3 hx
  have f0 : DataW.trod enc Tryd.prog w 0 sp held m 24 (([c0, c1, c2].drop 0).take (Tryd.prog.cellsOf 24)) = some a := hf 0 _ rfl
  have f1 : DataW.trod enc Tryd.prog w 0 sp held m 2 (([c0, c1, c2].drop 1).take (Tryd.prog.cellsOf 2)) = some b := hf 1 _ rfl
  have f2 : DataW.trod enc Tryd.prog w 0 sp held m 9 (([c0, c1, c2].drop 2).take (Tryd.prog.cellsOf 9)) = some c := hf 2 _ rfl
  rw [ce24] at f0
  rw [ce2] at f1
  rw [ce9] at f2
  obtain ⟨k0, e0, r0, w0⟩ := DataW.trod_int (k := .i8) Tryd.underlying24 (show DataW.trod enc Tryd.prog w 0 sp held m 24 [c0] = some a from f0)
  obtain ⟨k1, e1, r1, w1⟩ := DataW.trod_int (k := .i64) Tryd.underlying2 (show DataW.trod enc Tryd.prog w 0 sp held m 2 [c1] = some b from f1)
  obtain ⟨s, e2, r2, w2⟩ := DataW.trod_string Tryd.underlying9 (show DataW.trod enc Tryd.prog w 0 sp held m 9 [c2] = some c from f2)
  cases e0; cases e1; cases e2
  subst r0 r1 r2
  refine ⟨⟨k0, k1, s⟩, rfl, ⟨i8_wf w0, i64_wf w1, ?_⟩⟩
  have := hs s.data.toList.length (by simp [DataW.weights, Tryd.underlying26, DataW.weightsEach])
  exact this
theorem o_T {n : Nat} {cs : List Value} {x : DataW H × List MemPlace} (h : DataW.trod enc Tryd.prog w 0 sp held n 28 cs = some x) (hs : ∀ k ∈ x.1.weights Tryd.prog 28, k ≤ reachBytes) : ∃ t : Tm, cs = [.string t.v, .int .i8 t.l.k, .int .i64 t.l.n, .string t.l.s] ∧ t.wf := by
  obtain ⟨xs, m, rfl, rfl, hl, hx, hf⟩ := DataW.trod_struct Tryd.underlying28 h
  obtain ⟨c0, c1, c2, c3, rfl⟩ := len4 (hl.trans ce28)
  obtain ⟨a, b, rfl⟩ := xs2 hx
  have f0 : DataW.trod enc Tryd.prog w 0 sp held m 9 (([c0, c1, c2, c3].drop 0).take (Tryd.prog.cellsOf 9)) = some a := hf 0 _ rfl
  have f1 : DataW.trod enc Tryd.prog w 0 sp held m 26 (([c0, c1, c2, c3].drop 1).take (Tryd.prog.cellsOf 26)) = some b := hf 1 _ rfl
  rw [ce9] at f0
  rw [ce26] at f1
  obtain ⟨s, e2, r2, w2⟩ := DataW.trod_string Tryd.underlying9 (show DataW.trod enc Tryd.prog w 0 sp held m 9 [c0] = some a from f0)
  obtain ⟨v, ev, hv⟩ := o_V (show DataW.trod enc Tryd.prog w 0 sp held m 26 [c1, c2, c3] = some b from f1) (fun k hk => hs k (by simp [DataW.weights, Tryd.underlying28, DataW.weightsEach, hk]))
  cases e2
  subst r2
  simp only [List.cons.injEq, and_true] at ev
  obtain ⟨rfl, rfl, rfl⟩ := ev
  refine ⟨⟨s, v⟩, rfl, ⟨?_, hv⟩⟩
  have := hs s.data.toList.length (by simp [DataW.weights, Tryd.underlying28, DataW.weightsEach])
  exact this
theorem weights_all {P : Program} {e : TypeId} {d : DataW H} {k : Nat} : ∀ {l : List (DataW H)}, d ∈ l → k ∈ d.weights P e → k ∈ DataW.weightsAll P e l
  | [], h, _ => by simp at h
  | y :: l, h, hk => by
    rcases List.mem_cons.1 h with rfl | h
    · simp [DataW.weightsAll, hk]
    · simp [DataW.weightsAll, weights_all h hk]
theorem o_E : ∀ (n : Nat) (cs : List Value) (x : DataW H × List MemPlace), DataW.trod enc Tryd.prog w 0 sp held n 31 cs = some x → (∀ k ∈ x.1.weights Tryd.prog 31, k ≤ reachBytes) →
    ∃ (e : Ex) (A : Option Addr) (c : Nat), cs = [.int .i8 e.op, .string e.t.v, .int .i8 e.t.l.k, .int .i64 e.t.l.n, .string e.t.l.s, .slice A e.kids.length c] ∧ e.okc c ∧ Row RE 6 w A e.kids := by
  intro n
  induction n using Nat.strongRecOn with
  | _ n ih =>
    intro cs x h hs
    obtain ⟨xs, m, rfl, rfl, hl, hx, hf⟩ := DataW.trod_struct Tryd.underlying31 h
    obtain ⟨c0, c1, c2, c3, c4, c5, rfl⟩ := len6 (hl.trans ce31)
    obtain ⟨a, b, c, rfl⟩ := xs3 hx
    have f0 : DataW.trod enc Tryd.prog w 0 sp held m 23 (([c0, c1, c2, c3, c4, c5].drop 0).take (Tryd.prog.cellsOf 23)) = some a := hf 0 _ rfl
    have f1 : DataW.trod enc Tryd.prog w 0 sp held m 28 (([c0, c1, c2, c3, c4, c5].drop 1).take (Tryd.prog.cellsOf 28)) = some b := hf 1 _ rfl
    have f2 : DataW.trod enc Tryd.prog w 0 sp held m 29 (([c0, c1, c2, c3, c4, c5].drop 5).take (Tryd.prog.cellsOf 29)) = some c := hf 2 _ rfl
    rw [ce23] at f0
    rw [ce28] at f1
    rw [ce29] at f2
    obtain ⟨k0, e0, r0, w0⟩ := DataW.trod_int (k := .i8) Tryd.underlying23 (show DataW.trod enc Tryd.prog w 0 sp held m 23 [c0] = some a from f0)
    obtain ⟨t, et, ht⟩ := o_T (show DataW.trod enc Tryd.prog w 0 sp held m 28 [c1, c2, c3, c4] = some b from f1) (fun k hk => hs k (by simp [DataW.weights, Tryd.underlying31, DataW.weightsEach, hk]))
    cases e0
    subst r0
    simp only [List.cons.injEq, and_true] at et
    obtain ⟨rfl, rfl, rfl, rfl⟩ := et
    have hsc : ∀ k ∈ c.1.weights Tryd.prog 29, k ≤ reachBytes := fun k hk => hs k (by simp [DataW.weights, Tryd.underlying31, DataW.weightsEach, hk])
    rcases DataW.trod_slice Tryd.underlying29 (show DataW.trod enc Tryd.prog w 0 sp held m 29 [c5] = some c from f2) with ⟨ec, rfl⟩ | ⟨ad, len, cap, elems, rest, n', rfl, ec, rfl, hb, hlc, hmx, hlen, hel, hrest⟩
    · cases ec
      exact ⟨.mk k0 t [], none, 0, rfl, ⟨i8_wf w0, ht, Nat.le_refl _, by show 0 * 80 ≤ 140737488351232; decide⟩, Row.nil⟩
    · cases ec
      have hbytes : len * 80 ≤ 140737488351232 := by
        have := hsc ((elems.length + rest.length) * 80) (by simp [DataW.weights, Tryd.underlying29, by31])
        have h2 := small _ this
        rw [hlen] at h2
        omega
      have each : ∀ i, i < len → ∃ (y : Ex) (l : List Value), RE w y l ∧ (i = 0 → ad.spot = none) ∧ ∀ (j : Nat) (u : Value), l[j]? = some u → w.cell? ⟨ad.block, ad.off + i * 6 + j, none⟩ = some u := by
        intro i hi
        have h1 := hel i hi
        rw [ce31] at h1
        have hi2 : i < elems.length := by omega
        rw [List.getElem?_eq_getElem hi2] at h1
        obtain ⟨cs', hcs, htr⟩ := Option.bind_eq_some_iff.1 h1
        obtain ⟨hb', hl', hc'⟩ := World.cells?_some hcs
        obtain ⟨y, A, c, rfl, ho, hr⟩ := ih n' (by omega) cs' _ htr (fun k hk => hsc k (by
          simp only [DataW.weights, Tryd.underlying29, List.mem_cons, List.mem_append]
          exact .inr (.inl (weights_all (List.mem_map_of_mem (List.getElem_mem hi2)) hk))))
        have hsp : (ad.add (i * 6)).spot = none := by
          have := hc' 0 (by omega)
          rw [show (ad.add (i * 6)).add 0 = ad.add (i * 6) from by simp [Addr.add]] at this
          cases hq : (ad.add (i * 6)).spot with
          | none => rfl
          | some q =>
            unfold World.cell? at this
            rw [hq] at this
            split at this <;> simp at this
        have had : ad.add (i * 6) = ⟨ad.block, ad.off + i * 6, none⟩ := by
          unfold Addr.add at hsp ⊢
          split
          · rename_i h0
            rw [if_pos h0] at hsp
            obtain ⟨b1, o1, s1⟩ := ad
            simp only at hsp
            subst hsp
            simp [h0]
          · rfl
        refine ⟨y, _, RE.mk_ ho hr, ?_, fun j u hu => ?_⟩
        · intro h0
          subst h0
          simpa [Addr.add] using hsp
        · have hj : j < 6 := (List.getElem?_eq_some_iff.1 hu).1
          have := hc' j hj
          rw [had, add0] at this
          rw [this]; exact hu
      have hex : ∃ f : Nat → Ex, ∀ i, i < len → ∃ l : List Value, RE w (f i) l ∧ (i = 0 → ad.spot = none) ∧ ∀ (j : Nat) (u : Value), l[j]? = some u → w.cell? ⟨ad.block, ad.off + i * 6 + j, none⟩ = some u := by
        refine ⟨fun i => if hi : i < len then Classical.choose (each i hi) else Ex.none, fun i hi => ?_⟩
        simp only [dif_pos hi]
        exact Classical.choose_spec (each i hi)
      obtain ⟨f, hf⟩ := hex
      have hkl : ((List.range len).map f).length = len := by simp
      refine ⟨.mk k0 t ((List.range len).map f), some ad, cap, ?_, ⟨i8_wf w0, ht, ?_, ?_⟩, ?_⟩
      · show _ = [_, _, _, _, _, Value.slice (some ad) ((List.range len).map f).length cap]
        rw [hkl]; rfl
      · show ((List.range len).map f).length ≤ cap
        rw [hkl]; exact hlc
      · show ((List.range len).map f).length * 80 ≤ _
        rw [hkl]; exact hbytes
      · show Row RE 6 w (some ad) ((List.range len).map f)
        by_cases h0 : len = 0
        · subst h0; exact .inl rfl
        · obtain ⟨_, _, h2, _⟩ := hf 0 (by omega)
          have hsp := h2 rfl
          obtain ⟨b1, o1, s1⟩ := ad
          simp only at hsp
          subst hsp
          refine .inr ⟨b1, o1, rfl, fun j y hy => ?_⟩
          have hj : j < len := by
            have := (List.getElem?_eq_some_iff.1 hy).1
            rwa [hkl] at this
          obtain ⟨l, a1, _, a3⟩ := hf j hj
          have : y = f j := by simpa [hj] using hy.symm
          subst this
          exact ⟨l, a1, a3⟩
end
end Go.Proofs.Dw
