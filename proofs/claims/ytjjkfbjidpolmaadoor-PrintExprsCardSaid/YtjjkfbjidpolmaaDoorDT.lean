/- YtjjkfbjidpolmaaDoorDT: part of the proof of this seat, by an AI agent: the row. No condition of its own but those that its theorems state. -/
import Derived.Test.YtjjkfbjidpolmaaDoorDS
import Derived.Test.YtjjkfbjidpolmaaDoorRows
import Derived.ChangeSame
import Derived.ChangeVars
import Derived.JoinedOf
import Derived.RowKit
import Derived.RowKit2
import Derived.RowKitTokens
import Derived.LaidLaws
import Derived.LaidHandle
import Derived.Stop.Joined
import Derived.ReadAgain
import Derived.ChangeAlike
import Derived.JoinedAt
import Derived.ProofKit
import Derived.OpenShut
import Derived.LaidMore
import Derived.Lay
import Derived.LaidSub
set_option linter.unusedVariables false
set_option maxRecDepth 100000
namespace Go.Proofs.YtjjkfbjidpolmaaDoor
open Go Go.Proofs Go.ChangeShapes Go.WideShapes Go.RowKit Go.Wk Go.Deep
theorem own_ : ownKnob Tryd.prog.godebug = none := by kernel_rfl
theorem kids_ : Kids Tryd.prog (· < Tryd.prog.types.size) := kids_rows (by kernel_rfl) (by kernel_rfl)
theorem full_ : ∀ t e, t < Tryd.prog.types.size → Tryd.prog.underlying t = some (.slice e) → 0 < Tryd.prog.cellsOf e := slices_full_of Tryd.prog (by kernel_rfl)
def litV : DataW Unit → Option Value
  | .lit (.int k n) => some (.int k n)
  | .lit (.string l) => some (.string ⟨l.toArray⟩)
  | _ => none
theorem litV_of {P : Program} {W : World} {sp : Nat → Bool} {held : Bool} {enc : TypeId × Value → Unit} {m : Nat} {e : TypeId} {c : Value} {x : DataW Unit × List MemPlace} (he : (∃ k, P.underlying e = some (.int k)) ∨ P.underlying e = some .string) (h : DataW.trod enc P W 0 sp held m e [c] = some x) : litV x.1 = some c := by
  rcases he with ⟨k, he⟩ | he
  · obtain ⟨n, h1, h2, _⟩ := DataW.trod_int he h
    cases h1; subst h2; rfl
  · obtain ⟨s, h1, h2, _⟩ := DataW.trod_string he h
    cases h1; subst h2
    simp [litV]
theorem var_of {P : Program} {W : World} {nm : String} {d : DataW Unit} {ds : List (DataW Unit)} {g t e n : Nat} {cs : List Value} {l : List (String × DataW Unit)} (h : laidMet P l W) (keep : String × DataW Unit → Bool) (hk : l.filter keep = [(nm, d)]) (hg : P.globalNamed nm = some g) (hty : (P.globals[g]?).map (·.type) = some t) (ht : P.underlying t = some (.array n e))
    (he : (∃ k, P.underlying e = some (.int k)) ∨ P.underlying e = some .string) (hce : P.cellsOf e = 1) (hct : P.cellsOf t = n) (hd : d = .agg ds) (hc : ds.map litV = cs.map some) : W.var? P nm = some cs.toArray := by
  have h1 := h.filter keep
  rw [hk] at h1
  obtain ⟨ps, ⟨g', t', cs', fuel, p, q, hg', ht', hv, hd', _, _⟩, _⟩ := h1
  obtain rfl := Option.some.inj (hg.symm.trans hg')
  obtain rfl := Option.some.inj (hty.symm.trans ht')
  obtain ⟨xs, m, _, ex, hl0, hl, hel⟩ := DataW.trod_array ht hd'
  rw [hd] at ex
  have e3 : ds = xs.map (·.1) := DataW.agg.inj (Prod.mk.inj ex).1
  rw [hv]
  congr 1
  apply Array.ext'
  rw [List.toList_toArray]
  have hlen : cs'.toList.length = n := by rw [← hct]; exact hl0
  have key : cs'.toList.map some = cs.map some := by
    rw [← hc, e3, List.map_map]
    apply List.ext_getElem
    · simp [hlen, hl]
    · intro i h2 h3
      have hi : i < n := by simpa [hlen] using h2
      have hE := hel i hi
      rw [hce, Nat.mul_one, List.getElem?_eq_getElem (by omega)] at hE
      have hx : (cs'.toList.drop i).take 1 = [cs'.toList[i]'(by omega)] := by
        rw [List.drop_eq_getElem_cons (by omega), List.take_succ_cons, List.take_zero]
      rw [hx] at hE
      have := litV_of he hE
      simp only [List.getElem_map, Function.comp]
      rw [this]
  have h7 := congrArg (List.filterMap id) key
  simpa [List.filterMap_map] using h7
theorem tabs_of {W : World} (h : laidMetH Tryd.prog Rows.printExprsRow.laid W) : Tabs Tryd.prog W := by
  rw [MakeChecks.laidMetH_plain _ _ _ (by kernel_rfl)] at h
  refine ⟨?_, ?_, ?_, ?_⟩
  · exact var_of h (fun x => x.1 == "pedigree/print.hold") (d := Rows.laid_pedigree_print_hold) (by kernel_rfl) (g := 0) (t := 104) (by kernel_rfl) (by kernel_rfl) Tryd.underlying104 (.inl ⟨_, Tryd.underlying3⟩) (by kernel_rfl) (by kernel_rfl) rfl (cs := [.int .i64 4, .int .i64 3, .int .i64 1, .int .i64 1, .int .i64 2, .int .i64 2, .int .i64 2, .int .i64 1, .int .i64 4, .int .i64 4, .int .i64 4]) rfl
  · exact var_of h (fun x => x.1 == "pedigree/print.words") (d := Rows.laid_pedigree_print_words) (by kernel_rfl) (g := 1) (t := 105) (by kernel_rfl) (by kernel_rfl) Tryd.underlying105 (.inr Tryd.underlying9) (by kernel_rfl) (by kernel_rfl) rfl (cs := [.string ⟨#[]⟩, .string ⟨#[]⟩, .string ⟨#[]⟩, .string ⟨#[]⟩, .string ⟨#[]⟩, .string ⟨#[]⟩, .string ⟨#[]⟩, .string ⟨#[]⟩, .string ⟨#[108, 101, 110]⟩, .string ⟨#[99, 104, 97, 114, 115]⟩, .string ⟨#[98, 97, 99, 107]⟩]) rfl
  · exact var_of h (fun x => x.1 == "pedigree/print.signs") (d := Rows.laid_pedigree_print_signs) (by kernel_rfl) (g := 2) (t := 106) (by kernel_rfl) (by kernel_rfl) Tryd.underlying106 (.inr Tryd.underlying9) (by kernel_rfl) (by kernel_rfl) rfl (cs := [.string ⟨#[]⟩, .string ⟨#[]⟩, .string ⟨#[43]⟩, .string ⟨#[45]⟩, .string ⟨#[42]⟩, .string ⟨#[47]⟩, .string ⟨#[37]⟩, .string ⟨#[38]⟩]) rfl
  · exact var_of h (fun x => x.1 == "internal/strconv.uint64pow10") (d := Rows.laid_internal_strconv_uint64pow10) (by kernel_rfl) (g := 6) (t := 177) (by kernel_rfl) (by kernel_rfl) Tryd.underlying177 (.inl ⟨_, Tryd.underlying165⟩) (by kernel_rfl) (by kernel_rfl) rfl (cs := Go.Lib.pow10Tab.map fun z => .int .u64 z) rfl
theorem lifted (os : Os) (started : os.Started) (H : Type) (enc : TypeId × Value → H) :
    ReturnsInHanded {} Tryd.checked os 3 .any (fun w args => (Rows.printExprsSpec.pre enc Tryd.prog Tryd.f3 [] false w args ∧ laidMetH Tryd.prog Rows.printExprsRow.laid w) ∧ sizedMet enc Tryd.prog Tryd.f3 (OpenSpec.ofChange Rows.printExprsSpec) false w args)
      (Rows.printExprsSpec.post enc Tryd.prog Tryd.f3 false true false false) := by
  refine returnsInHanded_of_change_and (C := Tryd.checked) (X := fun w _ => laidMetH Tryd.prog Rows.printExprsRow.laid w) (fun _ _ _ hh h => h.of_heap hh) own_ started (by kernel_rfl) Tryd.func3
    (ChangeSpec.witness_shaped (enc := enc) (C := Tryd.checked) (os := os) (X := fun w _ => laidMetH Tryd.prog Rows.printExprsRow.laid w) false (World.laidAll Tryd.prog os Rows.printExprsRow.laid) #[.agg #[.int .i8 0, .string ⟨#[]⟩, .int .i8 0, .int .i64 0, .string ⟨#[]⟩, .slice none 0 0]] 8 (World.laidAll_os _ _ _)
      (World.shaped_of_ZipB (by kernel_rfl) (by kernel_rfl)) (by kernel_rfl) (by kernel_rfl) (by kernel_rfl)
      (by rw [MakeChecks.laidMetH_plain _ _ _ (by kernel_rfl)]; exact laidMet_laidAll _ (by kernel_rfl) (by kernel_rfl))) ?_
  intro W base args ds gs before hval0 hW hc hS hL _
  have hval : ∀ (j : Nat) t v, Tryd.f3.params[j]? = some t → args[j]? = some v → Value.okWide Tryd.prog W .any base t v := hval0
  have hW' := hW
  have hlt := DataW.Whole.lt hW
  obtain ⟨p, q, hA0, hV, rfl, _, _⟩ := hW
  have hA : DataW.TrodAll enc Tryd.prog W 0 (fun _ => true) true Tryd.f3.params.toList args.toList ds p := hA0
  have hAk := hA
  rw [Tryd.params3] at hA hval
  obtain ⟨v0, d0, rfl, rfl, h0⟩ := trodAll_one hA
  obtain ⟨rfl, rfl⟩ := trodVars_none hV
  obtain ⟨cs, rfl, hcs⟩ := okWide_struct Tryd.underlying31 (hval 0 31 v0 rfl rfl)
  obtain ⟨fuel, hf⟩ := h0
  have hf1 : DataW.trod enc Tryd.prog W 0 (fun _ => true) true fuel 31 cs.toList = some (d0, p) := hf
  have hS' : ((DataW.weightsEach Tryd.prog (Tryd.f3.params.toList ++ DataSpec.varTypes Tryd.prog Rows.printExprsSpec.plain) ([d0] ++ [])).all fun x => decide (x ≤ reachBytes)) = true := hS
  rw [Tryd.params3] at hS'
  obtain ⟨e, A, c, hcs2, ho, hr⟩ := Go.Proofs.Dw.o_E fuel _ _ hf1 (fun k hk => by
    have := List.all_eq_true.1 hS' k (DataW.weights_mem_each (j := 0) (t := 31) (d := d0) rfl rfl k hk)
    simpa using this)
  have hcs3 : cs = #[.int .i8 e.op, .string e.t.v, .int .i8 e.t.l.k, .int .i64 e.t.l.n, .string e.t.l.s, .slice A e.kids.length c] := Array.ext' hcs2
  have h2 := DataW.TrodAll.respare (spare' := fun b => decide (b < W.heap.size)) kids_ full_ (by rw [Tryd.params3]; decide) hAk (fun x hx => by simpa using hlt x (by simpa using hx))
  subst hcs3
  refine Calls.mono (Go.Proofs.Dw.l_PrintExprs e A c W ho hr (tabs_of hL)) ?_
  rintro en W' ⟨v, rfl, rfl, x⟩
  have hbl := Ext.below x
  refine ⟨_, rfl, _, _, _, [], p, [], hW', ?_, ?_, rfl, hbl.frame _, fun h => by cases h⟩
  · exact trodAll_mk1 (shut_bool Tryd.underlying4 true)
  · rw [Tryd.params3] at h2 ⊢
    obtain ⟨v1, d1, hv1, hd1, fuel2, hf2⟩ := trodAll_one h2
    simp only [List.cons.injEq, and_true] at hd1
    subst hd1
    refine trodAll_mk1 ⟨fuel2, ?_⟩
    have hv2 : v1 = .agg #[.int .i8 e.op, .string e.t.v, .int .i8 e.t.l.k, .int .i64 e.t.l.n, .string e.t.l.s, .slice A e.kids.length c] := by simpa using hv1.symm
    subst hv2
    exact DataW.trod_carry fuel2 _ _ _ hf2 (fun q hq => hbl.same (hlt q (by simpa using hq)))
theorem f_holds : Rows.PrintExprsSaid :=
  OpenClaim.holds_of_wide 3 Tryd.f3 rfl rfl rfl rfl rfl rfl rfl ⟨rfl, rfl, rfl, rfl, rfl⟩ rfl rfl rfl rfl rfl (by kernel_rfl) Tryd.func3 (by kernel_rfl)
    (of_decide_eq_true (by kernel_rfl)) (by unfold Func.isWrapper; rw [if_neg (of_decide_eq_false (by kernel_rfl))]; exact ⟨rfl, rfl⟩)
    (fun os started H enc _ => lifted os started H enc)
end Go.Proofs.YtjjkfbjidpolmaaDoor
