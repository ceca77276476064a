/- YtjjkfbjidpolmaaDoorWkL: part of the proof of this seat, by an AI agent: the first examples of the document. No condition of its own but those that its theorems state. -/
import Derived.Test.YtjjkfbjidpolmaaDoorWkR
set_option linter.unusedVariables false
set_option linter.unusedSimpArgs false
namespace Go.Wk
open Go Go.RowKit Go.Lib
/-! ### the document's first examples -/
def tmX : Tm := ⟨⟨#[88]⟩, ⟨0, 0, ⟨#[]⟩⟩⟩
def tm5 : Tm := ⟨⟨#[]⟩, ⟨1, 5, ⟨#[]⟩⟩⟩
def exLive : Ex := .mk 3 Tm.none [.mk 0 tmX [], .mk 1 Tm.none [.mk 0 tm5 []]]
def atLive : At := ⟨⟨#[112]⟩, [⟨⟨#[95]⟩, ⟨0, 0, ⟨#[]⟩⟩⟩, ⟨⟨#[]⟩, ⟨2, 0, ⟨#[97]⟩⟩⟩]⟩
theorem itoa5 : itoaB 5 = ⟨#[53]⟩ := by
  unfold itoaB itoa
  rw [if_neg (by decide), decDigits, dif_pos (by decide)]
  rfl
theorem live_exB : exB 8 exLive = true := by decide
theorem live_exW : exW 8 exLive = ⟨#[88, 32, 45, 32, 45, 40, 53, 41]⟩ := by
  have h5 : termW tm5 = ⟨#[53]⟩ := by
    unfold termW
    rw [if_pos (by decide), if_pos (by decide)]
    unfold showB
    rw [if_pos (by decide)]
    exact itoa5
  have hX : termW tmX = ⟨#[88]⟩ := rfl
  have e5 : exW 6 (.mk 0 tm5 []) = ⟨#[53]⟩ := by rw [exW_pos (by decide), if_pos (by decide)]; exact h5
  have eX : exW 7 (.mk 0 tmX []) = ⟨#[88]⟩ := by rw [exW_pos (by decide), if_pos (by decide)]; exact hX
  have en : exW 7 (.mk 1 Tm.none [.mk 0 tm5 []]) = ⟨#[45, 40, 53, 41]⟩ := by
    rw [exW_pos (by decide), if_neg (by decide), if_neg (by decide), if_pos (by decide)]
    show (⟨#[45]⟩ : ByteArray) ++ inB _ (exW 6 (.mk 0 tm5 [])) = _
    rw [e5]
    rfl
  rw [exW_pos (by decide), if_neg (by decide), if_neg (by decide), if_neg (by decide)]
  show inB _ (exW 7 (.mk 0 tmX [])) ++ _ ++ _ ++ _ ++ inB _ (exW 7 (.mk 1 Tm.none [.mk 0 tm5 []])) = _
  rw [eX, en]
  rfl
theorem live_atB : atB atLive = true := by decide
theorem live_atW : atW atLive = ⟨#[112, 40, 95, 44, 32, 97, 41]⟩ := by rfl
theorem nil_wf : Tm.none.wf := ⟨by decide, ⟨by decide, by decide, by decide⟩⟩
theorem RE_leaf (w : World) {t : Tm} (ht : t.wf) : RE w (.mk 0 t []) [.int .i8 0, .string t.v, .int .i8 t.l.k, .int .i64 t.l.n, .string t.l.s, .slice none 0 0] :=
  RE.mk_ (x := .mk 0 t []) (c := 0) ⟨⟨by show (-128 : Int) ≤ 0; decide, by show (0 : Int) ≤ 127; decide⟩, ht, Nat.le_refl _, by show 0 * 80 ≤ 140737488351232; decide⟩ Row.nil
theorem live_row {w : World} {g g2 t : Nat} (h1 : w.heap[g]? = some (.cells #[.int .i8 0, .string ⟨#[88]⟩, .int .i8 0, .int .i64 0, .string ⟨#[]⟩, .slice none 0 0, .int .i8 1, .string ⟨#[]⟩, .int .i8 0, .int .i64 0, .string ⟨#[]⟩, .slice (some ⟨g2, 0, none⟩) 1 1] t (0, 0)))
    (h2 : w.heap[g2]? = some (.cells #[.int .i8 0, .string ⟨#[]⟩, .int .i8 1, .int .i64 5, .string ⟨#[]⟩, .slice none 0 0] t (0, 0))) : Row RE 6 w (some ⟨g, 0, none⟩) exLive.kids := by
  have hw5 : tm5.wf := ⟨by decide, ⟨by decide, by decide, by decide⟩⟩
  have hwX : tmX.wf := ⟨by decide, ⟨by decide, by decide, by decide⟩⟩
  have r5 : Row RE 6 w (some ⟨g2, 0, none⟩) [.mk 0 tm5 []] := .inr ⟨g2, 0, rfl, fun j x hx => by
    have hj : j = 0 := by have := (List.getElem?_eq_some_iff.1 hx).1; simpa using this
    subst hj
    have : x = .mk 0 tm5 [] := by simpa using hx.symm
    subst this
    exact ⟨_, RE_leaf w hw5, blk_cells h2 0 (cs := [.int .i8 0, .string ⟨#[]⟩, .int .i8 1, .int .i64 5, .string ⟨#[]⟩, .slice none 0 0]) rfl⟩⟩
  refine .inr ⟨g, 0, rfl, fun j x hx => ?_⟩
  have hj : j < 2 := by have := (List.getElem?_eq_some_iff.1 hx).1; exact this
  have hj2 : j = 0 ∨ j = 1 := by omega
  rcases hj2 with rfl | rfl
  · have : x = .mk 0 tmX [] := by simpa [exLive, Ex.kids] using hx.symm
    subst this
    exact ⟨_, RE_leaf w hwX, blk_cells h1 0 (cs := [.int .i8 0, .string ⟨#[88]⟩, .int .i8 0, .int .i64 0, .string ⟨#[]⟩, .slice none 0 0]) rfl⟩
  · have : x = .mk 1 Tm.none [.mk 0 tm5 []] := by simpa [exLive, Ex.kids] using hx.symm
    subst this
    exact ⟨_, RE.mk_ (x := .mk 1 Tm.none [.mk 0 tm5 []]) (c := 1) ⟨by decide, nil_wf, by decide, by decide⟩ r5, blk_cells h1 6 (cs := [.int .i8 1, .string ⟨#[]⟩, .int .i8 0, .int .i64 0, .string ⟨#[]⟩, .slice (some ⟨g2, 0, none⟩) 1 1]) rfl⟩
theorem live_args {w : World} {g t : Nat} (h1 : w.heap[g]? = some (.cells #[.string ⟨#[95]⟩, .int .i8 0, .int .i64 0, .string ⟨#[]⟩, .string ⟨#[]⟩, .int .i8 2, .int .i64 0, .string ⟨#[97]⟩] t (0, 0))) : Row RT 4 w (some ⟨g, 0, none⟩) atLive.args := by
  refine .inr ⟨g, 0, rfl, fun j x hx => ?_⟩
  have hj : j < 2 := by have := (List.getElem?_eq_some_iff.1 hx).1; exact this
  have hj2 : j = 0 ∨ j = 1 := by omega
  rcases hj2 with rfl | rfl
  · have : x = ⟨⟨#[95]⟩, ⟨0, 0, ⟨#[]⟩⟩⟩ := by simpa [atLive] using hx.symm
    subst this
    exact ⟨_, ⟨rfl, ⟨by decide, ⟨by decide, by decide, by decide⟩⟩⟩, blk_cells h1 0 (cs := [.string ⟨#[95]⟩, .int .i8 0, .int .i64 0, .string ⟨#[]⟩]) rfl⟩
  · have : x = ⟨⟨#[]⟩, ⟨2, 0, ⟨#[97]⟩⟩⟩ := by simpa [atLive] using hx.symm
    subst this
    exact ⟨_, ⟨rfl, ⟨by decide, ⟨by decide, by decide, by decide⟩⟩⟩, blk_cells h1 4 (cs := [.string ⟨#[]⟩, .int .i8 2, .int .i64 0, .string ⟨#[97]⟩]) rfl⟩
theorem cmpS_self (a : ByteArray) : cmpS .eql a a = some true := by simp [cmpS]
end Go.Wk
