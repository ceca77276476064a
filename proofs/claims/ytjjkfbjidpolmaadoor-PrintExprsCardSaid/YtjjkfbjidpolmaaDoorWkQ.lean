/- YtjjkfbjidpolmaaDoorWkQ: part of the proof of this seat, by an AI agent: numerals and quoting. No condition of its own but those that its theorems state. -/
import Derived.Test.YtjjkfbjidpolmaaDoorWkE
set_option linter.unusedVariables false
set_option linter.unusedSimpArgs false
namespace Go.Wk
open Go Go.RowKit Go.Lib
/-! ### bytes and numerals -/
theorem quo_u64 (m k : Nat) {K : Int} (hK : K = ((k : Nat) : Int)) (hk : 0 < k) (h : m ≤ 18446744073709551615) : IntKind.u64.wrap (((m : Nat) : Int).tdiv K) = ((m / k : Nat) : Int) := by
  subst hK
  have e : ((m : Nat) : Int).tdiv ((k : Nat) : Int) = ((m / k : Nat) : Int) := rfl
  have : m / k ≤ m := Nat.div_le_self m k
  rw [e]; generalize m / k = q at *; exact conv_u64 (by omega)
theorem quo_u8 (m k : Nat) {K : Int} (hK : K = ((k : Nat) : Int)) (hk : 0 < k) (h : m ≤ 255) : IntKind.u8.wrap (((m : Nat) : Int).tdiv K) = ((m / k : Nat) : Int) := by
  subst hK
  have e : ((m : Nat) : Int).tdiv ((k : Nat) : Int) = ((m / k : Nat) : Int) := rfl
  have : m / k ≤ m := Nat.div_le_self m k
  rw [e]; generalize m / k = q at *; exact conv_u8 (by omega)
theorem rem_nat (m k : Nat) {K : Int} (hK : K = ((k : Nat) : Int)) : ((m : Nat) : Int).tmod K = ((m % k : Nat) : Int) := by subst hK; rfl
theorem ar_add {kk : IntKind} {a b r : Int} (h : kk.wrap r = r) (hr : a + b = r) : arI .add kk a b = some r := by simp only [arI]; rw [hr, h]
theorem ar_sub {kk : IntKind} {a b r : Int} (h : kk.wrap r = r) (hr : a - b = r) : arI .sub kk a b = some r := by simp only [arI]; rw [hr, h]
theorem u8_ofNat {k : Nat} (h : k < 256) : ((UInt8.ofNat k).toNat : Int) = (k : Int) := by
  have : (UInt8.ofNat k).toNat = k := by simp; omega
  rw [this]
theorem bc0 : byteCells [] = [] := rfl
section
variable {a1 a2 a3 a4 : UInt8} {k1 k2 k3 k4 : Int}
theorem bc1 (h1 : (a1.toNat : Int) = k1) : byteCells [a1] = [.int .u8 k1] := by simp [byteCells, h1]
theorem bc2 (h1 : (a1.toNat : Int) = k1) (h2 : (a2.toNat : Int) = k2) : byteCells [a1, a2] = [.int .u8 k1, .int .u8 k2] := by simp [byteCells, h1, h2]
theorem bc3 (h1 : (a1.toNat : Int) = k1) (h2 : (a2.toNat : Int) = k2) (h3 : (a3.toNat : Int) = k3) : byteCells [a1, a2, a3] = [.int .u8 k1, .int .u8 k2, .int .u8 k3] := by simp [byteCells, h1, h2, h3]
theorem bc4 (h1 : (a1.toNat : Int) = k1) (h2 : (a2.toNat : Int) = k2) (h3 : (a3.toNat : Int) = k3) (h4 : (a4.toNat : Int) = k4) : byteCells [a1, a2, a3, a4] = [.int .u8 k1, .int .u8 k2, .int .u8 k3, .int .u8 k4] := by simp [byteCells, h1, h2, h3, h4]
end
theorem bstr_blk {w : World} {g : Nat} {cs : Array Value} {t : TypeId} {fz : Nat × Nat} {l : List UInt8} (hb : w.heap[g]? = some (.cells cs t fz)) (h : byteCells l = cs.toList) : (l = [] ∨ ∃ b o, (some ⟨g, 0, none⟩ : Option Addr) = some ⟨b, o, none⟩ ∧ ∀ (i : Nat) u, (byteCells l)[i]? = some u → w.cell? ⟨b, o + i, none⟩ = some u) ∧ (l = [] → (some ⟨g, 0, none⟩ : Option Addr) = none ∨ ∃ b o, (some ⟨g, 0, none⟩ : Option Addr) = some ⟨b, o, none⟩) :=
  ⟨.inr ⟨g, 0, rfl, fun i u hu => by rw [Nat.zero_add]; exact cell_of_blk hb (by rw [h] at hu; simpa using hu)⟩, fun _ => .inr ⟨g, 0, rfl⟩⟩
theorem own_bytes {w : World} {base e m : Nat} {v : Value} {k : Nat} {cs cs2 : List Value} (h : w.ownsRow base e m v k cs) (hc : cs = cs2) : w.ownsRow base e m v k cs2 := hc ▸ h
theorem own_len {w : World} {base e m : Nat} {A : Option Addr} {c k k2 : Nat} {cs cs2 : List Value} (h : w.ownsRow base e m (.slice A k c) k cs) (hk : k = k2) (hc : cs = cs2) : w.ownsRow base e m (.slice A k2 c) k2 cs2 := by subst hk hc; exact h
theorem own_cat {w : World} {base e m : Nat} {v : Value} {k : Nat} {cs : List Value} {a b : List UInt8} (h : w.ownsRow base e m v k (byteCells a ++ cs)) (hb : byteCells b = cs) : w.ownsRow base e m v k (byteCells (a ++ b)) := by rw [byteCells_append, hb]; exact h
theorem cat_bytes (a b : List UInt8) : (⟨a.toArray⟩ : ByteArray) ++ ⟨b.toArray⟩ = ⟨(a ++ b).toArray⟩ := by
  apply Go.WideShapes.bytes_inj
  simp
theorem decDigits_len : ∀ (k u : Nat), u < 10 ^ (k + 1) → (decDigits u).length ≤ k + 1
  | 0, u, h => by rw [decDigits, dif_pos (by simpa using h)]; simp
  | k + 1, u, h => by
    rw [decDigits]
    split
    · simp
    · have : u / 10 < 10 ^ (k + 1) := by rw [Nat.div_lt_iff_lt_mul (by omega)]; rw [Nat.pow_succ] at h; exact h
      have := decDigits_len k _ this
      simp; omega
theorem decDigits_20 {u : Nat} (h : u ≤ 18446744073709551615) : (decDigits u).length ≤ 20 := decDigits_len 19 u (by omega)
theorem dig_step {u m : Nat} {acc : List UInt8} (h : decDigits u = decDigits m ++ acc) (hm : 10 ≤ m) : decDigits u = decDigits (m / 10) ++ ([UInt8.ofNat (48 + m % 10)] ++ acc) := by
  rw [h, decDigits, dif_neg (by omega)]; simp
theorem dig_end {u m : Nat} {acc : List UInt8} (h : decDigits u = decDigits m ++ acc) (hm : m < 10) : decDigits u = [UInt8.ofNat (48 + m)] ++ acc := by
  rw [h, decDigits, dif_pos hm]
def strL (l : List UInt8) : ByteArray := ⟨l.toArray⟩
def digB (u : Nat) : ByteArray := ⟨(decDigits u).toArray⟩
def itoaB (n : Int) : ByteArray := ⟨(itoa n).toArray⟩
def hexS : ByteArray := ⟨#[48, 49, 50, 51, 52, 53, 54, 55, 56, 57, 97, 98, 99, 100, 101, 102]⟩
def encB (b : UInt8) : List UInt8 := if b.toNat = 10 then [92, 110] else if b.toNat = 34 ∨ b.toNat = 92 then [92, b] else if 32 ≤ b.toNat ∧ b.toNat ≤ 126 then [b] else [92, 120, hexS.data.getD (b.toNat / 16) 0, hexS.data.getD (b.toNat % 16) 0]
def quotL (s : ByteArray) (i : Nat) : List UInt8 := 34 :: (s.data.toList.take i).flatMap encB
def quotB (s : ByteArray) : ByteArray := ⟨(quotL s s.size ++ [34]).toArray⟩
theorem quotL_step (s : ByteArray) (i : Nat) (hi : i < s.size) {l : List UInt8} (h : encB (s.data.getD i 0) = l) : quotL s (i + 1) = quotL s i ++ l := by
  have hi' : i < s.data.toList.length := by simpa using hi
  have e : s.data.toList[i] = s.data.getD i 0 := by
    have : i < s.data.size := hi
    simp only [Array.getD, dif_pos this, Array.getElem_toList]
    rfl
  unfold quotL
  rw [List.take_succ_eq_append_getElem hi', e, List.flatMap_append, List.cons_append]
  simp only [List.flatMap_cons, List.flatMap_nil, List.append_nil, h]
theorem encB_le (b : UInt8) : (encB b).length ≤ 4 := by unfold encB; (repeat' split) <;> simp
theorem quotL_le (s : ByteArray) (i : Nat) : (quotL s i).length ≤ 4 * i + 1 := by
  unfold quotL
  have : ∀ l : List UInt8, (l.flatMap encB).length ≤ 4 * l.length := by
    intro l
    induction l with
    | nil => simp
    | cons b l ih => have := encB_le b; simp only [List.flatMap_cons, List.length_append, List.length_cons]; omega
  have h := this (s.data.toList.take i)
  have h2 : (s.data.toList.take i).length ≤ i := by simp; omega
  rw [List.length_cons]; omega
def showB (x : Vl) : ByteArray := if x.k = 1 then itoaB x.n else if nameB x.s then x.s else quotB x.s
def termW (t : Tm) : ByteArray := if t.v = ⟨#[]⟩ then (if okV t.l then showB t.l else ⟨#[]⟩) else t.v
theorem itoaB_neg {n : Int} (h : n < 0) (h1 : -9223372036854775808 ≤ n) : itoaB n = (⟨#[45]⟩ : ByteArray) ++ digB n.natAbs := by
  unfold itoaB itoa digB
  rw [if_pos h]
  exact (cat_bytes [45] (decDigits n.natAbs)).symm
theorem itoaB_pos {n : Int} (h : ¬ n < 0) : itoaB n = digB n.toNat := by unfold itoaB itoa digB; rw [if_neg h]
theorem digB_size {u : Nat} (h : u ≤ 18446744073709551615) : (digB u).size ≤ 20 := by
  have := decDigits_20 h
  simpa [digB, ByteArray.size] using this
theorem wrap_neg {n : Int} (h : n < 0) (h1 : -9223372036854775808 ≤ n) : IntKind.u64.wrap (0 - IntKind.u64.wrap n) = ((n.natAbs : Nat) : Int) := by
  simp [IntKind.wrap, IntKind.bits, IntKind.signed]; omega
theorem wrap_pos {n : Int} (h : ¬ n < 0) (h1 : n ≤ 9223372036854775807) : IntKind.u64.wrap n = ((n.toNat : Nat) : Int) := by
  simp [IntKind.wrap, IntKind.bits, IntKind.signed]; omega
end Go.Wk
