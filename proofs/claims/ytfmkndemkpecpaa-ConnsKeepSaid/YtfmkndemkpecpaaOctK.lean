/- A reader's calls, by the place k in the bytes L; the values are letters. -/
import Derived.Test.YtfmkndemkpecpaaRef01
namespace Go.Proofs.Ytfmkndemkpecpaa
open Go.RowKit
set_option linter.unusedVariables false

theorem readK (A : Option Addr) (n c : Nat) (L : List UInt8) (w : World) (h : Rb w A n c L) (hm : n ≤ 549755813888) : Calls Try.prog 51 #[.slice A n c] w fun e w' => ∃ r bs d, e = .returned (.pointer (some ⟨r, 0, none⟩)) ∧ w' = plus w bs d ∧ w.heap.size ≤ r ∧ Rdr (plus w bs d) r (L.drop 0) false :=
  (read_any A n c L w h hm).mono fun _ _ ⟨r, bs, d, h1, h2, h3, h4⟩ => ⟨r, bs, d, h1, h2, h3, by rw [List.drop_zero]; exact h4⟩
theorem byteK (W : World) (bs : List Obj) (d r : Nat) (L : List UInt8) (k x : Nat) (h : Rdr (plus W bs d) r (L.drop k) false) (hr : W.heap.size ≤ r) (hm : L.length ≤ 1099511627776) (hn : k + 1 ≤ L.length) (hx : num ((L.drop k).take 1) = x) : Calls Try.prog 166 #[.pointer (some ⟨r, 0, none⟩)] (plus W bs d) (RetP W bs d r (L.drop (k + 1)) false (.int .u8 (x : Nat))) := by
  subst hx
  have := byteP W bs d r (L.drop k) false h hr (by rw [List.length_drop]; omega) (by rw [List.length_drop]; omega)
  rwa [List.drop_drop] at this
theorem wordK (W : World) (bs : List Obj) (d r : Nat) (L : List UInt8) (k x : Nat) (h : Rdr (plus W bs d) r (L.drop k) false) (hr : W.heap.size ≤ r) (hm : L.length ≤ 1099511627776) (hn : k + 2 ≤ L.length) (hx : num ((L.drop k).take 2) = x) : Calls Try.prog 52 #[.pointer (some ⟨r, 0, none⟩)] (plus W bs d) (RetP W bs d r (L.drop (k + 2)) false (.int .u16 (x : Nat))) := by
  subst hx
  have := wordP W bs d r (L.drop k) false h hr (by rw [List.length_drop]; omega) (by rw [List.length_drop]; omega)
  rwa [List.drop_drop] at this
theorem longK (W : World) (bs : List Obj) (d r : Nat) (L : List UInt8) (k x : Nat) (h : Rdr (plus W bs d) r (L.drop k) false) (hr : W.heap.size ≤ r) (hm : L.length ≤ 1099511627776) (hn : k + 4 ≤ L.length) (hx : num ((L.drop k).take 4) = x) : Calls Try.prog 81 #[.pointer (some ⟨r, 0, none⟩)] (plus W bs d) (RetP W bs d r (L.drop (k + 4)) false (.int .u32 (x : Nat))) := by
  subst hx
  have := longP W bs d r (L.drop k) false h hr (by rw [List.length_drop]; omega) (by rw [List.length_drop]; omega)
  rwa [List.drop_drop] at this
theorem numK (W : World) (bs : List Obj) (d r : Nat) (L : List UInt8) (k x : Nat) (h : Rdr (plus W bs d) r (L.drop k) false) (hr : W.heap.size ≤ r) (hm : L.length ≤ 1099511627776) (n : Nat) (h8 : n ≤ 8) (hn : k + n ≤ L.length) (hx : num ((L.drop k).take n) = x) : Calls Try.prog 112 #[.pointer (some ⟨r, 0, none⟩), .int .i64 n] (plus W bs d) (RetP W bs d r (L.drop (k + n)) false (.int .u64 (x : Nat))) := by
  subst hx
  have := numP W bs d r (L.drop k) false n h hr (by rw [List.length_drop]; omega) (by rw [List.length_drop]; omega) h8
  rwa [List.drop_drop] at this
/-- a reader in any world: what it leaves -/
def RetG (w : World) (r : Nat) (l : List UInt8) (v : Value) (e : Ending) (w' : World) : Prop := e = .returned v ∧ Rdr w' r l false ∧ w.grownBy w' (some r)
theorem Rdr.far {w : World} {r : Nat} {l : List UInt8} {bad : Bool} (h : Rdr w r l bad) {p : Addr} (hp : r < p.block) (u : Value) : Rdr (w.setCell p u) r l bad := by
  obtain ⟨A, n, c, h1, h2, h3, h4⟩ := h
  exact ⟨A, n, c, h1.far (by omega) u, h2, h3, h4.setCell (by omega) u⟩
theorem byteG (w : World) (r : Nat) (L : List UInt8) (k x : Nat) (h : Rdr w r (L.drop k) false) (hm : L.length ≤ 1099511627776) (hn : k + 1 ≤ L.length) (hx : num ((L.drop k).take 1) = x) : Calls Try.prog 166 #[.pointer (some ⟨r, 0, none⟩)] w (RetG w r (L.drop (k + 1)) (.int .u8 (x : Nat))) := by
  subst hx
  have := byte_any r (L.drop k) false w h (by rw [List.length_drop]; omega) (by rw [List.length_drop]; omega)
  rwa [List.drop_drop] at this
theorem wordG (w : World) (r : Nat) (L : List UInt8) (k x : Nat) (h : Rdr w r (L.drop k) false) (hm : L.length ≤ 1099511627776) (hn : k + 2 ≤ L.length) (hx : num ((L.drop k).take 2) = x) : Calls Try.prog 52 #[.pointer (some ⟨r, 0, none⟩)] w (RetG w r (L.drop (k + 2)) (.int .u16 (x : Nat))) := by
  subst hx
  have := word_any r (L.drop k) false w h (by rw [List.length_drop]; omega) (by rw [List.length_drop]; omega)
  rwa [List.drop_drop] at this
theorem longG (w : World) (r : Nat) (L : List UInt8) (k x : Nat) (h : Rdr w r (L.drop k) false) (hm : L.length ≤ 1099511627776) (hn : k + 4 ≤ L.length) (hx : num ((L.drop k).take 4) = x) : Calls Try.prog 81 #[.pointer (some ⟨r, 0, none⟩)] w (RetG w r (L.drop (k + 4)) (.int .u32 (x : Nat))) := by
  subst hx
  have := long_any r (L.drop k) false w h (by rw [List.length_drop]; omega) (by rw [List.length_drop]; omega)
  rwa [List.drop_drop] at this
theorem numG (w : World) (r : Nat) (L : List UInt8) (k x n : Nat) (h8 : n ≤ 8) (h : Rdr w r (L.drop k) false) (hm : L.length ≤ 1099511627776) (hn : k + n ≤ L.length) (hx : num ((L.drop k).take n) = x) : Calls Try.prog 112 #[.pointer (some ⟨r, 0, none⟩), .int .i64 n] w (RetG w r (L.drop (k + n)) (.int .u64 (x : Nat))) := by
  subst hx
  have := num_any r (L.drop k) false n w h (by rw [List.length_drop]; omega) (by rw [List.length_drop]; omega) h8
  rwa [List.drop_drop] at this
/-- the number of s bytes at a place of the first m bytes -/
theorem num_in (l : List UInt8) (m k s : Nat) (h : k + s ≤ m) : num (((l.take m).drop k).take s) = num ((l.drop k).take s) := by
  rw [List.drop_take, List.take_take, Nat.min_eq_left (by omega)]
theorem num_lt' (l : List UInt8) (k s B : Nat) (h : 256 ^ s ≤ B) : num ((l.drop k).take s) < B := num_small (l.drop k) s B h
/-- one byte, as its cell -/
theorem num_cell {w : World} {b off : Nat} {l : List UInt8} (hcell : ∀ i u, (bcs l)[i]? = some u → w.cell? ⟨b, off + i, none⟩ = some u) (k : Nat) (hk : k < l.length) : w.cell? ⟨b, off + k, none⟩ = some (.int .u8 (num ((l.drop k).take 1) : Nat)) := by
  rw [hcell k _ (bcs_get _ _ hk)]
  rw [num_take_succ (l.drop k) 0 (by rw [List.length_drop]; omega)]
  simp [num]
theorem u8_and15 (x : Nat) (h : x < 256) : bits .and .u8 (x : Int) 15 = ((x % 16 : Nat) : Int) := by
  have : ∀ y : Fin 256, bits .and .u8 ((y.val : Nat) : Int) 15 = ((y.val % 16 : Nat) : Int) := by decide +kernel
  exact this ⟨x, h⟩
end Go.Proofs.Ytfmkndemkpecpaa
