/- Contracts of bytes.Clone, slices.Clone and of the package octet. -/
import Derived.Test.YtfmkndemkpecpaaRows
import Derived.Test.YtfmkndemkpecpaaBase
import Derived.WalkLawsBesides
import Derived.Outline
namespace Go.Proofs.Ytfmkndemkpecpaa
open Go.RowKit
set_option linter.unusedVariables false
attribute [local go_sem ↓] sliced_cut
attribute [local go_sem] cutA_zero

theorem bt : BT Try.prog 22 5 := ⟨Try.underlying22, Try.underlying5, by kernel_rfl⟩

theorem clone_any (A : Option Addr) (n c : Nat) (l : List UInt8) (w : World) (h : Rb w A n c l) (hm : n ≤ 549755813888) : Calls Try.prog 111 #[.slice A n c] w (RetB w l) := by
  have hnil := fun w => Lib.run_eql_slice_nil (P := Try.prog) w 22 5 A n c 0 0 Try.underlying22
  cases A with
  | none =>
    go_enter Try.func111, Try.ntmps111
    go_wp2
    go_ret
    have : l = [] := by
      rcases h.2.2 with h | ⟨b, off, h, _⟩
      · exact bcs_nil h
      · cases h
    subst this
    exact RetB.mk Ob.nil_ (Below.refl _ _)
  | some ad =>
    go_enter Try.func111, Try.ntmps111
    go_wp2_with (at_builtin; refine wpList_app0 bt rfl (.tmp 5) (.tmp 6) rfl rfl rfl rfl h (by omega) ?_; intro A1 n1 c1 bs1 d1 ho1)
    go_ret
    exact ⟨A1, n1, c1, bs1, d1, rfl, rfl, ho1⟩

set_option maxHeartbeats 400000 in
/-- octet.digits: n written over the m bytes from off on. -/
theorem digits_any (A : Option Addr) (g off m c : Nat) (cs : List Value) (n : Nat) (w : World) (hA : m = 0 ∨ A = some ⟨g, off, none⟩) (hg : Bk w g 5 cs) (hm : off + m ≤ cs.length) (hc : m ≤ 1099511627776) (hn : n < 18446744073709551616) :
    Calls Try.prog 168 #[.slice A m c, .int .u64 n] w fun e w' => e = .returned (.tuple #[]) ∧ Bk w' g 5 (splice cs off (bcs (dig n m))) ∧ w.grownBy w' (some g) := by
  go_enter Try.func168, Try.ntmps168
  go_wp2
  go_loopw [1, 4] (fun x i wr => ∃ j N : Nat, ∃ ks : List Value, j ≤ m ∧ N < 18446744073709551616 ∧ x = .int .u64 N ∧ i = .int .i64 ((j : Int) - 1) ∧ ks.length = cs.length ∧ Bk wr g 5 ks ∧ splice ks off (bcs (dig N j)) = splice cs off (bcs (dig n m)) ∧ w.grownBy wr (some g)) (fun _ i _ => (intOf i + 1).toNat)
  case atStart => exact ⟨m, n, cs, Nat.le_refl _, hn, rfl, rfl, rfl, hg, rfl, World.grownBy.refl _ _⟩
  case round =>
    obtain ⟨j, N, ks, hj, hN, rfl, rfl, hk, hb, ho, hgr⟩ := hrel
    have HO := Lib.hid ho
    have HK := Lib.hid hk
    have hk1 : off + m ≤ ks.length := by omega
    clear ho hk
    by_cases h0 : j = 0
    · subst h0
      go_wp2
      go_end0
      refine ⟨rfl, ?_, hgr⟩
      rw [← HO.out]
      simpa [dig, bcs, over_nil] using hb
    · rcases hA with h | rfl
      · omega
      obtain ⟨k, rfl⟩ : ∃ k, j = k + 1 := ⟨j - 1, by omega⟩
      have hlt : off + k < ks.length := by omega
      have hcell : wr.cell? ⟨g, off + k, none⟩ = some ks[off + k] := by rw [hb.cell, List.getElem?_eq_getElem hlt]
      have hfr := hb.frozen (off + k)
      go_wp2
      refine ⟨⟨k, N / 256, ks.set (off + k) (.int .u8 ((N % 256 : Nat) : Int)), by omega, by omega, by simp, rfl, by rw [List.length_set]; exact HK.out, by simpa using hb.set_ (off + k) _, ?_, hgr.trans (grownBy_setCell _ _ _ _)⟩, by simp [intOf]⟩
      rw [over_dig ks off N k (by omega)]
      exact HO.out

theorem put_cells (l : List UInt8) (n size k : Nat) (h : l.length = k) : splice (splice (List.replicate (k + size) (.int .u8 0)) 0 (bcs l)) k (bcs (dig n size)) = bcs (l ++ dig n size) := by
  subst h
  simp only [splice, bcs_append, bcs_length, dig_length, List.take_zero, List.nil_append, Nat.zero_add]
  rw [List.take_left' (bcs_length l)]
  simp [List.drop_append, bcs_length]

set_option maxHeartbeats 800000 in
set_option maxRecDepth 100000 in
/-- octet.Put: b, followed by the low bytes of n, in new memory. -/
theorem put_any (A : Option Addr) (k c : Nat) (l : List UInt8) (n : Nat) (size : Nat) (w : World) (hr : Rb w A k c l) (hk : k ≤ 549755813888) (hn : n < 18446744073709551616) (hs0 : 1 ≤ size) (hs : size ≤ 8) :
    Calls Try.prog 127 #[.slice A k c, .int .u64 n, .int .i64 size] w (RetB w (l ++ dig n size)) := by
  go_enter Try.func127, Try.ntmps127
  go_wp2_with (first
    | (at_make; refine wpList_mk bt rfl (.tmp 14) rfl _ (k + size) rfl (by omega) (by omega) ?_; intro w1 hb1 hbe1 hs1)
    | (refine wpList_cpy 18 rfl bt rfl (.tmp 16) (.tmp 17) rfl rfl rfl w.heap.size 0 _ hb1 (.inr rfl) l (hr.later hbe1) (by omega) (by simp) w.heap.size w hbe1 (Nat.le_refl _) ?_; intro w2 hb2 hbe2)
    | (go_at_call 168; refine (digits_any _ w.heap.size k size _ (splice (List.replicate (k + size) (.int .u8 0)) 0 (bcs l)) n _ (.inr (by rw [cutA_some _ _ _ _ (by omega)]; simp)) hb2 (by rw [length_splice _ _ _ (by simp [bcs_length, hr.1])]; simp) (by omega) hn).mono ?_; rintro e w3 ⟨rfl, hb3, hg3⟩))
  go_ret
  rw [put_cells l n size k hr.1] at hb3
  exact RetB.mk (Ob.of_bk hb3 (Nat.le_refl _) (by simp [dig_length, hr.1]) (by simp [maxLen]; omega)) (hbe2.trans (below_of_grown hg3 hbe2.size (fun k hk => by injection hk with hk; omega)))

theorem put_int (A : Option Addr) (k c : Nat) (l : List UInt8) (n : Int) (size : Nat) (w : World) (hr : Rb w A k c l) (hk : k ≤ 549755813888) (h0 : 0 ≤ n) (hn : n ≤ 18446744073709551615) (hs0 : 1 ≤ size) (hs : size ≤ 8) :
    Calls Try.prog 127 #[.slice A k c, .int .u64 n, .int .i64 size] w (RetB w (l ++ dig n.toNat size)) := by
  obtain ⟨m, rfl⟩ := Int.eq_ofNat_of_zero_le h0
  exact put_any A k c l m size w hr hk (by omega) hs0 hs

/-- The block r is a Reader of the bytes l. -/
def Rdr (w : World) (r : Nat) (l : List UInt8) (bad : Bool) : Prop := ∃ A n c, Bk w r 221 [.slice A n c, .bool bad] ∧ l.length = n ∧ n ≤ c ∧ Rd w r A (bcs l)
def RetR (w : World) (l : List UInt8) (e : Ending) (w' : World) : Prop := ∃ r bs d, e = .returned (.pointer (some ⟨r, 0, none⟩)) ∧ w' = plus w bs d ∧ w.heap.size ≤ r ∧ Rdr (plus w bs d) r l false
theorem Rdr.lt {w : World} {r : Nat} {l : List UInt8} {bad : Bool} (h : Rdr w r l bad) : r < w.heap.size := by
  obtain ⟨A, n, c, h, _⟩ := h
  exact h.lt
theorem Rdr.later {w w' : World} {r : Nat} {l : List UInt8} {bad : Bool} (h : Rdr w r l bad) (hb : Below w.heap.size w w') : Rdr w' r l bad := by
  have hlt := h.lt
  obtain ⟨A, n, c, h1, h2, h3, h4⟩ := h
  exact ⟨A, n, c, h1.later hb, h2, h3, h4.below ⟨hb.os, hb.tape, hb.output, hb.size, fun k hk => hb.block k (by omega)⟩⟩

theorem read_any (A : Option Addr) (n c : Nat) (l : List UInt8) (w : World) (h : Rb w A n c l) (hm : n ≤ 549755813888) : Calls Try.prog 51 #[.slice A n c] w (RetR w l) := by
  go_enter Try.func51, Try.ntmps51
  go_wp2_with (go_at_call 111; refine (clone_any _ _ _ l _ (by exact h) hm).mono ?_; rintro e w1 ⟨A1, n1, c1, bs1, d1, rfl, rfl, ho1⟩)
  go_ret
  have hrb := ho1.rb
  obtain ⟨bs, d, e⟩ := plus_of (((below_plus w bs1 d1)).alloc (by simp [size_plus]) (.cells #[.slice A1 n1 c1, .bool false] 221))
  refine ⟨(plus w bs1 d1).heap.size, bs, d, by simp [size_plus], e, by simp [size_plus], ?_⟩
  rw [← e]
  exact ⟨A1, n1, c1, Bk.new _ _ _, hrb.1, hrb.2.1, hrb.2.2.alloc (Nat.le_refl _) _⟩

/-- what next gives -/
def RetN (w : World) (r : Nat) (l : List UInt8) (n : Nat) (bad : Bool) (e : Ending) (w' : World) : Prop := ∃ A c, e = .returned (.slice A n c) ∧ n ≤ c ∧ Rd w' r A (bcs (l.take n)) ∧ Rdr w' r (l.drop n) bad ∧ w.grownBy w' (some r)
theorem next_any (r : Nat) (l : List UInt8) (bad : Bool) (n : Nat) (w : World) (h : Rdr w r l bad) (hn : n ≤ l.length) (hm : l.length ≤ 1099511627776) :
    Calls Try.prog 155 #[.pointer (some ⟨r, 0, none⟩), .int .i64 n] w (RetN w r l n bad) := by
  obtain ⟨A, k, c, hb, hk, hkc, hrd⟩ := h
  have hc0 : w.cell? ⟨r, 0, none⟩ = some (.slice A k c) := hb.cell 0
  have hf0 := hb.frozen 0
  have hn' : n ≤ k := by omega
  have hk1 : k ≤ 1099511627776 := by omega
  have HK := Lib.hid hk
  clear hk
  go_enter Try.func155, Try.ntmps155
  go_wp2
  go_ret
  have h1 := hrd.setCell (p := ⟨r, 0, none⟩) (Nat.le_refl _) (Value.slice (cutA A c n 1) (k - n) (c - n))
  refine ⟨A, c, rfl, by omega, by rw [← bcs_take]; exact h1.take n, ⟨_, _, _, hb.set_ 0 _, by rw [List.length_drop, HK.out], by omega, ?_⟩, grownBy_setCell _ _ _ _⟩
  rw [← bcs_drop]
  exact h1.cut (by rw [bcs_length, HK.out]; exact hkc)

/-- what is asked for is not there -/
theorem next_bad (r : Nat) (l : List UInt8) (bad : Bool) (n : Int) (w : World) (h : Rdr w r l bad) (hn : n < 0 ∨ (l.length : Int) < n) (hm : l.length ≤ 1099511627776) (hi : -9223372036854775808 ≤ n ∧ n ≤ 9223372036854775807) :
    Calls Try.prog 155 #[.pointer (some ⟨r, 0, none⟩), .int .i64 n] w fun e w' => e = .returned (.slice none 0 0) ∧ Rdr w' r [] true ∧ w.grownBy w' (some r) := by
  obtain ⟨A, k, c, hb, hk, hkc, hrd⟩ := h
  have hc0 : w.cell? ⟨r, 0, none⟩ = some (.slice A k c) := hb.cell 0
  have hf0 := hb.frozen 0
  have hb1 := hb.set_ 0 (.slice none 0 0)
  have hc1 : (w.setCell ⟨r, 0, none⟩ (.slice none 0 0)).cell? ⟨r, 1, none⟩ = some (.bool bad) := hb1.cell 1
  have hf1 := hb1.frozen 1
  have hn' : n < 0 ∨ (k : Int) < n := by omega
  have hb2 := hb1.set_ 1 (.bool true)
  have hk1 : k ≤ 1099511627776 := by omega
  clear hn hb1
  by_cases hneg : n < 0
  · have hd : decide (n < 0) = true := by simpa using hneg
    go_enter Try.func155, Try.ntmps155
    go_wp2
    go_ret
    exact ⟨rfl, ⟨_, _, _, hb2, rfl, Nat.le_refl _, .inl rfl⟩, (grownBy_setCell _ _ _ _).trans (grownBy_setCell _ _ _ _)⟩
  · have hk2 : (k : Int) < n := by omega
    go_enter Try.func155, Try.ntmps155
    go_wp2
    go_ret
    exact ⟨rfl, ⟨_, _, _, hb2, rfl, Nat.le_refl _, .inl rfl⟩, (grownBy_setCell _ _ _ _).trans (grownBy_setCell _ _ _ _)⟩

/-- (*octet.Reader).Num: the number of the next bytes. -/
theorem num_any (r : Nat) (l : List UInt8) (bad : Bool) (n : Nat) (w : World) (h : Rdr w r l bad) (hn : n ≤ l.length) (hm : l.length ≤ 1099511627776) (h8 : n ≤ 8) :
    Calls Try.prog 112 #[.pointer (some ⟨r, 0, none⟩), .int .i64 n] w fun e w' => e = .returned (.int .u64 (num (l.take n) : Nat)) ∧ Rdr w' r (l.drop n) bad ∧ w.grownBy w' (some r) := by
  go_enter Try.func112, Try.ntmps112
  go_wp2_with (go_at_call 155; refine (next_any r l bad n _ h hn hm).mono ?_; rintro e w1 ⟨A, c, rfl, hc, hrd, hrr, hg⟩)
  have hl : (bcs (l.take n)).length = n := by rw [bcs_length, List.length_take]; omega
  have HL := Lib.hid hl
  clear hl
  go_loop [5, 7, 14] (fun x y i => ∃ j : Nat, j ≤ n ∧ i = .int .i64 j ∧ x = .int .u64 (num (l.take j) : Nat)) (fun _ _ i => n - (intOf i).toNat)
  case atStart => exact ⟨0, Nat.zero_le _, rfl, rfl⟩
  case round =>
    obtain ⟨j, hj, rfl, rfl⟩ := hrel
    by_cases hlt : j < n
    · obtain ⟨b, off, rfl, hb, hcell⟩ := hrd.at_ (by rw [HL.out]; omega)
      have hjl : j < l.length := by omega
      have hcj : w1.cell? ⟨b, off + j, none⟩ = some (.int .u8 (l[j].toNat : Int)) := hcell j _ (by rw [bcs_get _ _ (by rw [List.length_take]; omega)]; simp)
      have HS := Lib.hid (num_take_succ l j hjl)
      have hN : num (l.take j) < 72057594037927936 := Nat.lt_of_lt_of_le (num_lt j _ (List.length_take_le _ _)) (pow_le_seven j (by omega))
      have hx : l[j].toNat < 256 := l[j].toNat_lt
      have hor := u64_shl_or (num (l.take j)) (l[j].toNat) hN hx
      clear hcell
      go_wp2
      go_round
      case rel => exact ⟨j + 1, by omega, by go_num, by rw [HS.out]; simp⟩
      case measure => simp [intOf]; omega
    · obtain rfl : j = n := by omega
      go_wp2
      go_ret
      exact ⟨rfl, hrr, hg⟩

theorem num_small (l : List UInt8) (n k : Nat) (h : 256 ^ n ≤ k) : num (l.take n) < k := Nat.lt_of_lt_of_le (num_lt n _ (List.length_take_le _ _)) h
theorem byte_any (r : Nat) (l : List UInt8) (bad : Bool) (w : World) (h : Rdr w r l bad) (hn : 1 ≤ l.length) (hm : l.length ≤ 1099511627776) :
    Calls Try.prog 166 #[.pointer (some ⟨r, 0, none⟩)] w fun e w' => e = .returned (.int .u8 (num (l.take 1) : Nat)) ∧ Rdr w' r (l.drop 1) bad ∧ w.grownBy w' (some r) := by
  have hs := num_small l 1 256 (by decide)
  go_enter Try.func166, Try.ntmps166
  go_wp2_with (go_at_call 112; refine (num_any r l bad 1 _ h hn hm (by omega)).mono ?_; rintro e w1 ⟨rfl, hrr, hg⟩)
  go_ret
  exact ⟨rfl, hrr, hg⟩
theorem word_any (r : Nat) (l : List UInt8) (bad : Bool) (w : World) (h : Rdr w r l bad) (hn : 2 ≤ l.length) (hm : l.length ≤ 1099511627776) :
    Calls Try.prog 52 #[.pointer (some ⟨r, 0, none⟩)] w fun e w' => e = .returned (.int .u16 (num (l.take 2) : Nat)) ∧ Rdr w' r (l.drop 2) bad ∧ w.grownBy w' (some r) := by
  have hs := num_small l 2 65536 (by decide)
  go_enter Try.func52, Try.ntmps52
  go_wp2_with (go_at_call 112; refine (num_any r l bad 2 _ h hn hm (by omega)).mono ?_; rintro e w1 ⟨rfl, hrr, hg⟩)
  go_ret
  exact ⟨rfl, hrr, hg⟩
theorem long_any (r : Nat) (l : List UInt8) (bad : Bool) (w : World) (h : Rdr w r l bad) (hn : 4 ≤ l.length) (hm : l.length ≤ 1099511627776) :
    Calls Try.prog 81 #[.pointer (some ⟨r, 0, none⟩)] w fun e w' => e = .returned (.int .u32 (num (l.take 4) : Nat)) ∧ Rdr w' r (l.drop 4) bad ∧ w.grownBy w' (some r) := by
  have hs := num_small l 4 4294967296 (by decide)
  go_enter Try.func81, Try.ntmps81
  go_wp2_with (go_at_call 112; refine (num_any r l bad 4 _ h hn hm (by omega)).mono ?_; rintro e w1 ⟨rfl, hrr, hg⟩)
  go_ret
  exact ⟨rfl, hrr, hg⟩

/-- what a reader's call leaves: the reader moved on, nothing else changed -/
def RetP (W : World) (bs : List Obj) (d r : Nat) (l : List UInt8) (bad : Bool) (v : Value) (e : Ending) (w' : World) : Prop :=
  ∃ bs' d', e = .returned v ∧ w' = plus W bs' d' ∧ Rdr (plus W bs' d') r l bad ∧ (plus W bs d).grownBy (plus W bs' d') (some r)
theorem RetP.mk {W : World} {bs : List Obj} {d r : Nat} {l : List UInt8} {bad : Bool} {v : Value} {e : Ending} {w' : World} (hr : W.heap.size ≤ r) (he : e = .returned v) (h1 : Rdr w' r l bad) (h2 : (plus W bs d).grownBy w' (some r)) : RetP W bs d r l bad v e w' := by
  obtain ⟨bs', d', rfl⟩ := grown_plus h2 hr
  exact ⟨bs', d', he, rfl, h1, h2⟩
theorem byteP (W : World) (bs : List Obj) (d r : Nat) (l : List UInt8) (bad : Bool) (h : Rdr (plus W bs d) r l bad) (hr : W.heap.size ≤ r) (hn : 1 ≤ l.length) (hm : l.length ≤ 1099511627776) :
    Calls Try.prog 166 #[.pointer (some ⟨r, 0, none⟩)] (plus W bs d) (RetP W bs d r (l.drop 1) bad (.int .u8 (num (l.take 1) : Nat))) :=
  (byte_any r l bad _ h hn hm).mono fun _ _ ⟨he, h1, h2⟩ => RetP.mk hr he h1 h2
theorem wordP (W : World) (bs : List Obj) (d r : Nat) (l : List UInt8) (bad : Bool) (h : Rdr (plus W bs d) r l bad) (hr : W.heap.size ≤ r) (hn : 2 ≤ l.length) (hm : l.length ≤ 1099511627776) :
    Calls Try.prog 52 #[.pointer (some ⟨r, 0, none⟩)] (plus W bs d) (RetP W bs d r (l.drop 2) bad (.int .u16 (num (l.take 2) : Nat))) :=
  (word_any r l bad _ h hn hm).mono fun _ _ ⟨he, h1, h2⟩ => RetP.mk hr he h1 h2
theorem longP (W : World) (bs : List Obj) (d r : Nat) (l : List UInt8) (bad : Bool) (h : Rdr (plus W bs d) r l bad) (hr : W.heap.size ≤ r) (hn : 4 ≤ l.length) (hm : l.length ≤ 1099511627776) :
    Calls Try.prog 81 #[.pointer (some ⟨r, 0, none⟩)] (plus W bs d) (RetP W bs d r (l.drop 4) bad (.int .u32 (num (l.take 4) : Nat))) :=
  (long_any r l bad _ h hn hm).mono fun _ _ ⟨he, h1, h2⟩ => RetP.mk hr he h1 h2
theorem numP (W : World) (bs : List Obj) (d r : Nat) (l : List UInt8) (bad : Bool) (n : Nat) (h : Rdr (plus W bs d) r l bad) (hr : W.heap.size ≤ r) (hn : n ≤ l.length) (hm : l.length ≤ 1099511627776) (h8 : n ≤ 8) :
    Calls Try.prog 112 #[.pointer (some ⟨r, 0, none⟩), .int .i64 n] (plus W bs d) (RetP W bs d r (l.drop n) bad (.int .u64 (num (l.take n) : Nat))) :=
  (num_any r l bad n _ h hn hm h8).mono fun _ _ ⟨he, h1, h2⟩ => RetP.mk hr he h1 h2
end Go.Proofs.Ytfmkndemkpecpaa
