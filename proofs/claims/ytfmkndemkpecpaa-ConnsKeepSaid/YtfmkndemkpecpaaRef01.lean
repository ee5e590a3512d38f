/- Contracts of the reference's numbers and bytes (counterfoilref01). -/
import Derived.Test.YtfmkndemkpecpaaOctet
import Derived.Deep.RegionHeld3
import Derived.Deep.RegionLaw
namespace Go.Proofs.Ytfmkndemkpecpaa
open Go.RowKit
set_option linter.unusedVariables false
attribute [local go_sem ↓] sliced_cut
attribute [local go_sem] cutA_zero

theorem refNum_any (A : Option Addr) (n c : Nat) (l : List UInt8) (w : World) (h : Rb w A n c l) (h8 : n ≤ 8) :
    Calls Try.prog 113 #[.slice A n c] w fun e w' => e = .returned (.int .u64 (num l : Nat)) ∧ w = w' := by
  have HL := Lib.hid h.1
  have hrd := h.2.2
  go_enter Try.func113, Try.ntmps113
  go_wp2
  go_loop [3, 4] (fun x i => ∃ j : Nat, j ≤ n ∧ i = .int .i64 j ∧ x = .int .u64 (num (l.take j) : Nat)) (fun _ i => n - (intOf i).toNat)
  case atStart => exact ⟨0, Nat.zero_le _, rfl, rfl⟩
  case round =>
    obtain ⟨j, hj, rfl, rfl⟩ := hrel
    by_cases hlt : j < n
    · obtain ⟨b, off, rfl, hb, hcell⟩ := hrd.at_ (by rw [bcs_length, HL.out]; omega)
      have hjl : j < l.length := by rw [HL.out]; omega
      have hcj : w.cell? ⟨b, off + j, none⟩ = some (.int .u8 (l[j].toNat : Int)) := hcell j _ (bcs_get _ _ hjl)
      have HS := Lib.hid (num_take_succ l j hjl)
      have hN : num (l.take j) < 72057594037927936 := Nat.lt_of_lt_of_le (num_lt j _ (List.length_take_le _ _)) (pow_le_seven j (by omega))
      have hx : l[j].toNat < 256 := l[j].toNat_lt
      clear hcell hrd
      go_wp2
      go_round
      case rel => exact ⟨j + 1, by omega, by go_num, by rw [HS.out]; simp⟩
      case measure => simp [intOf]; omega
    · obtain rfl : j = n := by omega
      go_wp2
      go_ret
      rw [List.take_of_length_le (by rw [HL.out]; omega)]
      exact ⟨rfl, rfl⟩

theorem refGet_any (A : Option Addr) (n c : Nat) (l : List UInt8) (k s : Nat) (w : World) (h : Rb w A n c l) (hm : n ≤ 1099511627776) (hk : k + s ≤ n) (h8 : s ≤ 8) :
    Calls Try.prog 54 #[.slice A n c, .int .i64 k, .int .i64 s] w fun e w' => e = .returned (.int .u64 (num ((l.drop k).take s) : Nat)) ∧ w = w' := by
  have hc := h.cap
  have d1 : decide ((k : Int) < 0) = false := by simp
  have d2 : decide ((s : Int) < 0) = false := by simp
  have d3 : decide (n < k + s) = false := by simp; omega
  go_enter Try.func54, Try.ntmps54
  go_wp2_with (go_at_call 113; refine (refNum_any _ _ _ ((l.drop k).take s) _ (by exact (h.cut (by omega)).take (by omega)) h8).mono ?_; rintro e w1 ⟨rfl, rfl⟩)
  go_ret
  exact ⟨rfl, rfl⟩

theorem refGet_int (A : Option Addr) (n c : Nat) (l : List UInt8) (k s : Int) (w : World) (h : Rb w A n c l) (hm : n ≤ 1099511627776) (h0 : 0 ≤ k) (h1 : 0 ≤ s) (hk : k + s ≤ n) (h8 : s ≤ 8) :
    Calls Try.prog 54 #[.slice A n c, .int .i64 k, .int .i64 s] w fun e w' => e = .returned (.int .u64 (num ((l.drop k.toNat).take s.toNat) : Nat)) ∧ w = w' := by
  obtain ⟨k, rfl⟩ := Int.eq_ofNat_of_zero_le h0
  obtain ⟨s, rfl⟩ := Int.eq_ofNat_of_zero_le h1
  exact refGet_any A n c l k s w h hm (by omega) (by omega)

/-- they are not there -/
theorem refGet_out (A : Option Addr) (n c : Nat) (l : List UInt8) (k s : Nat) (w : World) (h : Rb w A n c l) (hm : n ≤ 1099511627776) (hk : n < k + s) (hk1 : k ≤ 1099511627776) (hs : s ≤ 1099511627776) :
    Calls Try.prog 54 #[.slice A n c, .int .i64 k, .int .i64 s] w fun e w' => e = .returned (.int .u64 0) ∧ w = w' := by
  have d1 : decide ((k : Int) < 0) = false := by simp
  have d2 : decide ((s : Int) < 0) = false := by simp
  have d3 : decide (n < k + s) = true := by simp; omega
  go_enter Try.func54, Try.ntmps54
  go_wp2
  go_ret
  exact ⟨rfl, rfl⟩

set_option maxHeartbeats 400000 in
theorem refBytes_any (n size : Nat) (w : World) (hn : n < 18446744073709551616) (hs : size ≤ 8) :
    Calls Try.prog 129 #[.int .u64 n, .int .i64 size] w (RetB w (dig n size)) := by
  have q1 : (size : Int) ≤ 8 := by omega
  go_enter Try.func129, Try.ntmps129
  go_wp2_with (at_make; refine wpList_mk bt rfl (.tmp 11) rfl _ size rfl rfl (by omega) ?_; intro w1 hb1 hbe1 hs1)
  go_loopw [0, 6] (fun x i wr => ∃ j N : Nat, ∃ ks : List Value, j ≤ size ∧ N < 18446744073709551616 ∧ x = .int .u64 N ∧ i = .int .i64 ((j : Int) - 1) ∧ ks.length = size ∧ Bk wr w.heap.size 5 ks ∧ splice ks 0 (bcs (dig N j)) = bcs (dig n size) ∧ Below w.heap.size w wr) (fun _ i _ => (intOf i + 1).toNat)
  case atStart =>
    refine ⟨size, n, _, Nat.le_refl _, hn, rfl, rfl, by simp, hb1, ?_, hbe1⟩
    simp [splice, bcs_length, dig_length]
  case round =>
    obtain ⟨j, N, ks, hj, hN, rfl, rfl, hk, hb, ho, hgr⟩ := hrel
    have HO := Lib.hid ho
    have HK := Lib.hid hk
    have hk1 : size ≤ ks.length := by omega
    clear ho hk
    by_cases h0 : j = 0
    · subst h0
      have hlen : (dig n size).length = size := dig_length _ _
      go_wp2
      go_ret
      have he : ks = bcs (dig n size) := by rw [← HO.out]; simp [dig, bcs, over_nil]
      rw [he] at hb
      exact RetB.mk (Ob.of_bk hb (Nat.le_refl _) (dig_length _ _) (by simp [maxLen]; omega)) hgr
    · obtain ⟨k, rfl⟩ : ∃ k, j = k + 1 := ⟨j - 1, by omega⟩
      have hlt : k < ks.length := by omega
      have hcell : wr.cell? ⟨w.heap.size, k, none⟩ = some ks[k] := by rw [hb.cell, List.getElem?_eq_getElem hlt]
      have hfr := hb.frozen k
      go_wp2
      refine ⟨⟨k, N / 256, ks.set k (.int .u8 ((N % 256 : Nat) : Int)), by omega, by omega, by simp, rfl, by rw [List.length_set]; exact HK.out, by simpa using hb.set_ k _, ?_, hgr.setCell (Nat.le_refl _) _⟩, by simp [intOf]⟩
      have := over_dig ks 0 N k (by omega)
      rw [Nat.zero_add] at this
      rw [this]
      exact HO.out

/-- A slice of slices of bytes. -/
def RdL (w : World) (A : Option Addr) (m : Nat) (L : List (List UInt8)) : Prop :=
  ∃ cs : List Value, cs.length = m ∧ L.length = m ∧ Rd w w.heap.size A cs ∧ ∀ (i : Nat) (u : Value), cs[i]? = some u → ∃ (A' : Option Addr) (n c : Nat), u = Value.slice A' n c ∧ ∃ l, L[i]? = some l ∧ Rb w A' n c l
def total : List (List UInt8) → Nat
  | [] => 0
  | l :: r => l.length + total r
theorem take_flatten_succ (L : List (List UInt8)) (i : Nat) (l : List UInt8) (h : L[i]? = some l) : (L.take (i + 1)).flatten = (L.take i).flatten ++ l := by
  rw [List.take_add_one, h]
  simp
theorem total_take (L : List (List UInt8)) : ∀ i, (L.take i).flatten.length ≤ L.flatten.length := by
  intro i
  have : L.flatten = (L.take i).flatten ++ (L.drop i).flatten := by rw [← List.flatten_append, List.take_append_drop]
  rw [this, List.length_append]
  omega

set_option maxHeartbeats 800000 in
theorem refJoin_any (A : Option Addr) (m c : Nat) (L : List (List UInt8)) (w : World) (h : RdL w A m L) (hm : m ≤ 1000000) (ht : L.flatten.length ≤ 549755813888) :
    Calls Try.prog 119 #[.slice A m c] w (RetB w L.flatten) := by
  obtain ⟨cs, h1, h2, hrd, hel⟩ := h
  have H1 := Lib.hid h1
  have H2 := Lib.hid h2
  have HE := Lib.hid hel
  clear h1 h2 hel
  go_enter Try.func119, Try.ntmps119
  go_wp2
  go_loopw [3, 4] (fun x i wr => ∃ j : Nat, ∃ A' n' c', j ≤ m ∧ i = .int .i64 j ∧ x = .slice A' n' c' ∧ Ob wr w.heap.size A' n' c' (L.take j).flatten ∧ Below w.heap.size w wr) (fun _ i _ => m - (intOf i).toNat)
  case atStart => exact ⟨0, none, 0, 0, Nat.zero_le _, rfl, rfl, Ob.nil_, Below.refl _ _⟩
  case round =>
    obtain ⟨j, A', n', c', hj, rfl, rfl, ho, hb⟩ := hrel
    by_cases hlt : j < m
    · obtain ⟨b, off, rfl, hbl, hcell⟩ := hrd.at_ (by rw [H1.out]; omega)
      have hjc : j < cs.length := by rw [H1.out]; exact hlt
      obtain ⟨A2, n2, c2, he, l, hl, hr2⟩ := HE.out j _ (List.getElem?_eq_getElem hjc)
      have hcj : wr.cell? ⟨b, off + j, none⟩ = some (.slice A2 n2 c2) := by
        rw [hb.cell (p := ⟨b, off + j, none⟩) hbl, ← he]
        exact hcell j _ (List.getElem?_eq_getElem hjc)
      have hsz : n' + n2 ≤ 1099511627776 := by
        have e1 := take_flatten_succ L j l hl
        have e2 := total_take L (j + 1)
        have e3 := ho.len
        have e4 := hr2.1
        rw [e1, List.length_append] at e2
        omega
      have HS := Lib.hid (take_flatten_succ L j l hl)
      clear hcell hrd hl he
      go_wp2_with (at_builtin; refine wpList_appP w bt rfl (.tmp 11) (.tmp 15) rfl hb rfl ho rfl (hr2.later hb) hsz ?_; intro A3 n3 c3 bs3 d3 ho3 _)
      go_roundw
      case rel => exact ⟨j + 1, A3, n3, c3, by omega, by go_num, rfl, by rw [HS.out]; exact ho3, below_plus _ _ _⟩
      case measure => simp [intOf]; omega
    · obtain rfl : j = m := by omega
      go_wp2
      go_ret
      rw [List.take_of_length_le (by rw [H2.out]; omega)] at ho
      exact RetB.mk ho hb
end Go.Proofs.Ytfmkndemkpecpaa
