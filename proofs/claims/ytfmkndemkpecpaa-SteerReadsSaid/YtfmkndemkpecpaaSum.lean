/- The Internet checksum: sum.fold, sum.Of, sum.Right, and the reference. -/
import Derived.Test.YtfmkndemkpecpaaJoi
import Derived.Test.YtfmkndemkpecpaaAddr
namespace Go.Proofs.Ytfmkndemkpecpaa
open Go.RowKit
set_option linter.unusedVariables false
set_option linter.unusedSimpArgs false
attribute [local go_sem ↓] sliced_cut
attribute [local go_sem] cutA_zero

/-- the sum of the words of bytes; low: the first byte is a low one -/
def tot : Bool → List UInt8 → Nat
  | _, [] => 0
  | low, b :: r => (if low then b.toNat else b.toNat * 256) + tot (!low) r
/-- folded -/
def fd (n : Nat) : Nat := if n = 0 then 0 else (n - 1) % 65535 + 1
theorem fd_le (n : Nat) : fd n ≤ 65535 := by
  unfold fd
  split
  · omega
  · have := Nat.mod_lt (n - 1) (show 65535 > 0 by decide)
    omega
theorem fd_small (n : Nat) (h : n ≤ 65535) : fd n = n := by
  unfold fd
  split
  · omega
  · rw [Nat.mod_eq_of_lt (by omega)]
    omega
theorem fd_step (n : Nat) (h : 65535 < n) : fd (n % 65536 + n / 65536) = fd n := by
  unfold fd
  rw [if_neg (by omega), if_neg (by omega)]
  omega
theorem fd_add (a b : Nat) : fd (fd a + b) = fd (a + b) := by
  unfold fd
  by_cases ha : a = 0
  · subst ha; simp
  · rw [if_neg ha, if_neg (by omega), if_neg (by omega)]
    omega
theorem fd_plus (a b : Nat) (ha : a ≤ 65535) (hb : b ≤ 65535) : fd (a + b) = if 65535 < a + b then a + b - 65535 else a + b := by
  split
  · unfold fd
    rw [if_neg (by omega)]
    omega
  · exact fd_small _ (by omega)
theorem tot_append (low : Bool) (a b : List UInt8) : tot low (a ++ b) = tot low a + tot (if a.length % 2 = 0 then low else !low) b := by
  induction a generalizing low with
  | nil => simp [tot]
  | cons x r ih =>
    simp only [List.cons_append, tot, ih]
    have : (if r.length % 2 = 0 then !low else !!low) = (if (x :: r).length % 2 = 0 then low else !low) := by
      simp only [List.length_cons]
      by_cases h : r.length % 2 = 0
      · rw [if_pos h, if_neg (by omega)]
      · rw [if_neg h, if_pos (by omega)]
        simp
    rw [this]
    omega
theorem tot_le (low : Bool) (l : List UInt8) : tot low l ≤ 65280 * l.length := by
  induction l generalizing low with
  | nil => simp [tot]
  | cons x r ih =>
    have := ih (!low)
    have hx := x.toNat_lt
    simp only [tot, List.length_cons]
    split <;> omega
theorem low16 (n : Nat) (hn : n < 18446744073709551616) : bits .and .u64 (n : Int) 65535 = ((n % 65536 : Nat) : Int) := by
  have := u64_and_nat n 65535 hn (by decide)
  rw [show (65535 : Nat) = 2 ^ 16 - 1 from rfl, Nat.and_two_pow_sub_one_eq_mod] at this
  exact this
set_option maxHeartbeats 1000000 in
theorem fold_sum (n : Nat) (w : World) (hn : n < 18446744073709551616) : Calls Try.prog 177 #[.int .u64 n] w fun e w' => e = .returned (.int .u16 (fd n : Nat)) ∧ w = w' := by
  go_enter Try.func177, Try.ntmps177
  go_wp2
  go_loop [0] (fun x => ∃ k : Nat, k < 18446744073709551616 ∧ x = .int .u64 k ∧ fd k = fd n) (fun x => (intOf x).toNat)
  case atStart => exact ⟨n, hn, rfl, rfl⟩
  case round =>
    obtain ⟨k, hk, rfl, hf⟩ := hrel
    have HF := Lib.hid hf
    clear hf
    by_cases hb : 65535 < k
    · have h1 := low16 k hk
      have hs := Lib.hid (fd_step k hb)
      go_wp2
      go_round
      case rel => exact ⟨k % 65536 + k / 65536, by omega, by go_num, by rw [hs.out]; exact HF.out⟩
      case measure => simp [intOf]; omega
    · have h0 : k ≤ 65535 := by omega
      go_wp2
      go_ret
      rw [← HF.out, fd_small k h0]
      exact ⟨rfl, rfl⟩
theorem plus_any (a b : Nat) (w : World) (ha : a ≤ 65535) (hb : b ≤ 65535) : Calls Try.prog 163 #[.int .u32 a, .int .u32 b] w fun e w' => e = .returned (.int .u32 (fd (a + b) : Nat)) ∧ w = w' := by
  have e := Lib.hid (fd_plus a b ha hb)
  by_cases hc : 65535 < a + b
  · rw [if_pos hc] at e
    go_enter Try.func163, Try.ntmps163
    go_wp2
    go_ret
    rw [e.out]
    exact ⟨by simp; omega, rfl⟩
  · rw [if_neg hc] at e
    go_enter Try.func163, Try.ntmps163
    go_wp2
    go_ret
    rw [e.out]
    exact ⟨by simp, rfl⟩
theorem tot_snoc (l : List UInt8) (i : Nat) (h : i < l.length) : tot false (l.take (i + 1)) = tot false (l.take i) + (if i % 2 = 0 then l[i].toNat * 256 else l[i].toNat) := by
  rw [List.take_succ_eq_append_getElem h, tot_append]
  have hl : (l.take i).length = i := by rw [List.length_take]; omega
  rw [hl]
  by_cases hi : i % 2 = 0 <;> simp [hi, tot]
theorem tot_two (l : List UInt8) (i : Nat) (hi : i % 2 = 0) (h : i + 1 < l.length) : tot false (l.take (i + 2)) = tot false (l.take i) + (l[i].toNat * 256 + l[i + 1].toNat) := by
  rw [tot_snoc l (i + 1) h, tot_snoc l i (by omega), if_pos hi, if_neg (by omega)]
  omega
theorem tot_one (l : List UInt8) (i : Nat) (hi : i % 2 = 0) (h : i + 1 = l.length) : tot false (l.take (i + 2)) = tot false (l.take i) + l[i].toNat * 256 := by
  have := tot_snoc l i (by omega)
  rw [if_pos hi] at this
  have e1 : l.take (i + 2) = l.take (i + 1) := by rw [List.take_of_length_le (by omega), List.take_of_length_le (by omega)]
  rw [e1]
  exact this
set_option maxHeartbeats 1000000 in
theorem refSumOf (A : Option Addr) (n c : Nat) (l : List UInt8) (w : World) (h : Rb w A n c l) (hm : n ≤ 1000000) : Calls Try.prog 118 #[.slice A n c] w fun e w' => e = .returned (.int .u16 (65535 - fd (tot false l) : Nat)) ∧ w = w' := by
  have HL := Lib.hid h.1
  have hrd := h.2.2
  go_enter Try.func118, Try.ntmps118
  go_wp2
  go_loop [3, 4, 5] (fun x i y => ∃ j : Nat, j % 2 = 0 ∧ j ≤ n + 1 ∧ i = .int .i64 j ∧ x = .int .u32 (fd (tot false (l.take j)) : Nat)) (fun _ i _ => n + 1 - (intOf i).toNat)
  case atStart => exact ⟨0, rfl, by omega, rfl, rfl⟩
  case round =>
    obtain ⟨j, he, hj, rfl, rfl⟩ := hrel
    have HE := Lib.hid he
    clear he
    have hs := fd_le (tot false (l.take j))
    by_cases hlt : j < n
    · obtain ⟨b, off, rfl, hb, hcell⟩ := hrd.at_ (by rw [bcs_length, HL.out]; omega)
      have hjl : j < l.length := by rw [HL.out]; omega
      have hcj : w.cell? ⟨b, off + j, none⟩ = some (.int .u8 (l[j].toNat : Int)) := hcell j _ (bcs_get _ _ hjl)
      have hx : l[j].toNat < 256 := l[j].toNat_lt
      by_cases hlt2 : j + 1 < n
      · have hjl2 : j + 1 < l.length := by rw [HL.out]; omega
        have hcj2 : w.cell? ⟨b, off + (j + 1), none⟩ = some (.int .u8 (l[j + 1].toNat : Int)) := hcell (j + 1) _ (bcs_get _ _ hjl2)
        have hx2 : l[j + 1].toNat < 256 := l[j + 1].toNat_lt
        have HS : Hid (fd (fd (tot false (l.take j)) + (l[j].toNat * 256 + l[j + 1].toNat)) = fd (tot false (l.take (j + 2)))) := Lib.hid (by rw [fd_add, tot_two l j HE.out hjl2])
        clear hcell hrd
        generalize fd (tot false (l.take j)) = s0 at *
        generalize l[j].toNat = y0 at *
        generalize l[j + 1].toNat = y1 at *
        go_wp2_with (go_at_call 163; refine (plus_any s0 (y0 * 256 + y1) _ hs (by omega)).mono ?_; rintro e w1 ⟨rfl, rfl⟩)
        go_round
        case rel => exact ⟨j + 2, by have := HE.out; omega, by omega, by go_num, by rw [HS.out]⟩
        case measure => simp [intOf]; omega
      · have HS : Hid (fd (fd (tot false (l.take j)) + l[j].toNat * 256) = fd (tot false (l.take (j + 2)))) := Lib.hid (by rw [fd_add, tot_one l j HE.out (by have := HL.out; omega)])
        clear hcell hrd
        generalize fd (tot false (l.take j)) = s0 at *
        generalize l[j].toNat = y0 at *
        go_wp2_with (go_at_call 163; refine (plus_any s0 (y0 * 256) _ hs (by omega)).mono ?_; rintro e w1 ⟨rfl, rfl⟩)
        go_round
        case rel => exact ⟨j + 2, by have := HE.out; omega, by omega, by go_num, by rw [HS.out]⟩
        case measure => simp [intOf]; omega
    · have hle := HL.out
      rw [List.take_of_length_le (by omega)] at *
      clear hle
      go_wp2
      go_ret
      have := fd_le (tot false l)
      exact ⟨by simp; omega, rfl⟩
theorem tot_one1 (p : List UInt8) (x : UInt8) : tot false (p ++ [x]) = tot false p + (if p.length % 2 = 0 then x.toNat * 256 else x.toNat) := by
  rw [tot_append]
  by_cases h : p.length % 2 = 0 <;> simp [h, tot]
theorem take_snoc_ (l : List UInt8) (i : Nat) (h : i < l.length) (p : List UInt8) : p ++ l.take (i + 1) = (p ++ l.take i) ++ [l[i]] := by
  rw [List.take_succ_eq_append_getElem h, List.append_assoc]
theorem xor_ones16 (b : Nat) (hb : b < 2 ^ 16) : (2 ^ 16 - 1) ^^^ b = 2 ^ 16 - 1 - b := by
  apply Nat.eq_of_testBit_eq
  intro i
  rw [Nat.testBit_xor, Nat.testBit_two_pow_sub_one, show 2 ^ 16 - 1 - b = 2 ^ 16 - (b + 1) by omega, Nat.testBit_two_pow_sub_succ hb]
  by_cases h : i < 16
  · simp [h]
  · have : b.testBit i = false := Nat.testBit_lt_two_pow (Nat.lt_of_lt_of_le hb (Nat.pow_le_pow_right (by decide) (by omega)))
    simp [h, this]
theorem not16 (x : Nat) (h : x ≤ 65535) : bits .xor .u16 IntKind.u16.max (x : Int) = ((65535 - x : Nat) : Int) := by
  have := u16_xor_nat 65535 x (by decide) (by omega)
  have e := xor_ones16 x (by omega)
  simp only [Nat.reducePow, Nat.reduceSub] at e
  rw [e] at this
  exact this
/-- the byte that comes next is a low one -/
def LowB (l : List UInt8) (v : Value) : Prop := (l.length % 2 = 0 ∧ v = .bool false) ∨ (l.length % 2 = 1 ∧ v = .bool true)
set_option maxHeartbeats 2000000 in
theorem sumOf (A : Option Addr) (m c : Nat) (L : List (List UInt8)) (w : World) (h : RdL w A m L) (hm : m ≤ 1000000) (ht : L.flatten.length ≤ 1000000) : Calls Try.prog 153 #[.slice A m c] w fun e w' => e = .returned (.int .u16 (65535 - fd (tot false L.flatten) : Nat)) ∧ w = w' := by
  obtain ⟨cs, h1, h2, hrd, hel⟩ := h
  have H1 := Lib.hid h1
  have H2 := Lib.hid h2
  have HE := Lib.hid hel
  clear h1 h2 hel
  go_enter Try.func153, Try.ntmps153
  go_wp2
  go_loop [3, 4, 11] (fun x y i => ∃ j : Nat, j ≤ m ∧ i = .int .i64 j ∧ x = .int .u64 (tot false (L.take j).flatten : Nat) ∧ LowB (L.take j).flatten y) (fun _ _ i => m - (intOf i).toNat)
  case atStart => exact ⟨0, Nat.zero_le _, rfl, rfl, .inl ⟨rfl, rfl⟩⟩
  case round =>
    obtain ⟨j, hj, rfl, rfl, hlow⟩ := hrel
    by_cases hlt : j < m
    · obtain ⟨b, off, rfl, hbl, hcell⟩ := hrd.at_ (by rw [H1.out]; omega)
      have hjc : j < cs.length := by rw [H1.out]; exact hlt
      obtain ⟨A2, n2, c2, he, l, hl, hr2⟩ := HE.out j _ (List.getElem?_eq_getElem hjc)
      have hcj : w.cell? ⟨b, off + j, none⟩ = some (.slice A2 n2 c2) := by
        rw [← he]
        exact hcell j _ (List.getElem?_eq_getElem hjc)
      have HS := Lib.hid (take_flatten_succ L j l hl)
      have hsz : (L.take j).flatten.length + l.length ≤ 1000000 := by
        have e2 := total_take L (j + 1)
        rw [HS.out, List.length_append] at e2
        omega
      have HL := Lib.hid hr2.1
      have hrd2 := hr2.2.2
      have hn2 : n2 ≤ 1000000 := by have := HL.out; omega
      clear hcell hrd hl he hr2
      generalize (L.take j).flatten = p at *
      have HLO := Lib.hid hlow
      have htp : tot false p ≤ 65280 * 1000000 := Nat.le_trans (tot_le false p) (Nat.mul_le_mul_left _ (by omega))
      clear hlow
      go_wp2
      go_loop [3, 4, 17] (fun x y i => ∃ k : Nat, k ≤ n2 ∧ i = .int .i64 k ∧ x = .int .u64 (tot false (p ++ l.take k) : Nat) ∧ LowB (p ++ l.take k) y) (fun _ _ i => n2 - (intOf i).toNat)
      case atStart => exact ⟨0, Nat.zero_le _, rfl, by simp, by simpa using HLO.out⟩
      case round =>
        obtain ⟨k, hk, rfl, rfl, hlow⟩ := hrel
        by_cases hlt2 : k < n2
        · obtain ⟨b2, off2, rfl, hbl2, hcell2⟩ := hrd2.at_ (by rw [bcs_length, HL.out]; omega)
          have hkl : k < l.length := by rw [HL.out]; omega
          have hck : w.cell? ⟨b2, off2 + k, none⟩ = some (.int .u8 (l[k].toNat : Int)) := hcell2 k _ (bcs_get _ _ hkl)
          have hx2 : l[k].toNat < 256 := l[k].toNat_lt
          have htq : tot false (p ++ l.take k) ≤ 65280 * 1000000 := Nat.le_trans (tot_le false _) (Nat.mul_le_mul_left _ (by rw [List.length_append, List.length_take]; omega))
          have HT := Lib.hid (tot_one1 (p ++ l.take k) l[k])
          have HN := Lib.hid (take_snoc_ l k hkl p)
          have HP := Lib.hid hlow
          clear hcell2 hrd2 hlow
          generalize p ++ l.take k = q at *
          rcases HP.out with ⟨h0, rfl⟩ | ⟨h0, rfl⟩
          · have HZ := Lib.hid h0
            clear h0 HP
            go_wp2
            go_round
            case rel =>
              refine ⟨k + 1, by omega, by go_num, ?_, ?_⟩
              · rw [HN.out, HT.out, if_pos HZ.out]; simp
              · rw [HN.out]; right; exact ⟨by rw [List.length_append]; have := HZ.out; simp; omega, rfl⟩
            case measure => simp [intOf]; omega
          · have HZ := Lib.hid h0
            clear h0 HP
            go_wp2
            go_round
            case rel =>
              refine ⟨k + 1, by omega, by go_num, ?_, ?_⟩
              · rw [HN.out, HT.out, if_neg (by have := HZ.out; omega)]; simp
              · rw [HN.out]; left; exact ⟨by rw [List.length_append]; have := HZ.out; simp; omega, rfl⟩
            case measure => simp [intOf]; omega
        · have hkk : l.take k = l := List.take_of_length_le (by rw [HL.out]; omega)
          rw [hkk] at hlow
          have HK := Lib.hid hkk
          have HLW := Lib.hid hlow
          clear hkk hlow
          go_wp2
          go_round
          case rel => exact ⟨j + 1, by omega, by go_num, by rw [HS.out, HK.out], by rw [HS.out]; exact HLW.out⟩
          case measure => simp [intOf]; omega
    · have hjj : L.take j = L := List.take_of_length_le (by rw [H2.out]; omega)
      rw [hjj]
      have htq : tot false L.flatten ≤ 65280 * 1000000 := Nat.le_trans (tot_le false _) (Nat.mul_le_mul_left _ (by omega))
      clear hjj hlow
      generalize hq : tot false L.flatten = t at *
      have HQ := Lib.hid hq
      clear hq
      have hf := fd_le t
      have hx := not16 (fd t) hf
      go_wp2_with (go_at_call 177; refine (fold_sum t _ (by omega)).mono ?_; rintro e w1 ⟨rfl, rfl⟩)
      go_ret
      refine ⟨?_, rfl⟩
      rw [HQ.out]
      rfl
theorem sumRight (A : Option Addr) (m c : Nat) (L : List (List UInt8)) (w : World) (h : RdL w A m L) (hm : m ≤ 1000000) (ht : L.flatten.length ≤ 1000000) : Calls Try.prog 169 #[.slice A m c] w fun e w' => e = .returned (.bool (65535 - fd (tot false L.flatten) == 0)) ∧ w = w' := by
  have HO := Lib.hid (sumOf A m c L w h hm ht)
  generalize 65535 - fd (tot false L.flatten) = z at *
  go_enter Try.func169, Try.ntmps169
  go_wp2_with (go_at_call 153; refine HO.out.mono ?_; rintro e w1 ⟨rfl, rfl⟩)
  go_ret
  refine ⟨?_, rfl⟩
  show Ending.returned (.bool ((z : Int) == 0)) = _
  congr 2
  rw [Bool.eq_iff_iff]
  simp only [beq_iff_eq]
  omega
end Go.Proofs.Ytfmkndemkpecpaa
