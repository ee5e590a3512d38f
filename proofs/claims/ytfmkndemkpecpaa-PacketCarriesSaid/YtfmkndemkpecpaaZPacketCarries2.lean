/- Texts of the law PacketCarries, part 2. -/
import Derived.Test.YtfmkndemkpecpaaZPacketCarries1
/- The Internet checksum: sum.fold, sum.Of, sum.Right, and the reference. -/
namespace Go.Proofs.Ytfmkndemkpecpaa
open Go.RowKit
set_option linter.unusedVariables false
set_option linter.unusedSimpArgs false
attribute [local go_sem ↓] sliced_cut

attribute [local go_sem] cutA_zero

/-- the sum of the words of bytes; low: the first byte is a low one -/
def tot : Bool → List UInt8 → Nat
  | _, [] => 0
  | low, b :: r => (if low then b.toNat else b.toNat * 256) + tot (!low) r
/-- folded -/
def fd (n : Nat) : Nat := if n = 0 then 0 else (n - 1) % 65535 + 1
theorem fd_le (n : Nat) : fd n ≤ 65535 := by
  unfold fd
  split
  · omega
  · have := Nat.mod_lt (n - 1) (show 65535 > 0 by decide)
    omega
theorem fd_small (n : Nat) (h : n ≤ 65535) : fd n = n := by
  unfold fd
  split
  · omega
  · rw [Nat.mod_eq_of_lt (by omega)]
    omega
theorem fd_step (n : Nat) (h : 65535 < n) : fd (n % 65536 + n / 65536) = fd n := by
  unfold fd
  rw [if_neg (by omega), if_neg (by omega)]
  omega
theorem fd_add (a b : Nat) : fd (fd a + b) = fd (a + b) := by
  unfold fd
  by_cases ha : a = 0
  · subst ha; simp
  · rw [if_neg ha, if_neg (by omega), if_neg (by omega)]
    omega
theorem fd_plus (a b : Nat) (ha : a ≤ 65535) (hb : b ≤ 65535) : fd (a + b) = if 65535 < a + b then a + b - 65535 else a + b := by
  split
  · unfold fd
    rw [if_neg (by omega)]
    omega
  · exact fd_small _ (by omega)
theorem tot_append (low : Bool) (a b : List UInt8) : tot low (a ++ b) = tot low a + tot (if a.length % 2 = 0 then low else !low) b := by
  induction a generalizing low with
  | nil => simp [tot]
  | cons x r ih =>
    simp only [List.cons_append, tot, ih]
    have : (if r.length % 2 = 0 then !low else !!low) = (if (x :: r).length % 2 = 0 then low else !low) := by
      simp only [List.length_cons]
      by_cases h : r.length % 2 = 0
      · rw [if_pos h, if_neg (by omega)]
      · rw [if_neg h, if_pos (by omega)]
        simp
    rw [this]
    omega
theorem tot_le (low : Bool) (l : List UInt8) : tot low l ≤ 65280 * l.length := by
  induction l generalizing low with
  | nil => simp [tot]
  | cons x r ih =>
    have := ih (!low)
    have hx := x.toNat_lt
    simp only [tot, List.length_cons]
    split <;> omega
theorem low16 (n : Nat) (hn : n < 18446744073709551616) : bits .and .u64 (n : Int) 65535 = ((n % 65536 : Nat) : Int) := by
  have := u64_and_nat n 65535 hn (by decide)
  rw [show (65535 : Nat) = 2 ^ 16 - 1 from rfl, Nat.and_two_pow_sub_one_eq_mod] at this
  exact this
set_option maxHeartbeats 1000000 in
theorem fold_sum (n : Nat) (w : World) (hn : n < 18446744073709551616) : Calls Try.prog 177 #[.int .u64 n] w fun e w' => e = .returned (.int .u16 (fd n : Nat)) ∧ w = w' := by
  go_enter Try.func177, Try.ntmps177
  go_wp2
  go_loop [0] (fun x => ∃ k : Nat, k < 18446744073709551616 ∧ x = .int .u64 k ∧ fd k = fd n) (fun x => (intOf x).toNat)
  case atStart => exact ⟨n, hn, rfl, rfl⟩
  case round =>
    obtain ⟨k, hk, rfl, hf⟩ := hrel
    have HF := Lib.hid hf
    clear hf
    by_cases hb : 65535 < k
    · have h1 := low16 k hk
      have hs := Lib.hid (fd_step k hb)
      go_wp2
      go_round
      case rel => exact ⟨k % 65536 + k / 65536, by omega, by go_num, by rw [hs.out]; exact HF.out⟩
      case measure => simp [intOf]; omega
    · have h0 : k ≤ 65535 := by omega
      go_wp2
      go_ret
      rw [← HF.out, fd_small k h0]
      exact ⟨rfl, rfl⟩
theorem plus_any (a b : Nat) (w : World) (ha : a ≤ 65535) (hb : b ≤ 65535) : Calls Try.prog 163 #[.int .u32 a, .int .u32 b] w fun e w' => e = .returned (.int .u32 (fd (a + b) : Nat)) ∧ w = w' := by
  have e := Lib.hid (fd_plus a b ha hb)
  by_cases hc : 65535 < a + b
  · rw [if_pos hc] at e
    go_enter Try.func163, Try.ntmps163
    go_wp2
    go_ret
    rw [e.out]
    exact ⟨by simp; omega, rfl⟩
  · rw [if_neg hc] at e
    go_enter Try.func163, Try.ntmps163
    go_wp2
    go_ret
    rw [e.out]
    exact ⟨by simp, rfl⟩
theorem tot_snoc (l : List UInt8) (i : Nat) (h : i < l.length) : tot false (l.take (i + 1)) = tot false (l.take i) + (if i % 2 = 0 then l[i].toNat * 256 else l[i].toNat) := by
  rw [List.take_succ_eq_append_getElem h, tot_append]
  have hl : (l.take i).length = i := by rw [List.length_take]; omega
  rw [hl]
  by_cases hi : i % 2 = 0 <;> simp [hi, tot]
theorem tot_two (l : List UInt8) (i : Nat) (hi : i % 2 = 0) (h : i + 1 < l.length) : tot false (l.take (i + 2)) = tot false (l.take i) + (l[i].toNat * 256 + l[i + 1].toNat) := by
  rw [tot_snoc l (i + 1) h, tot_snoc l i (by omega), if_pos hi, if_neg (by omega)]
  omega
theorem tot_one (l : List UInt8) (i : Nat) (hi : i % 2 = 0) (h : i + 1 = l.length) : tot false (l.take (i + 2)) = tot false (l.take i) + l[i].toNat * 256 := by
  have := tot_snoc l i (by omega)
  rw [if_pos hi] at this
  have e1 : l.take (i + 2) = l.take (i + 1) := by rw [List.take_of_length_le (by omega), List.take_of_length_le (by omega)]
  rw [e1]
  exact this
set_option maxHeartbeats 1000000 in
theorem refSumOf (A : Option Addr) (n c : Nat) (l : List UInt8) (w : World) (h : Rb w A n c l) (hm : n ≤ 1000000) : Calls Try.prog 118 #[.slice A n c] w fun e w' => e = .returned (.int .u16 (65535 - fd (tot false l) : Nat)) ∧ w = w' := by
  have HL := Lib.hid h.1
  have hrd := h.2.2
  go_enter Try.func118, Try.ntmps118
  go_wp2
  go_loop [3, 4, 5] (fun x i y => ∃ j : Nat, j % 2 = 0 ∧ j ≤ n + 1 ∧ i = .int .i64 j ∧ x = .int .u32 (fd (tot false (l.take j)) : Nat)) (fun _ i _ => n + 1 - (intOf i).toNat)
  case atStart => exact ⟨0, rfl, by omega, rfl, rfl⟩
  case round =>
    obtain ⟨j, he, hj, rfl, rfl⟩ := hrel
    have HE := Lib.hid he
    clear he
    have hs := fd_le (tot false (l.take j))
    by_cases hlt : j < n
    · obtain ⟨b, off, rfl, hb, hcell⟩ := hrd.at_ (by rw [bcs_length, HL.out]; omega)
      have hjl : j < l.length := by rw [HL.out]; omega
      have hcj : w.cell? ⟨b, off + j, none⟩ = some (.int .u8 (l[j].toNat : Int)) := hcell j _ (bcs_get _ _ hjl)
      have hx : l[j].toNat < 256 := l[j].toNat_lt
      by_cases hlt2 : j + 1 < n
      · have hjl2 : j + 1 < l.length := by rw [HL.out]; omega
        have hcj2 : w.cell? ⟨b, off + (j + 1), none⟩ = some (.int .u8 (l[j + 1].toNat : Int)) := hcell (j + 1) _ (bcs_get _ _ hjl2)
        have hx2 : l[j + 1].toNat < 256 := l[j + 1].toNat_lt
        have HS : Hid (fd (fd (tot false (l.take j)) + (l[j].toNat * 256 + l[j + 1].toNat)) = fd (tot false (l.take (j + 2)))) := Lib.hid (by rw [fd_add, tot_two l j HE.out hjl2])
        clear hcell hrd
        generalize fd (tot false (l.take j)) = s0 at *
        generalize l[j].toNat = y0 at *
        generalize l[j + 1].toNat = y1 at *
        go_wp2_with (go_at_call 163; refine (plus_any s0 (y0 * 256 + y1) _ hs (by omega)).mono ?_; rintro e w1 ⟨rfl, rfl⟩)
        go_round
        case rel => exact ⟨j + 2, by have := HE.out; omega, by omega, by go_num, by rw [HS.out]⟩
        case measure => simp [intOf]; omega
      · have HS : Hid (fd (fd (tot false (l.take j)) + l[j].toNat * 256) = fd (tot false (l.take (j + 2)))) := Lib.hid (by rw [fd_add, tot_one l j HE.out (by have := HL.out; omega)])
        clear hcell hrd
        generalize fd (tot false (l.take j)) = s0 at *
        generalize l[j].toNat = y0 at *
        go_wp2_with (go_at_call 163; refine (plus_any s0 (y0 * 256) _ hs (by omega)).mono ?_; rintro e w1 ⟨rfl, rfl⟩)
        go_round
        case rel => exact ⟨j + 2, by have := HE.out; omega, by omega, by go_num, by rw [HS.out]⟩
        case measure => simp [intOf]; omega
    · have hle := HL.out
      rw [List.take_of_length_le (by omega)] at *
      clear hle
      go_wp2
      go_ret
      have := fd_le (tot false l)
      exact ⟨by simp; omega, rfl⟩
theorem tot_one1 (p : List UInt8) (x : UInt8) : tot false (p ++ [x]) = tot false p + (if p.length % 2 = 0 then x.toNat * 256 else x.toNat) := by
  rw [tot_append]
  by_cases h : p.length % 2 = 0 <;> simp [h, tot]
theorem take_snoc_ (l : List UInt8) (i : Nat) (h : i < l.length) (p : List UInt8) : p ++ l.take (i + 1) = (p ++ l.take i) ++ [l[i]] := by
  rw [List.take_succ_eq_append_getElem h, List.append_assoc]
theorem xor_ones16 (b : Nat) (hb : b < 2 ^ 16) : (2 ^ 16 - 1) ^^^ b = 2 ^ 16 - 1 - b := by
  apply Nat.eq_of_testBit_eq
  intro i
  rw [Nat.testBit_xor, Nat.testBit_two_pow_sub_one, show 2 ^ 16 - 1 - b = 2 ^ 16 - (b + 1) by omega, Nat.testBit_two_pow_sub_succ hb]
  by_cases h : i < 16
  · simp [h]
  · have : b.testBit i = false := Nat.testBit_lt_two_pow (Nat.lt_of_lt_of_le hb (Nat.pow_le_pow_right (by decide) (by omega)))
    simp [h, this]
theorem not16 (x : Nat) (h : x ≤ 65535) : bits .xor .u16 IntKind.u16.max (x : Int) = ((65535 - x : Nat) : Int) := by
  have := u16_xor_nat 65535 x (by decide) (by omega)
  have e := xor_ones16 x (by omega)
  simp only [Nat.reducePow, Nat.reduceSub] at e
  rw [e] at this
  exact this
/-- the byte that comes next is a low one -/
def LowB (l : List UInt8) (v : Value) : Prop := (l.length % 2 = 0 ∧ v = .bool false) ∨ (l.length % 2 = 1 ∧ v = .bool true)
set_option maxHeartbeats 2000000 in
theorem sumOf (A : Option Addr) (m c : Nat) (L : List (List UInt8)) (w : World) (h : RdL w A m L) (hm : m ≤ 1000000) (ht : L.flatten.length ≤ 1000000) : Calls Try.prog 153 #[.slice A m c] w fun e w' => e = .returned (.int .u16 (65535 - fd (tot false L.flatten) : Nat)) ∧ w = w' := by
  obtain ⟨cs, h1, h2, hrd, hel⟩ := h
  have H1 := Lib.hid h1
  have H2 := Lib.hid h2
  have HE := Lib.hid hel
  clear h1 h2 hel
  go_enter Try.func153, Try.ntmps153
  go_wp2
  go_loop [3, 4, 11] (fun x y i => ∃ j : Nat, j ≤ m ∧ i = .int .i64 j ∧ x = .int .u64 (tot false (L.take j).flatten : Nat) ∧ LowB (L.take j).flatten y) (fun _ _ i => m - (intOf i).toNat)
  case atStart => exact ⟨0, Nat.zero_le _, rfl, rfl, .inl ⟨rfl, rfl⟩⟩
  case round =>
    obtain ⟨j, hj, rfl, rfl, hlow⟩ := hrel
    by_cases hlt : j < m
    · obtain ⟨b, off, rfl, hbl, hcell⟩ := hrd.at_ (by rw [H1.out]; omega)
      have hjc : j < cs.length := by rw [H1.out]; exact hlt
      obtain ⟨A2, n2, c2, he, l, hl, hr2⟩ := HE.out j _ (List.getElem?_eq_getElem hjc)
      have hcj : w.cell? ⟨b, off + j, none⟩ = some (.slice A2 n2 c2) := by
        rw [← he]
        exact hcell j _ (List.getElem?_eq_getElem hjc)
      have HS := Lib.hid (take_flatten_succ L j l hl)
      have hsz : (L.take j).flatten.length + l.length ≤ 1000000 := by
        have e2 := total_take L (j + 1)
        rw [HS.out, List.length_append] at e2
        omega
      have HL := Lib.hid hr2.1
      have hrd2 := hr2.2.2
      have hn2 : n2 ≤ 1000000 := by have := HL.out; omega
      clear hcell hrd hl he hr2
      generalize (L.take j).flatten = p at *
      have HLO := Lib.hid hlow
      have htp : tot false p ≤ 65280 * 1000000 := Nat.le_trans (tot_le false p) (Nat.mul_le_mul_left _ (by omega))
      clear hlow
      go_wp2
      go_loop [3, 4, 17] (fun x y i => ∃ k : Nat, k ≤ n2 ∧ i = .int .i64 k ∧ x = .int .u64 (tot false (p ++ l.take k) : Nat) ∧ LowB (p ++ l.take k) y) (fun _ _ i => n2 - (intOf i).toNat)
      case atStart => exact ⟨0, Nat.zero_le _, rfl, by simp, by simpa using HLO.out⟩
      case round =>
        obtain ⟨k, hk, rfl, rfl, hlow⟩ := hrel
        by_cases hlt2 : k < n2
        · obtain ⟨b2, off2, rfl, hbl2, hcell2⟩ := hrd2.at_ (by rw [bcs_length, HL.out]; omega)
          have hkl : k < l.length := by rw [HL.out]; omega
          have hck : w.cell? ⟨b2, off2 + k, none⟩ = some (.int .u8 (l[k].toNat : Int)) := hcell2 k _ (bcs_get _ _ hkl)
          have hx2 : l[k].toNat < 256 := l[k].toNat_lt
          have htq : tot false (p ++ l.take k) ≤ 65280 * 1000000 := Nat.le_trans (tot_le false _) (Nat.mul_le_mul_left _ (by rw [List.length_append, List.length_take]; omega))
          have HT := Lib.hid (tot_one1 (p ++ l.take k) l[k])
          have HN := Lib.hid (take_snoc_ l k hkl p)
          have HP := Lib.hid hlow
          clear hcell2 hrd2 hlow
          generalize p ++ l.take k = q at *
          rcases HP.out with ⟨h0, rfl⟩ | ⟨h0, rfl⟩
          · have HZ := Lib.hid h0
            clear h0 HP
            go_wp2
            go_round
            case rel =>
              refine ⟨k + 1, by omega, by go_num, ?_, ?_⟩
              · rw [HN.out, HT.out, if_pos HZ.out]; simp
              · rw [HN.out]; right; exact ⟨by rw [List.length_append]; have := HZ.out; simp; omega, rfl⟩
            case measure => simp [intOf]; omega
          · have HZ := Lib.hid h0
            clear h0 HP
            go_wp2
            go_round
            case rel =>
              refine ⟨k + 1, by omega, by go_num, ?_, ?_⟩
              · rw [HN.out, HT.out, if_neg (by have := HZ.out; omega)]; simp
              · rw [HN.out]; left; exact ⟨by rw [List.length_append]; have := HZ.out; simp; omega, rfl⟩
            case measure => simp [intOf]; omega
        · have hkk : l.take k = l := List.take_of_length_le (by rw [HL.out]; omega)
          rw [hkk] at hlow
          have HK := Lib.hid hkk
          have HLW := Lib.hid hlow
          clear hkk hlow
          go_wp2
          go_round
          case rel => exact ⟨j + 1, by omega, by go_num, by rw [HS.out, HK.out], by rw [HS.out]; exact HLW.out⟩
          case measure => simp [intOf]; omega
    · have hjj : L.take j = L := List.take_of_length_le (by rw [H2.out]; omega)
      rw [hjj]
      have htq : tot false L.flatten ≤ 65280 * 1000000 := Nat.le_trans (tot_le false _) (Nat.mul_le_mul_left _ (by omega))
      clear hjj hlow
      generalize hq : tot false L.flatten = t at *
      have HQ := Lib.hid hq
      clear hq
      have hf := fd_le t
      have hx := not16 (fd t) hf
      go_wp2_with (go_at_call 177; refine (fold_sum t _ (by omega)).mono ?_; rintro e w1 ⟨rfl, rfl⟩)
      go_ret
      refine ⟨?_, rfl⟩
      rw [HQ.out]
      rfl
theorem sumRight (A : Option Addr) (m c : Nat) (L : List (List UInt8)) (w : World) (h : RdL w A m L) (hm : m ≤ 1000000) (ht : L.flatten.length ≤ 1000000) : Calls Try.prog 169 #[.slice A m c] w fun e w' => e = .returned (.bool (65535 - fd (tot false L.flatten) == 0)) ∧ w = w' := by
  have HO := Lib.hid (sumOf A m c L w h hm ht)
  generalize 65535 - fd (tot false L.flatten) = z at *
  go_enter Try.func169, Try.ntmps169
  go_wp2_with (go_at_call 153; refine HO.out.mono ?_; rintro e w1 ⟨rfl, rfl⟩)
  go_ret
  refine ⟨?_, rfl⟩
  show Ending.returned (.bool ((z : Int) == 0)) = _
  congr 2
  rw [Bool.eq_iff_iff]
  simp only [beq_iff_eq]
  omega
end Go.Proofs.Ytfmkndemkpecpaa

/- Contracts of the package icmp and its reference. -/
namespace Go.Proofs.Ytfmkndemkpecpaa
open Go.RowKit
set_option linter.unusedVariables false
attribute [local go_sem ↓] sliced_cut

attribute [local go_sem] cutA_zero

/-- a new message -/
def RetM (w : World) (ty code sum word : Int) (l : List UInt8) (e : Ending) (w' : World) : Prop :=
  ∃ A n c bs d, e = .returned (.agg #[.int .u8 ty, .int .u8 code, .int .u16 sum, .int .u32 word, .slice A n c]) ∧ w' = plus w bs d ∧ Ob (plus w bs d) w.heap.size A n c l
theorem RetM.mk {w w' : World} {ty code sum word : Int} {l : List UInt8} {A : Option Addr} {n c : Nat} (ho : Ob w' w.heap.size A n c l) (hb : Below w.heap.size w w') :
    RetM w ty code sum word l (.returned (.agg #[.int .u8 ty, .int .u8 code, .int .u16 sum, .int .u32 word, .slice A n c])) w' := by
  obtain ⟨bs, d, rfl⟩ := plus_of hb
  exact ⟨A, n, c, bs, d, rfl, rfl, ho⟩

end Go.Proofs.Ytfmkndemkpecpaa

/- Messages: Bytes, covered, Summed, Fine, Error, Echo; the reference's Bytes, Check, Summed, Error. -/
namespace Go.Proofs.Ytfmkndemkpecpaa
open Go.RowKit
set_option linter.unusedVariables false
set_option linter.unusedSimpArgs false
attribute [local go_sem ↓] sliced_cut

attribute [local go_sem] cutA_zero

def msgC (a b c d : Nat) (A : Option Addr) (n k : Nat) : List Value := [.int .u8 (a : Int), .int .u8 (b : Int), .int .u16 (c : Int), .int .u32 (d : Int), .slice A n k]
theorem msgC_one (a b c d : Nat) (A : Option Addr) (n k : Nat) : ∀ u ∈ msgC a b c d A n k, u.oneCell' = true := by
  intro u hu
  simp only [msgC, List.mem_cons, List.not_mem_nil, or_false] at hu
  rcases hu with rfl | rfl | rfl | rfl | rfl <;> rfl
theorem rowAd : ∃ d, Try.prog.underlying 26 = some d ∧ d.isRow = true := ⟨_, Try.underlying26, rfl⟩
/-- two slices of bytes -/
def Ret2 (w : World) (l1 l2 : List UInt8) (e : Ending) (w' : World) : Prop := ∃ A1 n1 c1 A2 n2 c2 bs d, e = .returned (.tuple #[.slice A1 n1 c1, .slice A2 n2 c2]) ∧ w' = plus w bs d ∧ Rb (plus w bs d) A1 n1 c1 l1 ∧ Rb (plus w bs d) A2 n2 c2 l2
theorem Ret2.mk {w w' : World} {l1 l2 : List UInt8} {A1 : Option Addr} {n1 c1 : Nat} {A2 : Option Addr} {n2 c2 : Nat} (h1 : Rb w' A1 n1 c1 l1) (h2 : Rb w' A2 n2 c2 l2) (hb : Below w.heap.size w w') : Ret2 w l1 l2 (.returned (.tuple #[.slice A1 n1 c1, .slice A2 n2 c2])) w' := by
  obtain ⟨bs, d, rfl⟩ := plus_of hb
  exact ⟨_, _, _, _, _, _, bs, d, rfl, rfl, h1, h2⟩
/-- a message with its own load -/
def RetMs (w : World) (a b s d : Nat) (l : List UInt8) (e : Ending) (w' : World) : Prop := ∃ A n c bs d', e = .returned (.agg (msgC a b s d A n c).toArray) ∧ w' = plus w bs d' ∧ Rb (plus w bs d') A n c l
theorem RetMs.mk {w w' : World} {a b s d : Nat} {l : List UInt8} {A : Option Addr} {n c : Nat} (ho : Rb w' A n c l) (hb : Below w.heap.size w w') : RetMs w a b s d l (.returned (.agg (msgC a b s d A n c).toArray)) w' := by
  obtain ⟨bs, d, rfl⟩ := plus_of hb
  exact ⟨A, n, c, bs, d, rfl, rfl, ho⟩
end Go.Proofs.Ytfmkndemkpecpaa

/- Contracts of udp.Parse and its reference. -/
namespace Go.Proofs.Ytfmkndemkpecpaa
open Go.RowKit
set_option linter.unusedVariables false
set_option linter.unusedSimpArgs false
attribute [local go_sem ↓] sliced_cut

attribute [local go_sem] cutA_zero

/-- a datagram in new memory, and a second result -/
def RetDg (w : World) (x0 x1 x2 : Nat) (l : List UInt8) (v : Value) (e : Ending) (w' : World) : Prop :=
  ∃ A n c bs d, e = .returned (.tuple #[.agg #[.int .u16 x0, .int .u16 x1, .int .u16 x2, .slice A n c], v]) ∧ w' = plus w bs d ∧ Rb (plus w bs d) A n c l
theorem RetDg.mk {w w' : World} {x0 x1 x2 : Nat} {l : List UInt8} {A : Option Addr} {n c : Nat} {v : Value} (h1 : Rb w' A n c l) (hb : Below w.heap.size w w') :
    RetDg w x0 x1 x2 l v (.returned (.tuple #[.agg #[.int .u16 x0, .int .u16 x1, .int .u16 x2, .slice A n c], v])) w' := by
  obtain ⟨bs, d, rfl⟩ := plus_of hb
  exact ⟨A, n, c, bs, d, rfl, rfl, h1⟩
/-- the same, the row in a new block -/
def RetDgF (w : World) (x0 x1 x2 : Nat) (l : List UInt8) (v : Value) (e : Ending) (w' : World) : Prop :=
  ∃ A n c bs d, e = .returned (.tuple #[.agg #[.int .u16 x0, .int .u16 x1, .int .u16 x2, .slice A n c], v]) ∧ w' = plus w bs d ∧ Rb (plus w bs d) A n c l ∧ ∀ a, A = some a → w.heap.size ≤ a.block
theorem RetDgF.mk {w w' : World} {x0 x1 x2 : Nat} {l : List UInt8} {A : Option Addr} {n c : Nat} {v : Value} (h1 : Rb w' A n c l) (hf : ∀ a, A = some a → w.heap.size ≤ a.block) (hb : Below w.heap.size w w') :
    RetDgF w x0 x1 x2 l v (.returned (.tuple #[.agg #[.int .u16 x0, .int .u16 x1, .int .u16 x2, .slice A n c], v])) w' := by
  obtain ⟨bs, d, rfl⟩ := plus_of hb
  exact ⟨A, n, c, bs, d, rfl, rfl, h1, hf⟩
theorem RetDg.zero {w w' : World} {v : Value} (hb : Below w.heap.size w w') : RetDg w 0 0 0 [] v (.returned (.tuple #[.agg #[.int .u16 0, .int .u16 0, .int .u16 0, .slice none 0 0], v])) w' := RetDg.mk Rb.nil_ hb
end Go.Proofs.Ytfmkndemkpecpaa

/- Fine of segments and of datagrams, on both sides (chapters 6, 7). -/
namespace Go.Proofs.Ytfmkndemkpecpaa
open Go.RowKit
set_option linter.unusedVariables false
set_option linter.unusedSimpArgs false
attribute [local go_sem ↓] sliced_cut

attribute [local go_sem] cutA_zero

def dgX (a b s : Nat) (A : Option Addr) (n k : Nat) : List Value := [.int .u16 (a : Int), .int .u16 (b : Int), .int .u16 (s : Int), .slice A n k]
theorem dgX_one (a b s : Nat) (A : Option Addr) (n k : Nat) : ∀ u ∈ dgX a b s A n k, u.oneCell' = true := by
  intro u hu
  simp only [dgX, List.mem_cons, List.not_mem_nil, or_false] at hu
  rcases hu with rfl | rfl | rfl | rfl <;> rfl
end Go.Proofs.Ytfmkndemkpecpaa

/- Contracts of tcp.Parse. -/
namespace Go.Proofs.Ytfmkndemkpecpaa
open Go.RowKit
set_option linter.unusedVariables false
set_option linter.unusedSimpArgs false
attribute [local go_sem ↓] sliced_cut

attribute [local go_sem] cutA_zero

theorem szSeg (cs : List Value) (h : cs.length = 10) : (Try.prog.info? 47).map (·.size) = some cs.length := by rw [h]; kernel_rfl
/-- a segment in new memory, and a second result -/
def RetSeg (w : World) (x0 x1 x2 x3 x4 x5 x6 x7 : Nat) (l l2 : List UInt8) (v : Value) (e : Ending) (w' : World) : Prop :=
  ∃ A n c A2 n2 c2 bs d, e = .returned (.tuple #[.agg #[.int .u16 x0, .int .u16 x1, .int .u32 x2, .int .u32 x3, .int .u8 x4, .int .u16 x5, .int .u16 x6, .int .u16 x7, .slice A n c, .slice A2 n2 c2], v]) ∧ w' = plus w bs d ∧ Rb (plus w bs d) A n c l ∧ Rb (plus w bs d) A2 n2 c2 l2
theorem RetSeg.mk {w w' : World} {x0 x1 x2 x3 x4 x5 x6 x7 : Nat} {l l2 : List UInt8} {A : Option Addr} {n c : Nat} {A2 : Option Addr} {n2 c2 : Nat} {v : Value} (h1 : Rb w' A n c l) (h2 : Rb w' A2 n2 c2 l2) (hb : Below w.heap.size w w') :
    RetSeg w x0 x1 x2 x3 x4 x5 x6 x7 l l2 v (.returned (.tuple #[.agg #[.int .u16 x0, .int .u16 x1, .int .u32 x2, .int .u32 x3, .int .u8 x4, .int .u16 x5, .int .u16 x6, .int .u16 x7, .slice A n c, .slice A2 n2 c2], v])) w' := by
  obtain ⟨bs, d, rfl⟩ := plus_of hb
  exact ⟨A, n, c, A2, n2, c2, bs, d, rfl, rfl, h1, h2⟩
/-- the same, the rows in new blocks -/
def RetSegF (w : World) (x0 x1 x2 x3 x4 x5 x6 x7 : Nat) (l l2 : List UInt8) (v : Value) (e : Ending) (w' : World) : Prop :=
  ∃ A n c A2 n2 c2 bs d, e = .returned (.tuple #[.agg #[.int .u16 x0, .int .u16 x1, .int .u32 x2, .int .u32 x3, .int .u8 x4, .int .u16 x5, .int .u16 x6, .int .u16 x7, .slice A n c, .slice A2 n2 c2], v]) ∧ w' = plus w bs d ∧ Rb (plus w bs d) A n c l ∧ Rb (plus w bs d) A2 n2 c2 l2 ∧ (∀ a, A = some a → w.heap.size ≤ a.block) ∧ ∀ a, A2 = some a → w.heap.size ≤ a.block
theorem Ob.freshT {w : World} {w0 base : Nat} {A : Option Addr} {n c : Nat} {l : List UInt8} (h : Ob w base A n c l) (hb : w0 ≤ base) : ∀ a, A = some a → w0 ≤ a.block := fun a ha => by
  subst ha
  have := (h.blk a.block rfl).1
  omega
theorem RetSegF.mk {w w' : World} {x0 x1 x2 x3 x4 x5 x6 x7 : Nat} {l l2 : List UInt8} {A : Option Addr} {n c : Nat} {A2 : Option Addr} {n2 c2 : Nat} {v : Value} {b1 b2 : Nat} (h1 : Ob w' b1 A n c l) (h2 : Ob w' b2 A2 n2 c2 l2) (hb : Below w.heap.size w w') (f1 : w.heap.size ≤ b1) (f2 : w.heap.size ≤ b2) :
    RetSegF w x0 x1 x2 x3 x4 x5 x6 x7 l l2 v (.returned (.tuple #[.agg #[.int .u16 x0, .int .u16 x1, .int .u32 x2, .int .u32 x3, .int .u8 x4, .int .u16 x5, .int .u16 x6, .int .u16 x7, .slice A n c, .slice A2 n2 c2], v])) w' := by
  obtain ⟨bs, d, rfl⟩ := plus_of hb
  exact ⟨A, n, c, A2, n2, c2, bs, d, rfl, rfl, h1.rb, h2.rb, h1.freshT f1, h2.freshT f2⟩
theorem RetSeg.zero {w w' : World} {v : Value} (hb : Below w.heap.size w w') : RetSeg w 0 0 0 0 0 0 0 0 [] [] v (.returned (.tuple #[.agg #[.int .u16 0, .int .u16 0, .int .u32 0, .int .u32 0, .int .u8 0, .int .u16 0, .int .u16 0, .int .u16 0, .slice none 0 0, .slice none 0 0], v])) w' := RetSeg.mk Rb.nil_ Rb.nil_ hb

end Go.Proofs.Ytfmkndemkpecpaa

/- Contracts of the reference's Parse of TCP segments. -/
namespace Go.Proofs.Ytfmkndemkpecpaa
open Go.RowKit
set_option linter.unusedVariables false
set_option linter.unusedSimpArgs false
attribute [local go_sem ↓] sliced_cut

attribute [local go_sem] cutA_zero

theorem refGetV (A : Option Addr) (n c : Nat) (l : List UInt8) (k s : Int) (k' s' x : Nat) (w : World) (h : Rb w A n c l) (hk : k = k') (hs : s = s') (hx : num ((l.drop k').take s') = x) (hm : n ≤ 1099511627776) (hn : k' + s' ≤ n) (h8 : s' ≤ 8) :
    Calls Try.prog 54 #[.slice A n c, .int .i64 k, .int .i64 s] w fun e w' => e = .returned (.int .u64 (x : Nat)) ∧ w = w' := by
  subst hk hs hx
  exact refGet_any A n c l k' s' w h hm hn h8
theorem szSegR (cs : List Value) (h : cs.length = 10) : (Try.prog.info? 56).map (·.size) = some cs.length := by rw [h]; kernel_rfl
end Go.Proofs.Ytfmkndemkpecpaa

/- Parse of any bytes as a message of ICMP, both sides (chapter 8). -/
namespace Go.Proofs.Ytfmkndemkpecpaa
open Go.RowKit
set_option linter.unusedVariables false
set_option linter.unusedSimpArgs false
attribute [local go_sem ↓] sliced_cut

attribute [local go_sem] cutA_zero

/-- a message, its row in a new block, and a second result -/
def RetMg (w : World) (x0 x1 x2 x3 : Nat) (l : List UInt8) (v : Value) (e : Ending) (w' : World) : Prop := ∃ A1 n1 c1 bs d, e = .returned (.tuple #[.agg (msgC x0 x1 x2 x3 A1 n1 c1).toArray, v]) ∧ w' = plus w bs d ∧ Rb (plus w bs d) A1 n1 c1 l ∧ ∀ a, A1 = some a → w.heap.size ≤ a.block
theorem RetMg.mk {w w' : World} {x0 x1 x2 x3 : Nat} {l : List UInt8} {v : Value} {A1 : Option Addr} {n1 c1 : Nat} (h : Rb w' A1 n1 c1 l) (hf : ∀ a, A1 = some a → w.heap.size ≤ a.block) (hb : Below w.heap.size w w') : RetMg w x0 x1 x2 x3 l v (.returned (.tuple #[.agg (msgC x0 x1 x2 x3 A1 n1 c1).toArray, v])) w' := by
  obtain ⟨bs, d, rfl⟩ := plus_of hb
  exact ⟨A1, n1, c1, bs, d, rfl, rfl, h, hf⟩
end Go.Proofs.Ytfmkndemkpecpaa

/- What calls return. -/
namespace Go.Proofs.Ytfmkndemkpecpaa
open Go.RowKit
/-- bytes and an error -/
def RetBE (w : World) (l : List UInt8) (E : Int) (e : Ending) (w' : World) : Prop := ∃ A n c bs d, e = .returned (.tuple #[.slice A n c, .int .i64 E]) ∧ w' = plus w bs d ∧ Rb (plus w bs d) A n c l
theorem RetBE.mk {w w' : World} {l : List UInt8} {E : Int} {A : Option Addr} {n c : Nat} (h : Rb w' A n c l) (hb : Below w.heap.size w w') : RetBE w l E (.returned (.tuple #[.slice A n c, .int .i64 E])) w' := by
  obtain ⟨bs, d, rfl⟩ := plus_of hb
  exact ⟨A, n, c, bs, d, rfl, rfl, h⟩
end Go.Proofs.Ytfmkndemkpecpaa

/- octet.Set, ref01.Set; addr.Right; headers of IPv4: Size, Right. -/
namespace Go.Proofs.Ytfmkndemkpecpaa
open Go.RowKit
set_option linter.unusedVariables false
set_option linter.unusedSimpArgs false
attribute [local go_sem ↓] sliced_cut

attribute [local go_sem] cutA_zero

/-- bytes r written over l from k on -/
def setB (l : List UInt8) (k : Nat) (r : List UInt8) : List UInt8 := l.take k ++ r ++ l.drop (k + r.length)
theorem setB_length (l : List UInt8) (k : Nat) (r : List UInt8) (h : k + r.length ≤ l.length) : (setB l k r).length = l.length := by
  simp [setB]; omega
theorem setB_cells (l : List UInt8) (k : Nat) (r : List UInt8) : splice (bcs l) k (bcs r) = bcs (setB l k r) := by
  simp [splice, setB, bcs_append, bcs_take, bcs_drop, bcs_length]
/-- own bytes, and an error -/
def RetOE (w : World) (l : List UInt8) (E : Int) (e : Ending) (w' : World) : Prop := ∃ A n c bs d, e = .returned (.tuple #[.slice A n c, .int .i64 E]) ∧ w' = plus w bs d ∧ Ob (plus w bs d) w.heap.size A n c l
theorem RetOE.mk {w w' : World} {l : List UInt8} {E : Int} {A : Option Addr} {n c : Nat} (h : Ob w' w.heap.size A n c l) (hb : Below w.heap.size w w') : RetOE w l E (.returned (.tuple #[.slice A n c, .int .i64 E])) w' := by
  obtain ⟨bs, d, rfl⟩ := plus_of hb
  exact ⟨A, n, c, bs, d, rfl, rfl, h⟩
theorem over_full (l : List UInt8) (n : Nat) (h : l.length = n) : splice (List.replicate n (.int .u8 0)) 0 (bcs l) = bcs l := by
  subst h
  simp [splice, bcs_length]
set_option maxHeartbeats 4000000 in
set_option maxRecDepth 100000 in
theorem octSet (A : Option Addr) (n c : Nat) (l : List UInt8) (k v size : Nat) (w : World) (h : Rb w A n c l) (hk : k + size ≤ n) (hs0 : 1 ≤ size) (hs : size ≤ 8) (hv : v < 18446744073709551616) (hm : n ≤ 549755813888) :
    Calls Try.prog 152 #[.slice A n c, .int .i64 (k : Int), .int .u64 (v : Int), .int .i64 (size : Int)] w (RetOE w (setB l k (dig v size)) 0) := by
  have d1 : decide (size < 1) = false := by simp; omega
  have d2 : decide (8 < size) = false := by simp; omega
  have d4 : decide (n < size) = false := by simp; omega
  have d5 : decide ((n : Int) - (size : Int) < (k : Int)) = false := by simp; omega
  have hl := h.1
  have hkn : k ≠ n := by omega
  go_enter Try.func152, Try.ntmps152
  go_wp2_with (first
    | (at_make; refine wpList_mk bt rfl (.tmp 36) rfl _ n rfl rfl (by omega) ?_; intro w1 hb1 hbe1 hs1)
    | (refine at_op (.call { callee := .builtin .copy, args := #[.tmp 38, .tmp 39], argTypes := #[22, 22] }) rfl ?_; refine wpList_cpy 40 rfl bt rfl (.tmp 38) (.tmp 39) rfl rfl rfl w.heap.size 0 _ hb1 (.inr rfl) l (h.later hbe1) (by omega) (by simp) w.heap.size w hbe1 (Nat.le_refl _) ?_; intro w2 hb2 hbe2))
  rw [over_full l n hl] at hb2
  refine wp_rel 6 49 rfl (by kernel_rfl) (by kernel_rfl) (fun i => match i with | 0 => MP.eq (.slice (some ⟨w.heap.size, 0, none⟩) n n) | 1 => MP.eq (.int .i64 (k : Int)) | 2 => MP.eq (.slice (cutA (some ⟨w.heap.size, 0, none⟩) n k 1) (n - k) (n - k)) | 3 => MP.eq (.int .u64 (v : Int)) | 4 => MP.eq (.int .i64 (size : Int)) | 5 => MP.rb (dig v size) | _ => MP.any) ?_ ?_
  · intro i hi o ho FA x hO hD K hK
    match i, hi, ho, hO, hD, hK with
    | 0, _, ho, hO, hD, hK => 
      obtain rfl := Option.some.inj ho.symm
      clear ho
      have ev10 : FA.eval (.tmp 10) = .slice (some ⟨w.heap.size, 0, none⟩) n n := hO 10 (by kernel_rfl)
      have e10 : FA.tmps[10]?.getD undef = .slice (some ⟨w.heap.size, 0, none⟩) n n := by simpa [Act.eval] using ev10
      replace ev10 := Lib.hid ev10
      clear hO hD
      go_simp
      exact hK.out _ _ (Ex.refl _) rfl
    | 1, _, ho, hO, hD, hK => 
      obtain rfl := Option.some.inj ho.symm
      clear ho
      have ev1 : FA.eval (.tmp 1) = .int .i64 (k : Int) := hO 1 (by kernel_rfl)
      have e1 : FA.tmps[1]?.getD undef = .int .i64 (k : Int) := by simpa [Act.eval] using ev1
      replace ev1 := Lib.hid ev1
      clear hO hD
      go_simp
      exact hK.out _ _ (Ex.refl _) rfl
    | 2, _, ho, hO, hD, hK => 
      obtain rfl := Option.some.inj ho.symm
      clear ho
      have ev41 : FA.eval (.tmp 41) = .slice (some ⟨w.heap.size, 0, none⟩) n n := hD 0 41 (by kernel_rfl)
      have e41 : FA.tmps[41]?.getD undef = .slice (some ⟨w.heap.size, 0, none⟩) n n := by simpa [Act.eval] using ev41
      replace ev41 := Lib.hid ev41
      have ev42 : FA.eval (.tmp 42) = .int .i64 (k : Int) := hD 1 42 (by kernel_rfl)
      have e42 : FA.tmps[42]?.getD undef = .int .i64 (k : Int) := by simpa [Act.eval] using ev42
      replace ev42 := Lib.hid ev42
      clear hO hD
      have hk2 : k ≤ n := by omega
      go_simp
      exact hK.out _ _ (Ex.refl _) rfl
    | 3, _, ho, hO, hD, hK => 
      obtain rfl := Option.some.inj ho.symm
      clear ho
      have ev2 : FA.eval (.tmp 2) = .int .u64 (v : Int) := hO 2 (by kernel_rfl)
      have e2 : FA.tmps[2]?.getD undef = .int .u64 (v : Int) := by simpa [Act.eval] using ev2
      replace ev2 := Lib.hid ev2
      clear hO hD
      go_simp
      exact hK.out _ _ (Ex.refl _) rfl
    | 4, _, ho, hO, hD, hK => 
      obtain rfl := Option.some.inj ho.symm
      clear ho
      have ev3 : FA.eval (.tmp 3) = .int .i64 (size : Int) := hO 3 (by kernel_rfl)
      have e3 : FA.tmps[3]?.getD undef = .int .i64 (size : Int) := by simpa [Act.eval] using ev3
      replace ev3 := Lib.hid ev3
      clear hO hD
      go_simp
      exact hK.out _ _ (Ex.refl _) rfl
    | 5, _, ho, hO, hD, hK => 
      obtain rfl := Option.some.inj ho.symm
      clear ho
      have ev44 : FA.eval (.tmp 44) = .int .u64 (v : Int) := hD 3 44 (by kernel_rfl)
      have e44 : FA.tmps[44]?.getD undef = .int .u64 (v : Int) := by simpa [Act.eval] using ev44
      replace ev44 := Lib.hid ev44
      have ev45 : FA.eval (.tmp 45) = .int .i64 (size : Int) := hD 4 45 (by kernel_rfl)
      have e45 : FA.tmps[45]?.getD undef = .int .i64 (size : Int) := by simpa [Act.eval] using ev45
      replace ev45 := Lib.hid ev45
      clear hO hD
      go_simp
      refine (put_any none 0 0 [] v size _ Rb.nil_ (by omega) hv hs0 hs).mono ?_
      rintro e w3 ⟨A3, n3, c3, bs3, d3, rfl, rfl, ho3⟩
      exact hK.out _ _ (Ex.plus_ _ _ _) ⟨_, _, _, rfl, ho3.rb⟩
    | (k + 6), hi, _, _, _, _ => exact absurd hi (by omega)
  intro vs x hp
  have p0 : vs 0 = .slice (some ⟨w.heap.size, 0, none⟩) n n := hp 0 (by omega)
  have p1 : vs 1 = .int .i64 (k : Int) := hp 1 (by omega)
  have p2 : vs 2 = .slice (cutA (some ⟨w.heap.size, 0, none⟩) n k 1) (n - k) (n - k) := hp 2 (by omega)
  have p3 : vs 3 = .int .u64 (v : Int) := hp 3 (by omega)
  have p4 : vs 4 = .int .i64 (size : Int) := hp 4 (by omega)
  have p5 := hp 5 (by omega)
  clear hp
  simp only [List.take_succ_cons, List.take_zero, List.drop_succ_cons, List.drop_zero, putAll, Nat.zero_add, Nat.reduceAdd, Act.put, List.setIfInBounds_toArray, List.set_cons_zero, List.set_cons_succ, p0, p1, p2, p3, p4]
  clear p0 p1 p2 p3 p4
  generalize vs 5 = y5 at *
  clear vs
  obtain ⟨A3, n3, c3, rfl, h3⟩ := p5
  obtain rfl : n3 = size := by rw [← h3.1, dig_length]
  have hb3 := hb2.later (below_plus _ x.bs x.d)
  have hbe3 := belowP hbe2 x.bs x.d
  generalize plus w2 x.bs x.d = w3 at *
  go_wp2_with (refine at_op (.call { callee := .builtin .copy, args := #[.tmp 43, .tmp 46], argTypes := #[22, 22] }) rfl ?_; refine wpList_cpy 47 rfl bt rfl (.tmp 43) (.tmp 46) rfl rfl rfl w.heap.size k _ hb3 (.inr (by rw [cutA_some _ _ _ _ (by omega)]; simp)) (dig v n3) h3 (by omega) (by rw [bcs_length]; omega) w.heap.size w hbe3 (Nat.le_refl _) ?_; intro w4 hb4 hbe4)
  go_ret2
  rw [setB_cells] at hb4
  exact RetOE.mk (Ob.of_bk hb4 (Nat.le_refl _) (by rw [setB_length _ _ _ (by rw [dig_length]; omega)]; exact hl) (by simp [maxLen]; omega)) hbe4
theorem bcs_set (l : List UInt8) (i : Nat) (b : UInt8) : (bcs l).set i (.int .u8 (b.toNat : Int)) = bcs (l.set i b) := by simp [bcs, List.map_set]
theorem setB_step (l r : List UInt8) (k j : Nat) (hj : j < r.length) (hk : k + r.length ≤ l.length) : (setB l k (r.take j)).set (k + j) r[j] = setB l k (r.take (j + 1)) := by
  have h1 : (l.take k).length = k := by rw [List.length_take]; omega
  have h2 : (r.take j).length = j := by rw [List.length_take]; omega
  have h3 : (r.take (j + 1)).length = j + 1 := by rw [List.length_take]; omega
  unfold setB
  rw [h2, h3, List.set_append_right _ _ (by rw [List.length_append, h1, h2]; omega), List.length_append, h1, h2, Nat.sub_self, List.drop_eq_getElem_cons (by omega), List.set_cons_zero, List.take_succ_eq_append_getElem hj]
  simp only [List.append_assoc, List.cons_append, List.nil_append, Nat.add_assoc]
set_option maxHeartbeats 4000000 in
set_option maxRecDepth 100000 in
theorem refSet (A : Option Addr) (n c : Nat) (l : List UInt8) (k : Nat) (A2 : Option Addr) (n2 c2 : Nat) (r : List UInt8) (w : World) (h : Rb w A n c l) (h2 : Rb w A2 n2 c2 r) (hk : k + n2 ≤ n) (hn : 0 < n) (hm : n ≤ 549755813888) :
    Calls Try.prog 171 #[.slice A n c, .int .i64 (k : Int), .slice A2 n2 c2] w (RetB w (setB l k r)) := by
  have hl := Lib.hid h.1
  have hr := Lib.hid h2.1
  go_enter Try.func171, Try.ntmps171
  go_upto_block 0 with (at_builtin; refine wpList_app0 bt rfl (.tmp 9) (.tmp 10) rfl rfl rfl rfl h (by omega) ?_; intro A1 n1 c1 bs1 d1 ho1)
  obtain rfl : n1 = n := by rw [← ho1.1, hl.out]
  obtain ⟨g, cap, hv, hgb, hgl⟩ := ho1.2.form hn
  injection hv with e1 e2 e3
  subst e1 e3
  have hbe1 : Below w.heap.size w (plus w bs1 d1) := below_plus _ _ _
  generalize plus w bs1 d1 = W at *
  go_wp2
  go_loopw [8] (fun i wr => ∃ j : Nat, j ≤ n2 ∧ i = .int .i64 j ∧ Ob wr w.heap.size (some ⟨g, 0, none⟩) n1 c1 (setB l k (r.take j)) ∧ Below w.heap.size w wr) (fun i _ => n2 - (intOf i).toNat)
  case atStart => exact ⟨0, by omega, rfl, by simpa [setB] using ho1, hbe1⟩
  case round =>
    clear ho1 hbe1
    obtain ⟨j, hj, rfl, ho, hb⟩ := hrel
    by_cases hlt : j < n2
    · obtain ⟨b, off, rfl, hbl, hcell⟩ := h2.2.2.at_ (by rw [bcs_length, hr.out]; omega)
      have hjr : j < r.length := by rw [hr.out]; exact hlt
      have q1 : wr.cell? ⟨b, off + j, none⟩ = some (.int .u8 (r[j].toNat : Int)) := by
        rw [hb.cell (p := ⟨b, off + j, none⟩) hbl]
        exact hcell j _ (bcs_get r j hjr)
      have q2 : wr.cell? ⟨g, k + j, none⟩ = some (.int .u8 ((setB l k (r.take j))[k + j]'(by rw [setB_length _ _ _ (by simp [hl.out]; omega), hl.out]; omega)).toNat) := by
        rw [ho.2.cellAt (k + j) (by omega), bcs_get]
      have q3 := ho.2.frozenAt (k + j)
      have zg := lt_of_cell q2
      have HS := Lib.hid (setB_step l r k j hjr (by rw [hl.out, hr.out]; omega))
      clear hcell
      generalize (setB l k (r.take j))[k + j]'(_) = old at *
      go_wp2
      go_roundw
      case rel =>
        refine ⟨j + 1, by omega, by go_num, ?_, hb.setCell (p := ⟨g, k + j, none⟩) hgb _⟩
        have h5 := (ho.2.stored (k + j) (.int .u8 (r[j].toNat : Int))).1
        rw [bcs_set, HS.out] at h5
        exact ⟨by rw [setB_length _ _ _ (by simp [hl.out]; omega)]; exact hl.out, h5⟩
      case measure => simp [intOf]; omega
    · obtain rfl : j = n2 := by omega
      go_wp2
      go_ret
      rw [List.take_of_length_le (by rw [hr.out]; omega)] at ho
      exact RetB.mk ho hb
end Go.Proofs.Ytfmkndemkpecpaa

/- addr.Right; headers of IPv4: Size, Right. -/
namespace Go.Proofs.Ytfmkndemkpecpaa
open Go.RowKit
set_option linter.unusedVariables false
set_option linter.unusedSimpArgs false
attribute [local go_sem ↓] sliced_cut

attribute [local go_sem] cutA_zero

def h4C (ts : Nat) (ln : Int) (id : Nat) (st mo : Bool) (fo : Int) (tl pr sm : Nat) (s6 : Bool) (sh sl : Nat) (d6 : Bool) (dh dl : Nat) (A : Option Addr) (n k : Nat) : List Value := [.int .u8 (ts : Int), .int .i64 ln, .int .u16 (id : Int), .bool st, .bool mo, .int .i64 fo, .int .u8 (tl : Int), .int .u8 (pr : Int), .int .u16 (sm : Int), .bool s6, .int .u64 (sh : Int), .int .u64 (sl : Int), .bool d6, .int .u64 (dh : Int), .int .u64 (dl : Int), .slice A n k]
theorem h4C_one (ts : Nat) (ln : Int) (id : Nat) (st mo : Bool) (fo : Int) (tl pr sm : Nat) (s6 : Bool) (sh sl : Nat) (d6 : Bool) (dh dl : Nat) (A : Option Addr) (n k : Nat) : ∀ u ∈ h4C ts ln id st mo fo tl pr sm s6 sh sl d6 dh dl A n k, u.oneCell' = true := by
  intro u hu
  simp only [h4C, List.mem_cons, List.not_mem_nil, or_false] at hu
  rcases hu with rfl | rfl | rfl | rfl | rfl | rfl | rfl | rfl | rfl | rfl | rfl | rfl | rfl | rfl | rfl | rfl <;> rfl
theorem szH4 (ts : Nat) (ln : Int) (id : Nat) (st mo : Bool) (fo : Int) (tl pr sm : Nat) (s6 : Bool) (sh sl : Nat) (d6 : Bool) (dh dl : Nat) (A : Option Addr) (n k : Nat) : (Try.prog.info? 140).map (·.size) = some (h4C ts ln id st mo fo tl pr sm s6 sh sl d6 dh dl A n k).length := by kernel_rfl
theorem rowH4 : ∃ d, Try.prog.underlying 140 = some d ∧ d.isRow = true := ⟨_, Try.underlying140, rfl⟩
theorem szR4 (ts : Nat) (ln : Int) (id : Nat) (st mo : Bool) (fo : Int) (tl pr sm : Nat) (s6 : Bool) (sh sl : Nat) (d6 : Bool) (dh dl : Nat) (A : Option Addr) (n k : Nat) : (Try.prog.info? 184).map (·.size) = some (h4C ts ln id st mo fo tl pr sm s6 sh sl d6 dh dl A n k).length := by kernel_rfl
theorem rowR4 : ∃ d, Try.prog.underlying 184 = some d ∧ d.isRow = true := ⟨_, Try.underlying184, rfl⟩
/-- may an address of version 4 be? -/
def ad4 (six : Bool) (h l : Nat) : Bool := !six && (decide (h = 0) && decide (l < 4294967296))
set_option maxRecDepth 100000 in
theorem adrRightF (h l : Nat) (w : World) (h1 : h < 18446744073709551616) (h2 : l < 18446744073709551616) : Calls Try.prog 176 #[.agg #[.bool false, .int .u64 (h : Int), .int .u64 (l : Int)]] w (RetV w (.bool (ad4 false h l))) := by
  by_cases c1 : h = 0
  · subst c1
    by_cases c2 : l < 4294967296
    · have t1 : decide (l < 4294967296) = true := by simp; omega
      have hz : Hid (ad4 false 0 l = true) := Lib.hid (by simp [ad4]; omega)
      go_enter Try.func176, Try.ntmps176
      go_wp2
      go_ret
      exact RetV.is_ (by rw [hz.out]; simp; try omega) (Below.allocS (Below.refl _ _) _)
    · have t1 : decide (l < 4294967296) = false := by simp; omega
      have hz : Hid (ad4 false 0 l = false) := Lib.hid (by simp [ad4]; omega)
      go_enter Try.func176, Try.ntmps176
      go_wp2
      go_ret
      exact RetV.is_ (by rw [hz.out]; simp; try omega) (Below.allocS (Below.refl _ _) _)
  · have t1 : ((h : Int) == 0) = false := by rw [beq_eq_false_iff_ne]; omega
    have hz : Hid (ad4 false h l = false) := Lib.hid (by simp [ad4, c1])
    clear c1
    go_enter Try.func176, Try.ntmps176
    go_wp2
    go_ret
    exact RetV.is_ (by rw [hz.out]; simp; try omega) (Below.allocS (Below.refl _ _) _)
set_option maxRecDepth 100000 in
theorem refAdrRightF (h l : Nat) (w : World) (h1 : h < 18446744073709551616) (h2 : l < 18446744073709551616) : Calls Try.prog 170 #[.agg #[.bool false, .int .u64 (h : Int), .int .u64 (l : Int)]] w (RetV w (.bool (ad4 false h l))) := by
  by_cases c1 : h = 0
  · subst c1
    by_cases c2 : l < 4294967296
    · have t1 : decide (l ≤ 4294967295) = true := by simp; omega
      have hz : Hid (ad4 false 0 l = true) := Lib.hid (by simp [ad4]; omega)
      go_enter Try.func170, Try.ntmps170
      go_wp2
      go_ret
      exact RetV.is_ (by rw [hz.out]; simp; try omega) (Below.allocS (Below.refl _ _) _)
    · have t1 : decide (l ≤ 4294967295) = false := by simp; omega
      have hz : Hid (ad4 false 0 l = false) := Lib.hid (by simp [ad4]; omega)
      go_enter Try.func170, Try.ntmps170
      go_wp2
      go_ret
      exact RetV.is_ (by rw [hz.out]; simp; try omega) (Below.allocS (Below.refl _ _) _)
  · have t1 : ((h : Int) == 0) = false := by rw [beq_eq_false_iff_ne]; omega
    have hz : Hid (ad4 false h l = false) := Lib.hid (by simp [ad4, c1])
    clear c1
    go_enter Try.func170, Try.ntmps170
    go_wp2
    go_ret
    exact RetV.is_ (by rw [hz.out]; simp; try omega) (Below.allocS (Below.refl _ _) _)
theorem valid4 (six : Bool) (h l : Nat) (w : World) (h1 : h < 18446744073709551616) (h2 : l < 18446744073709551616) : Calls Try.prog 150 #[.agg (adC six h l).toArray] w (RetV w (.bool (ad4 six h l))) := by
  have HA := Lib.hid (fun w => adrRightF h l w h1 h2)
  unfold adC
  cases six
  · generalize ad4 false h l = q at *
    go_enter Try.func150, Try.ntmps150
    go_wp2_with (go_at_call 176; refine (HA.out _).mono ?_; rintro e w1 ⟨bs1, d1, rfl, rfl⟩)
    go_ret
    exact RetV.is_ rfl (belowP (Below.allocS (Below.refl _ _) _) _ _)
  · go_enter Try.func150, Try.ntmps150
    go_wp2
    go_ret
    exact RetV.is_ rfl (Below.allocS (Below.refl _ _) _)
set_option maxRecDepth 100000 in
theorem size4 (ts : Nat) (ln : Int) (id : Nat) (st mo : Bool) (fo : Int) (tl pr sm : Nat) (s6 : Bool) (sh sl : Nat) (d6 : Bool) (dh dl : Nat) (A : Option Addr) (n k : Nat) (w : World) (hn : n ≤ 1000000) : Calls Try.prog 107 #[.agg (h4C ts ln id st mo fo tl pr sm s6 sh sl d6 dh dl A n k).toArray] w (RetV w (.int .i64 ((20 + n : Nat) : Int))) := by
  unfold h4C
  go_enter Try.func107, Try.ntmps107
  go_wp2
  go_ret
  exact RetV.is_ (by simp) (Below.allocS (Below.refl _ _) _)
def r4 (n : Nat) (ln fo : Int) (s6 : Bool) (sh sl : Nat) (d6 : Bool) (dh dl : Nat) : Bool := decide (n ≤ 40) && (decide (n % 4 = 0) && (decide (20 + (n : Int) ≤ ln) && (decide (ln ≤ 65535) && (decide (0 ≤ fo) && (decide (fo ≤ 8191) && (ad4 s6 sh sl && ad4 d6 dh dl))))))
set_option maxHeartbeats 4000000 in
set_option maxRecDepth 100000 in
theorem right4 (ts : Nat) (ln : Int) (id : Nat) (st mo : Bool) (fo : Int) (tl pr sm : Nat) (s6 : Bool) (sh sl : Nat) (d6 : Bool) (dh dl : Nat) (A : Option Addr) (n k : Nat) (w : World) (hn : n ≤ 1000000) (hi : -9223372036854775808 ≤ ln ∧ ln ≤ 9223372036854775807) (hf : -9223372036854775808 ≤ fo ∧ fo ≤ 9223372036854775807) (k1 : sh < 18446744073709551616) (k2 : sl < 18446744073709551616) (k3 : dh < 18446744073709551616) (k4 : dl < 18446744073709551616) : Calls Try.prog 108 #[.agg (h4C ts ln id st mo fo tl pr sm s6 sh sl d6 dh dl A n k).toArray] w (RetV w (.bool (r4 n ln fo s6 sh sl d6 dh dl))) := by
  obtain ⟨du, u1, u2⟩ := rowH4
  obtain ⟨dv, v1, v2⟩ := rowAd
  have HS := Lib.hid (fun w => size4 ts ln id st mo fo tl pr sm s6 sh sl d6 dh dl A n k w hn)
  have HV1 := Lib.hid (fun w => valid4 s6 sh sl w k1 k2)
  have HV2 := Lib.hid (fun w => valid4 d6 dh dl w k3 k4)
  obtain ⟨z, hz0⟩ : ∃ z : Nat, z = 20 + n := ⟨_, rfl⟩
  rw [← hz0] at HS
  have hb : Bk (w.alloc (.cells (h4C ts ln id st mo fo tl pr sm s6 sh sl d6 dh dl A n k).toArray 140)) w.heap.size 140 (h4C ts ln id st mo fo tl pr sm s6 sh sl d6 dh dl A n k) := Bk.new w 140 (h4C ts ln id st mo fo tl pr sm s6 sh sl d6 dh dl A n k).toArray
  have q1 : (w.alloc (.cells (h4C ts ln id st mo fo tl pr sm s6 sh sl d6 dh dl A n k).toArray 140)).cell? ⟨w.heap.size, 1, none⟩ = some (.int .i64 ln) := hb.cell 1
  have q5 : (w.alloc (.cells (h4C ts ln id st mo fo tl pr sm s6 sh sl d6 dh dl A n k).toArray 140)).cell? ⟨w.heap.size, 5, none⟩ = some (.int .i64 fo) := hb.cell 5
  have q15 : (w.alloc (.cells (h4C ts ln id st mo fo tl pr sm s6 sh sl d6 dh dl A n k).toArray 140)).cell? ⟨w.heap.size, 15, none⟩ = some (.slice A n k) := hb.cell 15
  go_enter Try.func108, Try.ntmps108
  by_cases c0 : n ≤ 40
  · skip
    have t00 := Lib.hid (show decide (n ≤ 40) = true from by simp only [decide_eq_true_eq, decide_eq_false_iff_not]; omega)
    have t01 := Lib.hid (show decide (40 < n) = false from by simp only [decide_eq_true_eq, decide_eq_false_iff_not]; omega)
    have t02 := Lib.hid (show decide ((n : Int) ≤ 40) = true from by simp only [decide_eq_true_eq, decide_eq_false_iff_not]; omega)
    have t03 := Lib.hid (show decide (40 < (n : Int)) = false from by simp only [decide_eq_true_eq, decide_eq_false_iff_not]; omega)
    by_cases c1 : n % 4 = 0
    · skip
      have t10 := Lib.hid (show ((n : Int) % 4 == 0) = true from by rw [beq_iff_eq]; omega)
      by_cases c2 : 20 + (n : Int) ≤ ln
      · skip
        have t20 := Lib.hid (show decide (20 + (n : Int) ≤ ln) = true from by simp only [decide_eq_true_eq, decide_eq_false_iff_not]; omega)
        have t21 := Lib.hid (show decide (ln < 20 + (n : Int)) = false from by simp only [decide_eq_true_eq, decide_eq_false_iff_not]; omega)
        have t22 := Lib.hid (show decide ((z : Int) ≤ ln) = true from by simp only [decide_eq_true_eq, decide_eq_false_iff_not]; omega)
        by_cases c3 : ln ≤ 65535
        · skip
          have t30 := Lib.hid (show decide (ln ≤ 65535) = true from by simp only [decide_eq_true_eq, decide_eq_false_iff_not]; omega)
          have t31 := Lib.hid (show decide (65535 < ln) = false from by simp only [decide_eq_true_eq, decide_eq_false_iff_not]; omega)
          by_cases c4 : 0 ≤ fo
          · skip
            have t40 := Lib.hid (show decide (0 ≤ fo) = true from by simp only [decide_eq_true_eq, decide_eq_false_iff_not]; omega)
            have t41 := Lib.hid (show decide (fo < 0) = false from by simp only [decide_eq_true_eq, decide_eq_false_iff_not]; omega)
            by_cases c5 : fo ≤ 8191
            · skip
              have t50 := Lib.hid (show decide (fo ≤ 8191) = true from by simp only [decide_eq_true_eq, decide_eq_false_iff_not]; omega)
              have t51 := Lib.hid (show decide (8191 < fo) = false from by simp only [decide_eq_true_eq, decide_eq_false_iff_not]; omega)
              have hz : Hid (r4 n ln fo s6 sh sl d6 dh dl = (ad4 s6 sh sl && ad4 d6 dh dl)) := Lib.hid (by unfold r4; simp only [c0, c1, c2, c3, c4, c5, decide_true, decide_false, Bool.true_and, Bool.false_and, Bool.and_false])
              clear c0 c1 c2 c3 c4 c5
              replace t00 := t00.out
              replace t01 := t01.out
              replace t02 := t02.out
              replace t03 := t03.out
              replace t10 := t10.out
              replace t20 := t20.out
              replace t21 := t21.out
              replace t22 := t22.out
              replace t30 := t30.out
              replace t31 := t31.out
              replace t40 := t40.out
              replace t41 := t41.out
              replace t50 := t50.out
              replace t51 := t51.out
              cases hq : ad4 s6 sh sl
              · rw [hq] at HV1 hz
                go_wp2
                refine wp_plus (by kernel_rfl) (by kernel_rfl) ?_
                repeat (first
                  | (go_big_quiet_want; refine at_opQ (.load 140 (.tmp 1)) rfl ?_; refine quiet_ldA (t := 140) 140 (.tmp 1) rfl (h4C ts ln id st mo fo tl pr sm s6 sh sl d6 dh dl A n k) rfl (fun w' hw' => by obtain ⟨x, rfl⟩ := hw'; exact hb.later (below_plus _ _ _)) (whole_ _) u1 u2 (szH4 _ _ _ _ _ _ _ _ _ _ _ _ _ _ _ _ _ _) ?_; simp only [Act.put, List.setIfInBounds_toArray, List.set_cons_zero, List.set_cons_succ]; go_big_quiet_on)
                  | (go_big_quiet_want; refine at_opQ (.load 26 (.tmp 37)) rfl ?_; refine quiet_ldA (t := 140) 26 (.tmp 37) rfl (adC s6 sh sl) rfl (fun w' hw' => by obtain ⟨x, rfl⟩ := hw'; exact hb.later (below_plus _ _ _)) (rfl) v1 v2 (szAd _ _ _) ?_; simp only [Act.put, List.setIfInBounds_toArray, List.set_cons_zero, List.set_cons_succ]; go_big_quiet_on)
                  | (go_big_quiet_want; refine at_opQ (.load 26 (.tmp 42)) rfl ?_; refine quiet_ldA (t := 140) 26 (.tmp 42) rfl (adC d6 dh dl) rfl (fun w' hw' => by obtain ⟨x, rfl⟩ := hw'; exact hb.later (below_plus _ _ _)) (rfl) v1 v2 (szAd _ _ _) ?_; simp only [Act.put, List.setIfInBounds_toArray, List.set_cons_zero, List.set_cons_succ]; go_big_quiet_on)
                  | go_big_quiet_step (first
                    | (go_at_call 107; exact callP (HS.out _))
                    | (go_at_call 150; first | with_reducible exact callP (HV1.out _) | with_reducible exact callP (HV2.out _))))
                refine wpQuiet_nil ?_
                rintro _ ⟨x, rfl⟩
                go_wp2
                go_ret
                exact RetV.is_ (by rw [hz.out]; simp) (belowP (Below.allocS (Below.refl _ _) _) _ _)
              · rw [hq] at HV1 hz
                go_wp2
                refine wp_plus (by kernel_rfl) (by kernel_rfl) ?_
                repeat (first
                  | (go_big_quiet_want; refine at_opQ (.load 140 (.tmp 1)) rfl ?_; refine quiet_ldA (t := 140) 140 (.tmp 1) rfl (h4C ts ln id st mo fo tl pr sm s6 sh sl d6 dh dl A n k) rfl (fun w' hw' => by obtain ⟨x, rfl⟩ := hw'; exact hb.later (below_plus _ _ _)) (whole_ _) u1 u2 (szH4 _ _ _ _ _ _ _ _ _ _ _ _ _ _ _ _ _ _) ?_; simp only [Act.put, List.setIfInBounds_toArray, List.set_cons_zero, List.set_cons_succ]; go_big_quiet_on)
                  | (go_big_quiet_want; refine at_opQ (.load 26 (.tmp 37)) rfl ?_; refine quiet_ldA (t := 140) 26 (.tmp 37) rfl (adC s6 sh sl) rfl (fun w' hw' => by obtain ⟨x, rfl⟩ := hw'; exact hb.later (below_plus _ _ _)) (rfl) v1 v2 (szAd _ _ _) ?_; simp only [Act.put, List.setIfInBounds_toArray, List.set_cons_zero, List.set_cons_succ]; go_big_quiet_on)
                  | (go_big_quiet_want; refine at_opQ (.load 26 (.tmp 42)) rfl ?_; refine quiet_ldA (t := 140) 26 (.tmp 42) rfl (adC d6 dh dl) rfl (fun w' hw' => by obtain ⟨x, rfl⟩ := hw'; exact hb.later (below_plus _ _ _)) (rfl) v1 v2 (szAd _ _ _) ?_; simp only [Act.put, List.setIfInBounds_toArray, List.set_cons_zero, List.set_cons_succ]; go_big_quiet_on)
                  | go_big_quiet_step (first
                    | (go_at_call 107; exact callP (HS.out _))
                    | (go_at_call 150; first | with_reducible exact callP (HV1.out _) | with_reducible exact callP (HV2.out _))))
                refine wpQuiet_nil ?_
                rintro _ ⟨x, rfl⟩
                go_wp2
                go_ret
                exact RetV.is_ (by rw [hz.out]; simp) (belowP (Below.allocS (Below.refl _ _) _) _ _)
            · skip
              have t50 := Lib.hid (show decide (fo ≤ 8191) = false from by simp only [decide_eq_true_eq, decide_eq_false_iff_not]; omega)
              have t51 := Lib.hid (show decide (8191 < fo) = true from by simp only [decide_eq_true_eq, decide_eq_false_iff_not]; omega)
              have hz : Hid (r4 n ln fo s6 sh sl d6 dh dl = (false)) := Lib.hid (by unfold r4; simp only [c0, c1, c2, c3, c4, c5, decide_true, decide_false, Bool.true_and, Bool.false_and, Bool.and_false])
              clear c0 c1 c2 c3 c4 c5
              replace t00 := t00.out
              replace t01 := t01.out
              replace t02 := t02.out
              replace t03 := t03.out
              replace t10 := t10.out
              replace t20 := t20.out
              replace t21 := t21.out
              replace t22 := t22.out
              replace t30 := t30.out
              replace t31 := t31.out
              replace t40 := t40.out
              replace t41 := t41.out
              replace t50 := t50.out
              replace t51 := t51.out
              go_wp2
              refine wp_plus (by kernel_rfl) (by kernel_rfl) ?_
              repeat (first
                | (go_big_quiet_want; refine at_opQ (.load 140 (.tmp 1)) rfl ?_; refine quiet_ldA (t := 140) 140 (.tmp 1) rfl (h4C ts ln id st mo fo tl pr sm s6 sh sl d6 dh dl A n k) rfl (fun w' hw' => by obtain ⟨x, rfl⟩ := hw'; exact hb.later (below_plus _ _ _)) (whole_ _) u1 u2 (szH4 _ _ _ _ _ _ _ _ _ _ _ _ _ _ _ _ _ _) ?_; simp only [Act.put, List.setIfInBounds_toArray, List.set_cons_zero, List.set_cons_succ]; go_big_quiet_on)
                | (go_big_quiet_want; refine at_opQ (.load 26 (.tmp 37)) rfl ?_; refine quiet_ldA (t := 140) 26 (.tmp 37) rfl (adC s6 sh sl) rfl (fun w' hw' => by obtain ⟨x, rfl⟩ := hw'; exact hb.later (below_plus _ _ _)) (rfl) v1 v2 (szAd _ _ _) ?_; simp only [Act.put, List.setIfInBounds_toArray, List.set_cons_zero, List.set_cons_succ]; go_big_quiet_on)
                | (go_big_quiet_want; refine at_opQ (.load 26 (.tmp 42)) rfl ?_; refine quiet_ldA (t := 140) 26 (.tmp 42) rfl (adC d6 dh dl) rfl (fun w' hw' => by obtain ⟨x, rfl⟩ := hw'; exact hb.later (below_plus _ _ _)) (rfl) v1 v2 (szAd _ _ _) ?_; simp only [Act.put, List.setIfInBounds_toArray, List.set_cons_zero, List.set_cons_succ]; go_big_quiet_on)
                | go_big_quiet_step (first
                  | (go_at_call 107; exact callP (HS.out _))
                  | (go_at_call 150; first | with_reducible exact callP (HV1.out _) | with_reducible exact callP (HV2.out _))))
              refine wpQuiet_nil ?_
              rintro _ ⟨x, rfl⟩
              go_wp2
              go_ret
              exact RetV.is_ (by rw [hz.out]; simp) (belowP (Below.allocS (Below.refl _ _) _) _ _)
          · skip
            have t40 := Lib.hid (show decide (0 ≤ fo) = false from by simp only [decide_eq_true_eq, decide_eq_false_iff_not]; omega)
            have t41 := Lib.hid (show decide (fo < 0) = true from by simp only [decide_eq_true_eq, decide_eq_false_iff_not]; omega)
            have hz : Hid (r4 n ln fo s6 sh sl d6 dh dl = (false)) := Lib.hid (by unfold r4; simp only [c0, c1, c2, c3, c4, decide_true, decide_false, Bool.true_and, Bool.false_and, Bool.and_false])
            clear c0 c1 c2 c3 c4
            replace t00 := t00.out
            replace t01 := t01.out
            replace t02 := t02.out
            replace t03 := t03.out
            replace t10 := t10.out
            replace t20 := t20.out
            replace t21 := t21.out
            replace t22 := t22.out
            replace t30 := t30.out
            replace t31 := t31.out
            replace t40 := t40.out
            replace t41 := t41.out
            go_wp2
            refine wp_plus (by kernel_rfl) (by kernel_rfl) ?_
            repeat (first
              | (go_big_quiet_want; refine at_opQ (.load 140 (.tmp 1)) rfl ?_; refine quiet_ldA (t := 140) 140 (.tmp 1) rfl (h4C ts ln id st mo fo tl pr sm s6 sh sl d6 dh dl A n k) rfl (fun w' hw' => by obtain ⟨x, rfl⟩ := hw'; exact hb.later (below_plus _ _ _)) (whole_ _) u1 u2 (szH4 _ _ _ _ _ _ _ _ _ _ _ _ _ _ _ _ _ _) ?_; simp only [Act.put, List.setIfInBounds_toArray, List.set_cons_zero, List.set_cons_succ]; go_big_quiet_on)
              | (go_big_quiet_want; refine at_opQ (.load 26 (.tmp 37)) rfl ?_; refine quiet_ldA (t := 140) 26 (.tmp 37) rfl (adC s6 sh sl) rfl (fun w' hw' => by obtain ⟨x, rfl⟩ := hw'; exact hb.later (below_plus _ _ _)) (rfl) v1 v2 (szAd _ _ _) ?_; simp only [Act.put, List.setIfInBounds_toArray, List.set_cons_zero, List.set_cons_succ]; go_big_quiet_on)
              | (go_big_quiet_want; refine at_opQ (.load 26 (.tmp 42)) rfl ?_; refine quiet_ldA (t := 140) 26 (.tmp 42) rfl (adC d6 dh dl) rfl (fun w' hw' => by obtain ⟨x, rfl⟩ := hw'; exact hb.later (below_plus _ _ _)) (rfl) v1 v2 (szAd _ _ _) ?_; simp only [Act.put, List.setIfInBounds_toArray, List.set_cons_zero, List.set_cons_succ]; go_big_quiet_on)
              | go_big_quiet_step (first
                | (go_at_call 107; exact callP (HS.out _))
                | (go_at_call 150; first | with_reducible exact callP (HV1.out _) | with_reducible exact callP (HV2.out _))))
            refine wpQuiet_nil ?_
            rintro _ ⟨x, rfl⟩
            go_wp2
            go_ret
            exact RetV.is_ (by rw [hz.out]; simp) (belowP (Below.allocS (Below.refl _ _) _) _ _)
        · skip
          have t30 := Lib.hid (show decide (ln ≤ 65535) = false from by simp only [decide_eq_true_eq, decide_eq_false_iff_not]; omega)
          have t31 := Lib.hid (show decide (65535 < ln) = true from by simp only [decide_eq_true_eq, decide_eq_false_iff_not]; omega)
          have hz : Hid (r4 n ln fo s6 sh sl d6 dh dl = (false)) := Lib.hid (by unfold r4; simp only [c0, c1, c2, c3, decide_true, decide_false, Bool.true_and, Bool.false_and, Bool.and_false])
          clear c0 c1 c2 c3
          replace t00 := t00.out
          replace t01 := t01.out
          replace t02 := t02.out
          replace t03 := t03.out
          replace t10 := t10.out
          replace t20 := t20.out
          replace t21 := t21.out
          replace t22 := t22.out
          replace t30 := t30.out
          replace t31 := t31.out
          go_wp2
          refine wp_plus (by kernel_rfl) (by kernel_rfl) ?_
          repeat (first
            | (go_big_quiet_want; refine at_opQ (.load 140 (.tmp 1)) rfl ?_; refine quiet_ldA (t := 140) 140 (.tmp 1) rfl (h4C ts ln id st mo fo tl pr sm s6 sh sl d6 dh dl A n k) rfl (fun w' hw' => by obtain ⟨x, rfl⟩ := hw'; exact hb.later (below_plus _ _ _)) (whole_ _) u1 u2 (szH4 _ _ _ _ _ _ _ _ _ _ _ _ _ _ _ _ _ _) ?_; simp only [Act.put, List.setIfInBounds_toArray, List.set_cons_zero, List.set_cons_succ]; go_big_quiet_on)
            | (go_big_quiet_want; refine at_opQ (.load 26 (.tmp 37)) rfl ?_; refine quiet_ldA (t := 140) 26 (.tmp 37) rfl (adC s6 sh sl) rfl (fun w' hw' => by obtain ⟨x, rfl⟩ := hw'; exact hb.later (below_plus _ _ _)) (rfl) v1 v2 (szAd _ _ _) ?_; simp only [Act.put, List.setIfInBounds_toArray, List.set_cons_zero, List.set_cons_succ]; go_big_quiet_on)
            | (go_big_quiet_want; refine at_opQ (.load 26 (.tmp 42)) rfl ?_; refine quiet_ldA (t := 140) 26 (.tmp 42) rfl (adC d6 dh dl) rfl (fun w' hw' => by obtain ⟨x, rfl⟩ := hw'; exact hb.later (below_plus _ _ _)) (rfl) v1 v2 (szAd _ _ _) ?_; simp only [Act.put, List.setIfInBounds_toArray, List.set_cons_zero, List.set_cons_succ]; go_big_quiet_on)
            | go_big_quiet_step (first
              | (go_at_call 107; exact callP (HS.out _))
              | (go_at_call 150; first | with_reducible exact callP (HV1.out _) | with_reducible exact callP (HV2.out _))))
          refine wpQuiet_nil ?_
          rintro _ ⟨x, rfl⟩
          go_wp2
          go_ret
          exact RetV.is_ (by rw [hz.out]; simp) (belowP (Below.allocS (Below.refl _ _) _) _ _)
      · skip
        have t20 := Lib.hid (show decide (20 + (n : Int) ≤ ln) = false from by simp only [decide_eq_true_eq, decide_eq_false_iff_not]; omega)
        have t21 := Lib.hid (show decide (ln < 20 + (n : Int)) = true from by simp only [decide_eq_true_eq, decide_eq_false_iff_not]; omega)
        have t22 := Lib.hid (show decide ((z : Int) ≤ ln) = false from by simp only [decide_eq_true_eq, decide_eq_false_iff_not]; omega)
        have hz : Hid (r4 n ln fo s6 sh sl d6 dh dl = (false)) := Lib.hid (by unfold r4; simp only [c0, c1, c2, decide_true, decide_false, Bool.true_and, Bool.false_and, Bool.and_false])
        clear c0 c1 c2
        replace t00 := t00.out
        replace t01 := t01.out
        replace t02 := t02.out
        replace t03 := t03.out
        replace t10 := t10.out
        replace t20 := t20.out
        replace t21 := t21.out
        replace t22 := t22.out
        go_wp2
        refine wp_plus (by kernel_rfl) (by kernel_rfl) ?_
        repeat (first
          | (go_big_quiet_want; refine at_opQ (.load 140 (.tmp 1)) rfl ?_; refine quiet_ldA (t := 140) 140 (.tmp 1) rfl (h4C ts ln id st mo fo tl pr sm s6 sh sl d6 dh dl A n k) rfl (fun w' hw' => by obtain ⟨x, rfl⟩ := hw'; exact hb.later (below_plus _ _ _)) (whole_ _) u1 u2 (szH4 _ _ _ _ _ _ _ _ _ _ _ _ _ _ _ _ _ _) ?_; simp only [Act.put, List.setIfInBounds_toArray, List.set_cons_zero, List.set_cons_succ]; go_big_quiet_on)
          | (go_big_quiet_want; refine at_opQ (.load 26 (.tmp 37)) rfl ?_; refine quiet_ldA (t := 140) 26 (.tmp 37) rfl (adC s6 sh sl) rfl (fun w' hw' => by obtain ⟨x, rfl⟩ := hw'; exact hb.later (below_plus _ _ _)) (rfl) v1 v2 (szAd _ _ _) ?_; simp only [Act.put, List.setIfInBounds_toArray, List.set_cons_zero, List.set_cons_succ]; go_big_quiet_on)
          | (go_big_quiet_want; refine at_opQ (.load 26 (.tmp 42)) rfl ?_; refine quiet_ldA (t := 140) 26 (.tmp 42) rfl (adC d6 dh dl) rfl (fun w' hw' => by obtain ⟨x, rfl⟩ := hw'; exact hb.later (below_plus _ _ _)) (rfl) v1 v2 (szAd _ _ _) ?_; simp only [Act.put, List.setIfInBounds_toArray, List.set_cons_zero, List.set_cons_succ]; go_big_quiet_on)
          | go_big_quiet_step (first
            | (go_at_call 107; exact callP (HS.out _))
            | (go_at_call 150; first | with_reducible exact callP (HV1.out _) | with_reducible exact callP (HV2.out _))))
        refine wpQuiet_nil ?_
        rintro _ ⟨x, rfl⟩
        go_wp2
        go_ret
        exact RetV.is_ (by rw [hz.out]; simp) (belowP (Below.allocS (Below.refl _ _) _) _ _)
    · skip
      have t10 := Lib.hid (show ((n : Int) % 4 == 0) = false from by rw [beq_eq_false_iff_ne]; omega)
      have hz : Hid (r4 n ln fo s6 sh sl d6 dh dl = (false)) := Lib.hid (by unfold r4; simp only [c0, c1, decide_true, decide_false, Bool.true_and, Bool.false_and, Bool.and_false])
      clear c0 c1
      replace t00 := t00.out
      replace t01 := t01.out
      replace t02 := t02.out
      replace t03 := t03.out
      replace t10 := t10.out
      go_wp2
      refine wp_plus (by kernel_rfl) (by kernel_rfl) ?_
      repeat (first
        | (go_big_quiet_want; refine at_opQ (.load 140 (.tmp 1)) rfl ?_; refine quiet_ldA (t := 140) 140 (.tmp 1) rfl (h4C ts ln id st mo fo tl pr sm s6 sh sl d6 dh dl A n k) rfl (fun w' hw' => by obtain ⟨x, rfl⟩ := hw'; exact hb.later (below_plus _ _ _)) (whole_ _) u1 u2 (szH4 _ _ _ _ _ _ _ _ _ _ _ _ _ _ _ _ _ _) ?_; simp only [Act.put, List.setIfInBounds_toArray, List.set_cons_zero, List.set_cons_succ]; go_big_quiet_on)
        | (go_big_quiet_want; refine at_opQ (.load 26 (.tmp 37)) rfl ?_; refine quiet_ldA (t := 140) 26 (.tmp 37) rfl (adC s6 sh sl) rfl (fun w' hw' => by obtain ⟨x, rfl⟩ := hw'; exact hb.later (below_plus _ _ _)) (rfl) v1 v2 (szAd _ _ _) ?_; simp only [Act.put, List.setIfInBounds_toArray, List.set_cons_zero, List.set_cons_succ]; go_big_quiet_on)
        | (go_big_quiet_want; refine at_opQ (.load 26 (.tmp 42)) rfl ?_; refine quiet_ldA (t := 140) 26 (.tmp 42) rfl (adC d6 dh dl) rfl (fun w' hw' => by obtain ⟨x, rfl⟩ := hw'; exact hb.later (below_plus _ _ _)) (rfl) v1 v2 (szAd _ _ _) ?_; simp only [Act.put, List.setIfInBounds_toArray, List.set_cons_zero, List.set_cons_succ]; go_big_quiet_on)
        | go_big_quiet_step (first
          | (go_at_call 107; exact callP (HS.out _))
          | (go_at_call 150; first | with_reducible exact callP (HV1.out _) | with_reducible exact callP (HV2.out _))))
      refine wpQuiet_nil ?_
      rintro _ ⟨x, rfl⟩
      go_wp2
      go_ret
      exact RetV.is_ (by rw [hz.out]; simp) (belowP (Below.allocS (Below.refl _ _) _) _ _)
  · skip
    have t00 := Lib.hid (show decide (n ≤ 40) = false from by simp only [decide_eq_true_eq, decide_eq_false_iff_not]; omega)
    have t01 := Lib.hid (show decide (40 < n) = true from by simp only [decide_eq_true_eq, decide_eq_false_iff_not]; omega)
    have t02 := Lib.hid (show decide ((n : Int) ≤ 40) = false from by simp only [decide_eq_true_eq, decide_eq_false_iff_not]; omega)
    have t03 := Lib.hid (show decide (40 < (n : Int)) = true from by simp only [decide_eq_true_eq, decide_eq_false_iff_not]; omega)
    have hz : Hid (r4 n ln fo s6 sh sl d6 dh dl = (false)) := Lib.hid (by unfold r4; simp only [c0, decide_true, decide_false, Bool.true_and, Bool.false_and, Bool.and_false])
    clear c0
    replace t00 := t00.out
    replace t01 := t01.out
    replace t02 := t02.out
    replace t03 := t03.out
    go_wp2
    refine wp_plus (by kernel_rfl) (by kernel_rfl) ?_
    repeat (first
      | (go_big_quiet_want; refine at_opQ (.load 140 (.tmp 1)) rfl ?_; refine quiet_ldA (t := 140) 140 (.tmp 1) rfl (h4C ts ln id st mo fo tl pr sm s6 sh sl d6 dh dl A n k) rfl (fun w' hw' => by obtain ⟨x, rfl⟩ := hw'; exact hb.later (below_plus _ _ _)) (whole_ _) u1 u2 (szH4 _ _ _ _ _ _ _ _ _ _ _ _ _ _ _ _ _ _) ?_; simp only [Act.put, List.setIfInBounds_toArray, List.set_cons_zero, List.set_cons_succ]; go_big_quiet_on)
      | (go_big_quiet_want; refine at_opQ (.load 26 (.tmp 37)) rfl ?_; refine quiet_ldA (t := 140) 26 (.tmp 37) rfl (adC s6 sh sl) rfl (fun w' hw' => by obtain ⟨x, rfl⟩ := hw'; exact hb.later (below_plus _ _ _)) (rfl) v1 v2 (szAd _ _ _) ?_; simp only [Act.put, List.setIfInBounds_toArray, List.set_cons_zero, List.set_cons_succ]; go_big_quiet_on)
      | (go_big_quiet_want; refine at_opQ (.load 26 (.tmp 42)) rfl ?_; refine quiet_ldA (t := 140) 26 (.tmp 42) rfl (adC d6 dh dl) rfl (fun w' hw' => by obtain ⟨x, rfl⟩ := hw'; exact hb.later (below_plus _ _ _)) (rfl) v1 v2 (szAd _ _ _) ?_; simp only [Act.put, List.setIfInBounds_toArray, List.set_cons_zero, List.set_cons_succ]; go_big_quiet_on)
      | go_big_quiet_step (first
        | (go_at_call 107; exact callP (HS.out _))
        | (go_at_call 150; first | with_reducible exact callP (HV1.out _) | with_reducible exact callP (HV2.out _))))
    refine wpQuiet_nil ?_
    rintro _ ⟨x, rfl⟩
    go_wp2
    go_ret
    exact RetV.is_ (by rw [hz.out]; simp) (belowP (Below.allocS (Below.refl _ _) _) _ _)
end Go.Proofs.Ytfmkndemkpecpaa

/- Headers of IPv4: Bytes. -/
namespace Go.Proofs.Ytfmkndemkpecpaa
open Go.RowKit
set_option linter.unusedVariables false
set_option linter.unusedSimpArgs false
attribute [local go_sem ↓] sliced_cut

attribute [local go_sem] cutA_zero

/-- flags and offset -/
def pl4 (st mo : Bool) (fo : Nat) : Nat := fo + (if st then 16384 else 0) + (if mo then 8192 else 0)
def ip4B (ts ln id pl tl pr s sl dl : Nat) (o : List UInt8) : List UInt8 := (dig (69 + o.length / 4) 1 ++ dig ts 1 ++ dig ln 2 ++ dig id 2 ++ dig pl 2 ++ dig tl 1 ++ dig pr 1) ++ (dig s 2 ++ (dig sl 4 ++ dig dl 4 ++ o))
theorem ip4B_length (ts ln id pl tl pr s sl dl : Nat) (o : List UInt8) : (ip4B ts ln id pl tl pr s sl dl o).length = 20 + o.length := by simp [ip4B, dig_length]; omega
/-- the checksum -/
def ip4K (ts ln id pl tl pr sl dl : Nat) (o : List UInt8) : Nat := 65535 - fd (tot false (ip4B ts ln id pl tl pr 0 sl dl o))
theorem setB_mid (a b c x : List UInt8) (k : Nat) (hk : a.length = k) (hb : b.length = x.length) : setB (a ++ (b ++ c)) k x = a ++ (x ++ c) := by
  subst hk
  unfold setB
  rw [List.take_left' rfl, ← hb, ← List.append_assoc a b c, List.drop_left' (by simp), List.append_assoc]
theorem setB_ip4 (ts ln id pl tl pr s sl dl : Nat) (o : List UInt8) : setB (ip4B ts ln id pl tl pr 0 sl dl o) 10 (dig s 2) = ip4B ts ln id pl tl pr s sl dl o := by
  unfold ip4B
  exact setB_mid _ _ _ _ 10 (by simp [dig_length]) (by simp [dig_length])
theorem or14 (x : Nat) (h : x < 8192) : bits .or .u64 (x : Int) 16384 = ((x + 16384 : Nat) : Int) := by
  have e := u64_or_nat x 16384 (by omega) (by omega)
  rw [Nat.or_comm, nat_join 14 16384 x (by decide) (by omega), Nat.add_comm] at e
  exact e
theorem or13 (x : Nat) (h : x < 8192) : bits .or .u64 (x : Int) 8192 = ((x + 8192 : Nat) : Int) := by
  have e := u64_or_nat x 8192 (by omega) (by omega)
  rw [Nat.or_comm, nat_join 13 8192 x (by decide) (by omega), Nat.add_comm] at e
  exact e
theorem or1413 (x : Nat) (h : x < 8192) : bits .or .u64 ((x + 16384 : Nat) : Int) 8192 = ((x + 16384 + 8192 : Nat) : Int) := by
  have e := u64_or_nat (x + 16384) 8192 (by omega) (by omega)
  have e2 : (x + 16384) ||| 8192 = x + 16384 + 8192 := by
    rw [Nat.add_comm x 16384, ← nat_join 14 16384 x (by decide) (by omega), Nat.or_assoc, Nat.or_comm x 8192, nat_join 13 8192 x (by decide) (by omega), nat_join 14 16384 (8192 + x) (by decide) (by omega), nat_join 14 16384 x (by decide) (by omega)]
    omega
  rw [e2] at e
  exact e
theorem or64 : ∀ q : Fin 16, bits .or .i64 64 (q.val : Int) = ((64 + q.val : Nat) : Int) := by decide +kernel
theorem r4_yes (n ln fo sl dl : Nat) (c1 : n ≤ 40) (c2 : n % 4 = 0) (c3 : 20 + n ≤ ln) (c4 : ln ≤ 65535) (c5 : fo ≤ 8191) (b5 : sl < 4294967296) (b6 : dl < 4294967296) : r4 n (ln : Int) (fo : Int) false 0 sl false 0 dl = true := by
  simp [r4, ad4]
  omega
set_option maxHeartbeats 4000000 in
set_option maxRecDepth 100000 in
theorem ip4Bytes_nn (ts ln id : Nat) (fo tl pr sm sl dl : Nat) (A : Option Addr) (n k : Nat) (o : List UInt8) (w : World) (hr : Rb w A n k o) (b1 : ts < 256) (b2 : id < 65536) (b3 : tl < 256) (b4 : pr < 256) (b5 : sl < 4294967296) (b6 : dl < 4294967296) (c1 : n ≤ 40) (c2 : n % 4 = 0) (c3 : 20 + n ≤ ln) (c4 : ln ≤ 65535) (c5 : fo ≤ 8191) : Calls Try.prog 109 #[.agg (h4C ts (ln : Int) id false false (fo : Int) tl pr sm false 0 sl false 0 dl A n k).toArray] w (RetB w (ip4B ts ln id (pl4 false false fo) tl pr (ip4K ts ln id (pl4 false false fo) tl pr sl dl o) sl dl o)) := by
  obtain ⟨du, u1, u2⟩ := rowH4
  obtain ⟨dv, v1, v2⟩ := rowAd
  have HR := Lib.hid (fun w => right4 ts (ln : Int) id false false (fo : Int) tl pr sm false 0 sl false 0 dl A n k w (by omega) (by omega) (by omega) (by omega) (by omega) (by omega) (by omega))
  rw [r4_yes n ln fo sl dl c1 c2 c3 c4 c5 b5 b6] at HR
  have HS := Lib.hid (fun w => size4 ts (ln : Int) id false false (fo : Int) tl pr sm false 0 sl false 0 dl A n k w (by omega))
  obtain ⟨z, hz0⟩ : ∃ z : Nat, z = 20 + n := ⟨_, rfl⟩
  rw [← hz0] at HS
  obtain ⟨q, hq⟩ : ∃ q : Nat, q = 5 + n / 4 := ⟨_, rfl⟩
  have g1 : (z : Int).tdiv 4 = (q : Int) := by rw [Int.tdiv_eq_ediv_of_nonneg (by omega)]; omega
  have g2 : IntKind.i64.wrap (q : Int) = (q : Int) := IntWalk.i64_in _ (by omega)
  have g3 := or64 ⟨q, by omega⟩
  obtain ⟨x0, hx0⟩ : ∃ x : Nat, x = 64 + q := ⟨_, rfl⟩
  replace g3 : bits .or .i64 64 (q : Int) = (x0 : Int) := by rw [hx0]; exact g3
  have g4 : IntKind.u64.wrap (x0 : Int) = (x0 : Int) := IntWalk.u64_in _ (by omega)
  have g5 : IntKind.u64.wrap (ts : Int) = (ts : Int) := IntWalk.u64_in _ (by omega)
  have g6 : IntKind.u64.wrap (ln : Int) = (ln : Int) := IntWalk.u64_in _ (by omega)
  have g7 : IntKind.u64.wrap (id : Int) = (id : Int) := IntWalk.u64_in _ (by omega)
  have g8 : IntKind.u64.wrap (tl : Int) = (tl : Int) := IntWalk.u64_in _ (by omega)
  have g9 : IntKind.u64.wrap (pr : Int) = (pr : Int) := IntWalk.u64_in _ (by omega)
  obtain ⟨p, hp⟩ : ∃ p : Nat, p = fo := ⟨_, rfl⟩
  have fp : IntKind.u64.wrap (fo : Int) = (p : Int) := by rw [IntWalk.u64_in _ (by omega)]; omega
  have hpl : pl4 false false fo = p := by simp [pl4]; omega
  have hp6 : p < 65536 := by omega
  have hol := hr.1
  have hx1 : x0 = 69 + o.length / 4 := by omega
  have hb : Bk (w.alloc (.cells (h4C ts (ln : Int) id false false (fo : Int) tl pr sm false 0 sl false 0 dl A n k).toArray 140)) w.heap.size 140 (h4C ts (ln : Int) id false false (fo : Int) tl pr sm false 0 sl false 0 dl A n k) := Bk.new w 140 (h4C ts (ln : Int) id false false (fo : Int) tl pr sm false 0 sl false 0 dl A n k).toArray
  have be : Below w.heap.size w (w.alloc (.cells (h4C ts (ln : Int) id false false (fo : Int) tl pr sm false 0 sl false 0 dl A n k).toArray 140)) := Below.allocS (Below.refl _ _) _
  rw [hpl]
  replace hx1 := Lib.hid hx1
  replace hol := Lib.hid hol
  have hx9 : x0 < 256 := by omega
  clear hpl hx0 hz0 hq hp
  go_enter Try.func109, Try.ntmps109
  go_upto_region 1 with (fail)
  generalize w.alloc (.cells (h4C ts (ln : Int) id false false (fo : Int) tl pr sm false 0 sl false 0 dl A n k).toArray 140) = W at *
  have hrW := hr.later be
  have y0 : W.cell? ⟨w.heap.size, 0, none⟩ = some (.int .u8 (ts : Int)) := hb.cell 0
  have y1 : W.cell? ⟨w.heap.size, 1, none⟩ = some (.int .i64 (ln : Int)) := hb.cell 1
  have y2 : W.cell? ⟨w.heap.size, 2, none⟩ = some (.int .u16 (id : Int)) := hb.cell 2
  have y3 : W.cell? ⟨w.heap.size, 3, none⟩ = some (.bool false) := hb.cell 3
  have y4 : W.cell? ⟨w.heap.size, 4, none⟩ = some (.bool false) := hb.cell 4
  have y5 : W.cell? ⟨w.heap.size, 5, none⟩ = some (.int .i64 (fo : Int)) := hb.cell 5
  have y6 : W.cell? ⟨w.heap.size, 6, none⟩ = some (.int .u8 (tl : Int)) := hb.cell 6
  have y7 : W.cell? ⟨w.heap.size, 7, none⟩ = some (.int .u8 (pr : Int)) := hb.cell 7
  have y15 : W.cell? ⟨w.heap.size, 15, none⟩ = some (.slice A n k) := hb.cell 15
  have zb := hb.lt
  go_wp2_with (refine at_op (.load 140 (.tmp 1)) rfl ?_; refine wpList_ldA (t := 140) 140 (.tmp 1) rfl rfl (h4C ts (ln : Int) id false false (fo : Int) tl pr sm false 0 sl false 0 dl A n k) rfl (by with_reducible repeat (first | exact hb | refine Bk.later ?_ (below_plus _ _ _) | refine Bk.alloc ?_ _)) (whole_ _) u1 u2 (szH4 _ _ _ _ _ _ _ _ _ _ _ _ _ _ _ _ _ _) ?_)
  refine (HR.out _).mono ?_
  rintro e w1 ⟨bsr, mr, rfl, rfl⟩
  go_wp2_with (refine at_op (.load 140 (.tmp 1)) rfl ?_; refine wpList_ldA (t := 140) 140 (.tmp 1) rfl rfl (h4C ts (ln : Int) id false false (fo : Int) tl pr sm false 0 sl false 0 dl A n k) rfl (by with_reducible repeat (first | exact hb | refine Bk.later ?_ (below_plus _ _ _) | refine Bk.alloc ?_ _)) (whole_ _) u1 u2 (szH4 _ _ _ _ _ _ _ _ _ _ _ _ _ _ _ _ _ _) ?_)
  refine (HS.out _).mono ?_
  rintro e w1 ⟨bs0, m0, rfl, rfl⟩
  go_wp2_with fail
  refine (put_full _ _ _ [] x0 1 _ Rb.nil_ (by omega) (by omega) (by omega) (by omega)).mono ?_
  rintro e w1 ⟨A1, n1, bs1, m1, rfl, rfl, ho1⟩
  have l1 : n1 ≤ 100 := by rw [← ho1.1]; simp [dig_length]
  go_wp2_with fail
  refine (put_full _ _ _ _ ts 1 _ ho1.rb (by omega) (by omega) (by omega) (by omega)).mono ?_
  rintro e w1 ⟨A2, n2, bs2, m2, rfl, rfl, ho2⟩
  have l2 : n2 ≤ 100 := by rw [← ho2.1]; simp [dig_length]
  go_wp2_with fail
  refine (put_full _ _ _ _ ln 2 _ ho2.rb (by omega) (by omega) (by omega) (by omega)).mono ?_
  rintro e w1 ⟨A3, n3, bs3, m3, rfl, rfl, ho3⟩
  have l3 : n3 ≤ 100 := by rw [← ho3.1]; simp [dig_length]
  go_wp2_with fail
  refine (put_full _ _ _ _ id 2 _ ho3.rb (by omega) (by omega) (by omega) (by omega)).mono ?_
  rintro e w1 ⟨A4, n4, bs4, m4, rfl, rfl, ho4⟩
  have l4 : n4 ≤ 100 := by rw [← ho4.1]; simp [dig_length]
  go_wp2_with fail
  refine (put_full _ _ _ _ p 2 _ ho4.rb (by omega) (by omega) (by omega) (by omega)).mono ?_
  rintro e w1 ⟨A5, n5, bs5, m5, rfl, rfl, ho5⟩
  have l5 : n5 ≤ 100 := by rw [← ho5.1]; simp [dig_length]
  go_wp2_with fail
  refine (put_full _ _ _ _ tl 1 _ ho5.rb (by omega) (by omega) (by omega) (by omega)).mono ?_
  rintro e w1 ⟨A6, n6, bs6, m6, rfl, rfl, ho6⟩
  have l6 : n6 ≤ 100 := by rw [← ho6.1]; simp [dig_length]
  go_wp2_with fail
  refine (put_full _ _ _ _ pr 1 _ ho6.rb (by omega) (by omega) (by omega) (by omega)).mono ?_
  rintro e w1 ⟨A7, n7, bs7, m7, rfl, rfl, ho7⟩
  have l7 : n7 ≤ 100 := by rw [← ho7.1]; simp [dig_length]
  go_wp2_with fail
  refine (put_full _ _ _ _ 0 2 _ ho7.rb (by omega) (by omega) (by omega) (by omega)).mono ?_
  rintro e w1 ⟨A8, n8, bs8, m8, rfl, rfl, ho8⟩
  have l8 : n8 ≤ 100 := by rw [← ho8.1]; simp [dig_length]
  go_wp2_with (refine at_op (.load 26 (.tmp 56)) rfl ?_; refine wpList_ldA (t := 140) (cs := h4C ts (ln : Int) id false false (fo : Int) tl pr sm false 0 sl false 0 dl A n k) 26 (.tmp 56) rfl rfl (adC false 0 sl) rfl (by with_reducible repeat (first | exact hb | refine Bk.later ?_ (below_plus _ _ _) | refine Bk.alloc ?_ _)) rfl v1 v2 (szAd _ _ _) ?_)
  refine (adrBytes_any false 0 sl _ (by omega) (by omega)).mono ?_
  rintro e w1 ⟨A9, n9, bs9, m9, rfl, rfl, ho9⟩
  have l9 : n9 ≤ 100 := by rw [← ho9.1]; have := adrB_length false 0 sl; omega
  go_wp2_with (first
    | (at_builtin; refine wpList_appP _ bt rfl (.tmp 55) (.tmp 58) rfl (by exact belowP (below_plus _ bs8 m8) bs9 m9) rfl (ho8.plus_ bs9 m9) rfl (ho9.rb) (by omega) ?_; intro Aa na ka bsa ma hoa hga)
    | (refine at_op (.load 26 (.tmp 61)) rfl ?_; refine wpList_ldA (t := 140) (cs := h4C ts (ln : Int) id false false (fo : Int) tl pr sm false 0 sl false 0 dl A n k) 26 (.tmp 61) rfl rfl (adC false 0 dl) rfl (by with_reducible repeat (first | exact hb | refine Bk.later ?_ (below_plus _ _ _) | refine Bk.alloc ?_ _)) rfl v1 v2 (szAd _ _ _) ?_))
  have la : na ≤ 300 := by rw [← hoa.1]; have := adrB_length false 0 sl; simp [dig_length]; omega
  refine (adrBytes_any false 0 dl _ (by omega) (by omega)).mono ?_
  rintro e w1 ⟨Ab, nb, bsb, mb, rfl, rfl, hob⟩
  have lb : nb ≤ 100 := by rw [← hob.1]; have := adrB_length false 0 dl; omega
  go_wp2_with (first
    | (at_builtin; refine wpList_appP _ bt rfl (.tmp 60) (.tmp 63) rfl (by exact belowP (below_plus _ bsa ma) bsb mb) rfl (hoa.plus_ bsb mb) rfl (hob.rb) (by omega) ?_; intro Ac nc kc bsc mc hoc hgc; have lc : nc ≤ 500 := (by rw [← hoc.1]; have h1 := adrB_length false 0 sl; have h2 := adrB_length false 0 dl; simp [dig_length]; omega))
    | (at_builtin; refine wpList_appP (l2 := o) _ bt rfl (.tmp 65) (.tmp 67) rfl (by exact below_plus _ bsc mc) rfl (hoc) rfl (by with_reducible repeat (first | exact hrW | refine Rb.plus_ ?_ _ _)) (by omega) ?_; intro Ad nd kd bsd md hod hgd))
  have hL : [] ++ dig x0 1 ++ dig ts 1 ++ dig ln 2 ++ dig id 2 ++ dig p 2 ++ dig tl 1 ++ dig pr 1 ++ dig 0 2 ++ adrB false 0 sl ++ adrB false 0 dl ++ o = ip4B ts ln id p tl pr 0 sl dl o := by rw [hx1.out]; simp [ip4B, adrB]
  rw [hL] at hod
  have hset := Lib.hid (fun s => setB_ip4 ts ln id p tl pr s sl dl o)
  have hlen := ip4B_length ts ln id p tl pr 0 sl dl o
  have hK : Hid (ip4K ts ln id p tl pr sl dl o = 65535 - fd (tot false (ip4B ts ln id p tl pr 0 sl dl o))) := Lib.hid rfl
  clear hL
  generalize ip4B ts ln id p tl pr 0 sl dl o = L0 at *
  rw [hol.out] at hlen
  have HO := Lib.hid (fun w A1 c1 (h : RdL w A1 1 [L0]) => sumOf A1 1 c1 _ w h (by omega) (by simp; omega))
  have hs1 : 65535 - fd (tot false L0) ≤ 65535 := Nat.sub_le _ _
  have hfl : ([L0] : List (List UInt8)).flatten = L0 := by simp
  rw [hfl] at HO
  generalize 65535 - fd (tot false L0) = s at *
  have hnd1 : 10 + 2 ≤ nd := by have := hod.1; omega
  have hnd2 : nd ≤ 549755813888 := by have := hod.1; omega
  have hs2 : s < 18446744073709551616 := by omega
  have gs : IntKind.u64.wrap (s : Int) = (s : Int) := IntWalk.u64_in _ (by omega)
  refine (HO.out _ _ _ (RdL.litW [.slice Ad nd kd] [L0] (by simp [size_plus]) (.cons ⟨_, _, _, rfl, hod.rb⟩ .nil))).mono ?_
  rintro e w1 ⟨rfl, rfl⟩
  go_wp2_with fail
  refine (octSet Ad nd kd L0 10 s 2 _ (hod.rb.alloc _) hnd1 (by decide) (by decide) hs2 hnd2).mono ?_
  rintro e w1 ⟨Ae, ne, ke, bse, me, rfl, rfl, hoe⟩
  go_wp2
  go_ret
  rw [hset.out] at hoe
  rw [hK.out]
  refine RetB.mk (hoe.mono ?_) ?_
  · simp [size_plus]; omega
  · with_reducible repeat (first | exact be | refine belowP ?_ _ _ | refine Below.allocS ?_ _)
set_option maxHeartbeats 4000000 in
set_option maxRecDepth 100000 in
theorem ip4Bytes_ny (ts ln id : Nat) (fo tl pr sm sl dl : Nat) (A : Option Addr) (n k : Nat) (o : List UInt8) (w : World) (hr : Rb w A n k o) (b1 : ts < 256) (b2 : id < 65536) (b3 : tl < 256) (b4 : pr < 256) (b5 : sl < 4294967296) (b6 : dl < 4294967296) (c1 : n ≤ 40) (c2 : n % 4 = 0) (c3 : 20 + n ≤ ln) (c4 : ln ≤ 65535) (c5 : fo ≤ 8191) : Calls Try.prog 109 #[.agg (h4C ts (ln : Int) id false true (fo : Int) tl pr sm false 0 sl false 0 dl A n k).toArray] w (RetB w (ip4B ts ln id (pl4 false true fo) tl pr (ip4K ts ln id (pl4 false true fo) tl pr sl dl o) sl dl o)) := by
  obtain ⟨du, u1, u2⟩ := rowH4
  obtain ⟨dv, v1, v2⟩ := rowAd
  have HR := Lib.hid (fun w => right4 ts (ln : Int) id false true (fo : Int) tl pr sm false 0 sl false 0 dl A n k w (by omega) (by omega) (by omega) (by omega) (by omega) (by omega) (by omega))
  rw [r4_yes n ln fo sl dl c1 c2 c3 c4 c5 b5 b6] at HR
  have HS := Lib.hid (fun w => size4 ts (ln : Int) id false true (fo : Int) tl pr sm false 0 sl false 0 dl A n k w (by omega))
  obtain ⟨z, hz0⟩ : ∃ z : Nat, z = 20 + n := ⟨_, rfl⟩
  rw [← hz0] at HS
  obtain ⟨q, hq⟩ : ∃ q : Nat, q = 5 + n / 4 := ⟨_, rfl⟩
  have g1 : (z : Int).tdiv 4 = (q : Int) := by rw [Int.tdiv_eq_ediv_of_nonneg (by omega)]; omega
  have g2 : IntKind.i64.wrap (q : Int) = (q : Int) := IntWalk.i64_in _ (by omega)
  have g3 := or64 ⟨q, by omega⟩
  obtain ⟨x0, hx0⟩ : ∃ x : Nat, x = 64 + q := ⟨_, rfl⟩
  replace g3 : bits .or .i64 64 (q : Int) = (x0 : Int) := by rw [hx0]; exact g3
  have g4 : IntKind.u64.wrap (x0 : Int) = (x0 : Int) := IntWalk.u64_in _ (by omega)
  have g5 : IntKind.u64.wrap (ts : Int) = (ts : Int) := IntWalk.u64_in _ (by omega)
  have g6 : IntKind.u64.wrap (ln : Int) = (ln : Int) := IntWalk.u64_in _ (by omega)
  have g7 : IntKind.u64.wrap (id : Int) = (id : Int) := IntWalk.u64_in _ (by omega)
  have g8 : IntKind.u64.wrap (tl : Int) = (tl : Int) := IntWalk.u64_in _ (by omega)
  have g9 : IntKind.u64.wrap (pr : Int) = (pr : Int) := IntWalk.u64_in _ (by omega)
  have f1 := or13 fo (by omega)
  have fp : IntKind.u64.wrap (fo : Int) = (fo : Int) := IntWalk.u64_in _ (by omega)
  obtain ⟨p, hp⟩ : ∃ p : Nat, p = fo + 8192 := ⟨_, rfl⟩
  rw [← hp] at f1
  have hpl : pl4 false true fo = p := by simp [pl4]; omega
  have hp6 : p < 65536 := by omega
  have hol := hr.1
  have hx1 : x0 = 69 + o.length / 4 := by omega
  have hb : Bk (w.alloc (.cells (h4C ts (ln : Int) id false true (fo : Int) tl pr sm false 0 sl false 0 dl A n k).toArray 140)) w.heap.size 140 (h4C ts (ln : Int) id false true (fo : Int) tl pr sm false 0 sl false 0 dl A n k) := Bk.new w 140 (h4C ts (ln : Int) id false true (fo : Int) tl pr sm false 0 sl false 0 dl A n k).toArray
  have be : Below w.heap.size w (w.alloc (.cells (h4C ts (ln : Int) id false true (fo : Int) tl pr sm false 0 sl false 0 dl A n k).toArray 140)) := Below.allocS (Below.refl _ _) _
  rw [hpl]
  replace hx1 := Lib.hid hx1
  replace hol := Lib.hid hol
  have hx9 : x0 < 256 := by omega
  clear hpl hx0 hz0 hq hp
  go_enter Try.func109, Try.ntmps109
  go_upto_region 1 with (fail)
  generalize w.alloc (.cells (h4C ts (ln : Int) id false true (fo : Int) tl pr sm false 0 sl false 0 dl A n k).toArray 140) = W at *
  have hrW := hr.later be
  have y0 : W.cell? ⟨w.heap.size, 0, none⟩ = some (.int .u8 (ts : Int)) := hb.cell 0
  have y1 : W.cell? ⟨w.heap.size, 1, none⟩ = some (.int .i64 (ln : Int)) := hb.cell 1
  have y2 : W.cell? ⟨w.heap.size, 2, none⟩ = some (.int .u16 (id : Int)) := hb.cell 2
  have y3 : W.cell? ⟨w.heap.size, 3, none⟩ = some (.bool false) := hb.cell 3
  have y4 : W.cell? ⟨w.heap.size, 4, none⟩ = some (.bool true) := hb.cell 4
  have y5 : W.cell? ⟨w.heap.size, 5, none⟩ = some (.int .i64 (fo : Int)) := hb.cell 5
  have y6 : W.cell? ⟨w.heap.size, 6, none⟩ = some (.int .u8 (tl : Int)) := hb.cell 6
  have y7 : W.cell? ⟨w.heap.size, 7, none⟩ = some (.int .u8 (pr : Int)) := hb.cell 7
  have y15 : W.cell? ⟨w.heap.size, 15, none⟩ = some (.slice A n k) := hb.cell 15
  have zb := hb.lt
  go_wp2_with (refine at_op (.load 140 (.tmp 1)) rfl ?_; refine wpList_ldA (t := 140) 140 (.tmp 1) rfl rfl (h4C ts (ln : Int) id false true (fo : Int) tl pr sm false 0 sl false 0 dl A n k) rfl (by with_reducible repeat (first | exact hb | refine Bk.later ?_ (below_plus _ _ _) | refine Bk.alloc ?_ _)) (whole_ _) u1 u2 (szH4 _ _ _ _ _ _ _ _ _ _ _ _ _ _ _ _ _ _) ?_)
  refine (HR.out _).mono ?_
  rintro e w1 ⟨bsr, mr, rfl, rfl⟩
  go_wp2_with (refine at_op (.load 140 (.tmp 1)) rfl ?_; refine wpList_ldA (t := 140) 140 (.tmp 1) rfl rfl (h4C ts (ln : Int) id false true (fo : Int) tl pr sm false 0 sl false 0 dl A n k) rfl (by with_reducible repeat (first | exact hb | refine Bk.later ?_ (below_plus _ _ _) | refine Bk.alloc ?_ _)) (whole_ _) u1 u2 (szH4 _ _ _ _ _ _ _ _ _ _ _ _ _ _ _ _ _ _) ?_)
  refine (HS.out _).mono ?_
  rintro e w1 ⟨bs0, m0, rfl, rfl⟩
  go_wp2_with fail
  refine (put_full _ _ _ [] x0 1 _ Rb.nil_ (by omega) (by omega) (by omega) (by omega)).mono ?_
  rintro e w1 ⟨A1, n1, bs1, m1, rfl, rfl, ho1⟩
  have l1 : n1 ≤ 100 := by rw [← ho1.1]; simp [dig_length]
  go_wp2_with fail
  refine (put_full _ _ _ _ ts 1 _ ho1.rb (by omega) (by omega) (by omega) (by omega)).mono ?_
  rintro e w1 ⟨A2, n2, bs2, m2, rfl, rfl, ho2⟩
  have l2 : n2 ≤ 100 := by rw [← ho2.1]; simp [dig_length]
  go_wp2_with fail
  refine (put_full _ _ _ _ ln 2 _ ho2.rb (by omega) (by omega) (by omega) (by omega)).mono ?_
  rintro e w1 ⟨A3, n3, bs3, m3, rfl, rfl, ho3⟩
  have l3 : n3 ≤ 100 := by rw [← ho3.1]; simp [dig_length]
  go_wp2_with fail
  refine (put_full _ _ _ _ id 2 _ ho3.rb (by omega) (by omega) (by omega) (by omega)).mono ?_
  rintro e w1 ⟨A4, n4, bs4, m4, rfl, rfl, ho4⟩
  have l4 : n4 ≤ 100 := by rw [← ho4.1]; simp [dig_length]
  go_wp2_with fail
  refine (put_full _ _ _ _ p 2 _ ho4.rb (by omega) (by omega) (by omega) (by omega)).mono ?_
  rintro e w1 ⟨A5, n5, bs5, m5, rfl, rfl, ho5⟩
  have l5 : n5 ≤ 100 := by rw [← ho5.1]; simp [dig_length]
  go_wp2_with fail
  refine (put_full _ _ _ _ tl 1 _ ho5.rb (by omega) (by omega) (by omega) (by omega)).mono ?_
  rintro e w1 ⟨A6, n6, bs6, m6, rfl, rfl, ho6⟩
  have l6 : n6 ≤ 100 := by rw [← ho6.1]; simp [dig_length]
  go_wp2_with fail
  refine (put_full _ _ _ _ pr 1 _ ho6.rb (by omega) (by omega) (by omega) (by omega)).mono ?_
  rintro e w1 ⟨A7, n7, bs7, m7, rfl, rfl, ho7⟩
  have l7 : n7 ≤ 100 := by rw [← ho7.1]; simp [dig_length]
  go_wp2_with fail
  refine (put_full _ _ _ _ 0 2 _ ho7.rb (by omega) (by omega) (by omega) (by omega)).mono ?_
  rintro e w1 ⟨A8, n8, bs8, m8, rfl, rfl, ho8⟩
  have l8 : n8 ≤ 100 := by rw [← ho8.1]; simp [dig_length]
  go_wp2_with (refine at_op (.load 26 (.tmp 56)) rfl ?_; refine wpList_ldA (t := 140) (cs := h4C ts (ln : Int) id false true (fo : Int) tl pr sm false 0 sl false 0 dl A n k) 26 (.tmp 56) rfl rfl (adC false 0 sl) rfl (by with_reducible repeat (first | exact hb | refine Bk.later ?_ (below_plus _ _ _) | refine Bk.alloc ?_ _)) rfl v1 v2 (szAd _ _ _) ?_)
  refine (adrBytes_any false 0 sl _ (by omega) (by omega)).mono ?_
  rintro e w1 ⟨A9, n9, bs9, m9, rfl, rfl, ho9⟩
  have l9 : n9 ≤ 100 := by rw [← ho9.1]; have := adrB_length false 0 sl; omega
  go_wp2_with (first
    | (at_builtin; refine wpList_appP _ bt rfl (.tmp 55) (.tmp 58) rfl (by exact belowP (below_plus _ bs8 m8) bs9 m9) rfl (ho8.plus_ bs9 m9) rfl (ho9.rb) (by omega) ?_; intro Aa na ka bsa ma hoa hga)
    | (refine at_op (.load 26 (.tmp 61)) rfl ?_; refine wpList_ldA (t := 140) (cs := h4C ts (ln : Int) id false true (fo : Int) tl pr sm false 0 sl false 0 dl A n k) 26 (.tmp 61) rfl rfl (adC false 0 dl) rfl (by with_reducible repeat (first | exact hb | refine Bk.later ?_ (below_plus _ _ _) | refine Bk.alloc ?_ _)) rfl v1 v2 (szAd _ _ _) ?_))
  have la : na ≤ 300 := by rw [← hoa.1]; have := adrB_length false 0 sl; simp [dig_length]; omega
  refine (adrBytes_any false 0 dl _ (by omega) (by omega)).mono ?_
  rintro e w1 ⟨Ab, nb, bsb, mb, rfl, rfl, hob⟩
  have lb : nb ≤ 100 := by rw [← hob.1]; have := adrB_length false 0 dl; omega
  go_wp2_with (first
    | (at_builtin; refine wpList_appP _ bt rfl (.tmp 60) (.tmp 63) rfl (by exact belowP (below_plus _ bsa ma) bsb mb) rfl (hoa.plus_ bsb mb) rfl (hob.rb) (by omega) ?_; intro Ac nc kc bsc mc hoc hgc; have lc : nc ≤ 500 := (by rw [← hoc.1]; have h1 := adrB_length false 0 sl; have h2 := adrB_length false 0 dl; simp [dig_length]; omega))
    | (at_builtin; refine wpList_appP (l2 := o) _ bt rfl (.tmp 65) (.tmp 67) rfl (by exact below_plus _ bsc mc) rfl (hoc) rfl (by with_reducible repeat (first | exact hrW | refine Rb.plus_ ?_ _ _)) (by omega) ?_; intro Ad nd kd bsd md hod hgd))
  have hL : [] ++ dig x0 1 ++ dig ts 1 ++ dig ln 2 ++ dig id 2 ++ dig p 2 ++ dig tl 1 ++ dig pr 1 ++ dig 0 2 ++ adrB false 0 sl ++ adrB false 0 dl ++ o = ip4B ts ln id p tl pr 0 sl dl o := by rw [hx1.out]; simp [ip4B, adrB]
  rw [hL] at hod
  have hset := Lib.hid (fun s => setB_ip4 ts ln id p tl pr s sl dl o)
  have hlen := ip4B_length ts ln id p tl pr 0 sl dl o
  have hK : Hid (ip4K ts ln id p tl pr sl dl o = 65535 - fd (tot false (ip4B ts ln id p tl pr 0 sl dl o))) := Lib.hid rfl
  clear hL
  generalize ip4B ts ln id p tl pr 0 sl dl o = L0 at *
  rw [hol.out] at hlen
  have HO := Lib.hid (fun w A1 c1 (h : RdL w A1 1 [L0]) => sumOf A1 1 c1 _ w h (by omega) (by simp; omega))
  have hs1 : 65535 - fd (tot false L0) ≤ 65535 := Nat.sub_le _ _
  have hfl : ([L0] : List (List UInt8)).flatten = L0 := by simp
  rw [hfl] at HO
  generalize 65535 - fd (tot false L0) = s at *
  have hnd1 : 10 + 2 ≤ nd := by have := hod.1; omega
  have hnd2 : nd ≤ 549755813888 := by have := hod.1; omega
  have hs2 : s < 18446744073709551616 := by omega
  have gs : IntKind.u64.wrap (s : Int) = (s : Int) := IntWalk.u64_in _ (by omega)
  refine (HO.out _ _ _ (RdL.litW [.slice Ad nd kd] [L0] (by simp [size_plus]) (.cons ⟨_, _, _, rfl, hod.rb⟩ .nil))).mono ?_
  rintro e w1 ⟨rfl, rfl⟩
  go_wp2_with fail
  refine (octSet Ad nd kd L0 10 s 2 _ (hod.rb.alloc _) hnd1 (by decide) (by decide) hs2 hnd2).mono ?_
  rintro e w1 ⟨Ae, ne, ke, bse, me, rfl, rfl, hoe⟩
  go_wp2
  go_ret
  rw [hset.out] at hoe
  rw [hK.out]
  refine RetB.mk (hoe.mono ?_) ?_
  · simp [size_plus]; omega
  · with_reducible repeat (first | exact be | refine belowP ?_ _ _ | refine Below.allocS ?_ _)
set_option maxHeartbeats 4000000 in
set_option maxRecDepth 100000 in
theorem ip4Bytes_yn (ts ln id : Nat) (fo tl pr sm sl dl : Nat) (A : Option Addr) (n k : Nat) (o : List UInt8) (w : World) (hr : Rb w A n k o) (b1 : ts < 256) (b2 : id < 65536) (b3 : tl < 256) (b4 : pr < 256) (b5 : sl < 4294967296) (b6 : dl < 4294967296) (c1 : n ≤ 40) (c2 : n % 4 = 0) (c3 : 20 + n ≤ ln) (c4 : ln ≤ 65535) (c5 : fo ≤ 8191) : Calls Try.prog 109 #[.agg (h4C ts (ln : Int) id true false (fo : Int) tl pr sm false 0 sl false 0 dl A n k).toArray] w (RetB w (ip4B ts ln id (pl4 true false fo) tl pr (ip4K ts ln id (pl4 true false fo) tl pr sl dl o) sl dl o)) := by
  obtain ⟨du, u1, u2⟩ := rowH4
  obtain ⟨dv, v1, v2⟩ := rowAd
  have HR := Lib.hid (fun w => right4 ts (ln : Int) id true false (fo : Int) tl pr sm false 0 sl false 0 dl A n k w (by omega) (by omega) (by omega) (by omega) (by omega) (by omega) (by omega))
  rw [r4_yes n ln fo sl dl c1 c2 c3 c4 c5 b5 b6] at HR
  have HS := Lib.hid (fun w => size4 ts (ln : Int) id true false (fo : Int) tl pr sm false 0 sl false 0 dl A n k w (by omega))
  obtain ⟨z, hz0⟩ : ∃ z : Nat, z = 20 + n := ⟨_, rfl⟩
  rw [← hz0] at HS
  obtain ⟨q, hq⟩ : ∃ q : Nat, q = 5 + n / 4 := ⟨_, rfl⟩
  have g1 : (z : Int).tdiv 4 = (q : Int) := by rw [Int.tdiv_eq_ediv_of_nonneg (by omega)]; omega
  have g2 : IntKind.i64.wrap (q : Int) = (q : Int) := IntWalk.i64_in _ (by omega)
  have g3 := or64 ⟨q, by omega⟩
  obtain ⟨x0, hx0⟩ : ∃ x : Nat, x = 64 + q := ⟨_, rfl⟩
  replace g3 : bits .or .i64 64 (q : Int) = (x0 : Int) := by rw [hx0]; exact g3
  have g4 : IntKind.u64.wrap (x0 : Int) = (x0 : Int) := IntWalk.u64_in _ (by omega)
  have g5 : IntKind.u64.wrap (ts : Int) = (ts : Int) := IntWalk.u64_in _ (by omega)
  have g6 : IntKind.u64.wrap (ln : Int) = (ln : Int) := IntWalk.u64_in _ (by omega)
  have g7 : IntKind.u64.wrap (id : Int) = (id : Int) := IntWalk.u64_in _ (by omega)
  have g8 : IntKind.u64.wrap (tl : Int) = (tl : Int) := IntWalk.u64_in _ (by omega)
  have g9 : IntKind.u64.wrap (pr : Int) = (pr : Int) := IntWalk.u64_in _ (by omega)
  have f1 := or14 fo (by omega)
  have fp : IntKind.u64.wrap (fo : Int) = (fo : Int) := IntWalk.u64_in _ (by omega)
  obtain ⟨p, hp⟩ : ∃ p : Nat, p = fo + 16384 := ⟨_, rfl⟩
  rw [← hp] at f1
  have hpl : pl4 true false fo = p := by simp [pl4]; omega
  have hp6 : p < 65536 := by omega
  have hol := hr.1
  have hx1 : x0 = 69 + o.length / 4 := by omega
  have hb : Bk (w.alloc (.cells (h4C ts (ln : Int) id true false (fo : Int) tl pr sm false 0 sl false 0 dl A n k).toArray 140)) w.heap.size 140 (h4C ts (ln : Int) id true false (fo : Int) tl pr sm false 0 sl false 0 dl A n k) := Bk.new w 140 (h4C ts (ln : Int) id true false (fo : Int) tl pr sm false 0 sl false 0 dl A n k).toArray
  have be : Below w.heap.size w (w.alloc (.cells (h4C ts (ln : Int) id true false (fo : Int) tl pr sm false 0 sl false 0 dl A n k).toArray 140)) := Below.allocS (Below.refl _ _) _
  rw [hpl]
  replace hx1 := Lib.hid hx1
  replace hol := Lib.hid hol
  have hx9 : x0 < 256 := by omega
  clear hpl hx0 hz0 hq hp
  go_enter Try.func109, Try.ntmps109
  go_upto_region 1 with (fail)
  generalize w.alloc (.cells (h4C ts (ln : Int) id true false (fo : Int) tl pr sm false 0 sl false 0 dl A n k).toArray 140) = W at *
  have hrW := hr.later be
  have y0 : W.cell? ⟨w.heap.size, 0, none⟩ = some (.int .u8 (ts : Int)) := hb.cell 0
  have y1 : W.cell? ⟨w.heap.size, 1, none⟩ = some (.int .i64 (ln : Int)) := hb.cell 1
  have y2 : W.cell? ⟨w.heap.size, 2, none⟩ = some (.int .u16 (id : Int)) := hb.cell 2
  have y3 : W.cell? ⟨w.heap.size, 3, none⟩ = some (.bool true) := hb.cell 3
  have y4 : W.cell? ⟨w.heap.size, 4, none⟩ = some (.bool false) := hb.cell 4
  have y5 : W.cell? ⟨w.heap.size, 5, none⟩ = some (.int .i64 (fo : Int)) := hb.cell 5
  have y6 : W.cell? ⟨w.heap.size, 6, none⟩ = some (.int .u8 (tl : Int)) := hb.cell 6
  have y7 : W.cell? ⟨w.heap.size, 7, none⟩ = some (.int .u8 (pr : Int)) := hb.cell 7
  have y15 : W.cell? ⟨w.heap.size, 15, none⟩ = some (.slice A n k) := hb.cell 15
  have zb := hb.lt
  go_wp2_with (refine at_op (.load 140 (.tmp 1)) rfl ?_; refine wpList_ldA (t := 140) 140 (.tmp 1) rfl rfl (h4C ts (ln : Int) id true false (fo : Int) tl pr sm false 0 sl false 0 dl A n k) rfl (by with_reducible repeat (first | exact hb | refine Bk.later ?_ (below_plus _ _ _) | refine Bk.alloc ?_ _)) (whole_ _) u1 u2 (szH4 _ _ _ _ _ _ _ _ _ _ _ _ _ _ _ _ _ _) ?_)
  refine (HR.out _).mono ?_
  rintro e w1 ⟨bsr, mr, rfl, rfl⟩
  go_wp2_with (refine at_op (.load 140 (.tmp 1)) rfl ?_; refine wpList_ldA (t := 140) 140 (.tmp 1) rfl rfl (h4C ts (ln : Int) id true false (fo : Int) tl pr sm false 0 sl false 0 dl A n k) rfl (by with_reducible repeat (first | exact hb | refine Bk.later ?_ (below_plus _ _ _) | refine Bk.alloc ?_ _)) (whole_ _) u1 u2 (szH4 _ _ _ _ _ _ _ _ _ _ _ _ _ _ _ _ _ _) ?_)
  refine (HS.out _).mono ?_
  rintro e w1 ⟨bs0, m0, rfl, rfl⟩
  go_wp2_with fail
  refine (put_full _ _ _ [] x0 1 _ Rb.nil_ (by omega) (by omega) (by omega) (by omega)).mono ?_
  rintro e w1 ⟨A1, n1, bs1, m1, rfl, rfl, ho1⟩
  have l1 : n1 ≤ 100 := by rw [← ho1.1]; simp [dig_length]
  go_wp2_with fail
  refine (put_full _ _ _ _ ts 1 _ ho1.rb (by omega) (by omega) (by omega) (by omega)).mono ?_
  rintro e w1 ⟨A2, n2, bs2, m2, rfl, rfl, ho2⟩
  have l2 : n2 ≤ 100 := by rw [← ho2.1]; simp [dig_length]
  go_wp2_with fail
  refine (put_full _ _ _ _ ln 2 _ ho2.rb (by omega) (by omega) (by omega) (by omega)).mono ?_
  rintro e w1 ⟨A3, n3, bs3, m3, rfl, rfl, ho3⟩
  have l3 : n3 ≤ 100 := by rw [← ho3.1]; simp [dig_length]
  go_wp2_with fail
  refine (put_full _ _ _ _ id 2 _ ho3.rb (by omega) (by omega) (by omega) (by omega)).mono ?_
  rintro e w1 ⟨A4, n4, bs4, m4, rfl, rfl, ho4⟩
  have l4 : n4 ≤ 100 := by rw [← ho4.1]; simp [dig_length]
  go_wp2_with fail
  refine (put_full _ _ _ _ p 2 _ ho4.rb (by omega) (by omega) (by omega) (by omega)).mono ?_
  rintro e w1 ⟨A5, n5, bs5, m5, rfl, rfl, ho5⟩
  have l5 : n5 ≤ 100 := by rw [← ho5.1]; simp [dig_length]
  go_wp2_with fail
  refine (put_full _ _ _ _ tl 1 _ ho5.rb (by omega) (by omega) (by omega) (by omega)).mono ?_
  rintro e w1 ⟨A6, n6, bs6, m6, rfl, rfl, ho6⟩
  have l6 : n6 ≤ 100 := by rw [← ho6.1]; simp [dig_length]
  go_wp2_with fail
  refine (put_full _ _ _ _ pr 1 _ ho6.rb (by omega) (by omega) (by omega) (by omega)).mono ?_
  rintro e w1 ⟨A7, n7, bs7, m7, rfl, rfl, ho7⟩
  have l7 : n7 ≤ 100 := by rw [← ho7.1]; simp [dig_length]
  go_wp2_with fail
  refine (put_full _ _ _ _ 0 2 _ ho7.rb (by omega) (by omega) (by omega) (by omega)).mono ?_
  rintro e w1 ⟨A8, n8, bs8, m8, rfl, rfl, ho8⟩
  have l8 : n8 ≤ 100 := by rw [← ho8.1]; simp [dig_length]
  go_wp2_with (refine at_op (.load 26 (.tmp 56)) rfl ?_; refine wpList_ldA (t := 140) (cs := h4C ts (ln : Int) id true false (fo : Int) tl pr sm false 0 sl false 0 dl A n k) 26 (.tmp 56) rfl rfl (adC false 0 sl) rfl (by with_reducible repeat (first | exact hb | refine Bk.later ?_ (below_plus _ _ _) | refine Bk.alloc ?_ _)) rfl v1 v2 (szAd _ _ _) ?_)
  refine (adrBytes_any false 0 sl _ (by omega) (by omega)).mono ?_
  rintro e w1 ⟨A9, n9, bs9, m9, rfl, rfl, ho9⟩
  have l9 : n9 ≤ 100 := by rw [← ho9.1]; have := adrB_length false 0 sl; omega
  go_wp2_with (first
    | (at_builtin; refine wpList_appP _ bt rfl (.tmp 55) (.tmp 58) rfl (by exact belowP (below_plus _ bs8 m8) bs9 m9) rfl (ho8.plus_ bs9 m9) rfl (ho9.rb) (by omega) ?_; intro Aa na ka bsa ma hoa hga)
    | (refine at_op (.load 26 (.tmp 61)) rfl ?_; refine wpList_ldA (t := 140) (cs := h4C ts (ln : Int) id true false (fo : Int) tl pr sm false 0 sl false 0 dl A n k) 26 (.tmp 61) rfl rfl (adC false 0 dl) rfl (by with_reducible repeat (first | exact hb | refine Bk.later ?_ (below_plus _ _ _) | refine Bk.alloc ?_ _)) rfl v1 v2 (szAd _ _ _) ?_))
  have la : na ≤ 300 := by rw [← hoa.1]; have := adrB_length false 0 sl; simp [dig_length]; omega
  refine (adrBytes_any false 0 dl _ (by omega) (by omega)).mono ?_
  rintro e w1 ⟨Ab, nb, bsb, mb, rfl, rfl, hob⟩
  have lb : nb ≤ 100 := by rw [← hob.1]; have := adrB_length false 0 dl; omega
  go_wp2_with (first
    | (at_builtin; refine wpList_appP _ bt rfl (.tmp 60) (.tmp 63) rfl (by exact belowP (below_plus _ bsa ma) bsb mb) rfl (hoa.plus_ bsb mb) rfl (hob.rb) (by omega) ?_; intro Ac nc kc bsc mc hoc hgc; have lc : nc ≤ 500 := (by rw [← hoc.1]; have h1 := adrB_length false 0 sl; have h2 := adrB_length false 0 dl; simp [dig_length]; omega))
    | (at_builtin; refine wpList_appP (l2 := o) _ bt rfl (.tmp 65) (.tmp 67) rfl (by exact below_plus _ bsc mc) rfl (hoc) rfl (by with_reducible repeat (first | exact hrW | refine Rb.plus_ ?_ _ _)) (by omega) ?_; intro Ad nd kd bsd md hod hgd))
  have hL : [] ++ dig x0 1 ++ dig ts 1 ++ dig ln 2 ++ dig id 2 ++ dig p 2 ++ dig tl 1 ++ dig pr 1 ++ dig 0 2 ++ adrB false 0 sl ++ adrB false 0 dl ++ o = ip4B ts ln id p tl pr 0 sl dl o := by rw [hx1.out]; simp [ip4B, adrB]
  rw [hL] at hod
  have hset := Lib.hid (fun s => setB_ip4 ts ln id p tl pr s sl dl o)
  have hlen := ip4B_length ts ln id p tl pr 0 sl dl o
  have hK : Hid (ip4K ts ln id p tl pr sl dl o = 65535 - fd (tot false (ip4B ts ln id p tl pr 0 sl dl o))) := Lib.hid rfl
  clear hL
  generalize ip4B ts ln id p tl pr 0 sl dl o = L0 at *
  rw [hol.out] at hlen
  have HO := Lib.hid (fun w A1 c1 (h : RdL w A1 1 [L0]) => sumOf A1 1 c1 _ w h (by omega) (by simp; omega))
  have hs1 : 65535 - fd (tot false L0) ≤ 65535 := Nat.sub_le _ _
  have hfl : ([L0] : List (List UInt8)).flatten = L0 := by simp
  rw [hfl] at HO
  generalize 65535 - fd (tot false L0) = s at *
  have hnd1 : 10 + 2 ≤ nd := by have := hod.1; omega
  have hnd2 : nd ≤ 549755813888 := by have := hod.1; omega
  have hs2 : s < 18446744073709551616 := by omega
  have gs : IntKind.u64.wrap (s : Int) = (s : Int) := IntWalk.u64_in _ (by omega)
  refine (HO.out _ _ _ (RdL.litW [.slice Ad nd kd] [L0] (by simp [size_plus]) (.cons ⟨_, _, _, rfl, hod.rb⟩ .nil))).mono ?_
  rintro e w1 ⟨rfl, rfl⟩
  go_wp2_with fail
  refine (octSet Ad nd kd L0 10 s 2 _ (hod.rb.alloc _) hnd1 (by decide) (by decide) hs2 hnd2).mono ?_
  rintro e w1 ⟨Ae, ne, ke, bse, me, rfl, rfl, hoe⟩
  go_wp2
  go_ret
  rw [hset.out] at hoe
  rw [hK.out]
  refine RetB.mk (hoe.mono ?_) ?_
  · simp [size_plus]; omega
  · with_reducible repeat (first | exact be | refine belowP ?_ _ _ | refine Below.allocS ?_ _)
set_option maxHeartbeats 4000000 in
set_option maxRecDepth 100000 in
theorem ip4Bytes_yy (ts ln id : Nat) (fo tl pr sm sl dl : Nat) (A : Option Addr) (n k : Nat) (o : List UInt8) (w : World) (hr : Rb w A n k o) (b1 : ts < 256) (b2 : id < 65536) (b3 : tl < 256) (b4 : pr < 256) (b5 : sl < 4294967296) (b6 : dl < 4294967296) (c1 : n ≤ 40) (c2 : n % 4 = 0) (c3 : 20 + n ≤ ln) (c4 : ln ≤ 65535) (c5 : fo ≤ 8191) : Calls Try.prog 109 #[.agg (h4C ts (ln : Int) id true true (fo : Int) tl pr sm false 0 sl false 0 dl A n k).toArray] w (RetB w (ip4B ts ln id (pl4 true true fo) tl pr (ip4K ts ln id (pl4 true true fo) tl pr sl dl o) sl dl o)) := by
  obtain ⟨du, u1, u2⟩ := rowH4
  obtain ⟨dv, v1, v2⟩ := rowAd
  have HR := Lib.hid (fun w => right4 ts (ln : Int) id true true (fo : Int) tl pr sm false 0 sl false 0 dl A n k w (by omega) (by omega) (by omega) (by omega) (by omega) (by omega) (by omega))
  rw [r4_yes n ln fo sl dl c1 c2 c3 c4 c5 b5 b6] at HR
  have HS := Lib.hid (fun w => size4 ts (ln : Int) id true true (fo : Int) tl pr sm false 0 sl false 0 dl A n k w (by omega))
  obtain ⟨z, hz0⟩ : ∃ z : Nat, z = 20 + n := ⟨_, rfl⟩
  rw [← hz0] at HS
  obtain ⟨q, hq⟩ : ∃ q : Nat, q = 5 + n / 4 := ⟨_, rfl⟩
  have g1 : (z : Int).tdiv 4 = (q : Int) := by rw [Int.tdiv_eq_ediv_of_nonneg (by omega)]; omega
  have g2 : IntKind.i64.wrap (q : Int) = (q : Int) := IntWalk.i64_in _ (by omega)
  have g3 := or64 ⟨q, by omega⟩
  obtain ⟨x0, hx0⟩ : ∃ x : Nat, x = 64 + q := ⟨_, rfl⟩
  replace g3 : bits .or .i64 64 (q : Int) = (x0 : Int) := by rw [hx0]; exact g3
  have g4 : IntKind.u64.wrap (x0 : Int) = (x0 : Int) := IntWalk.u64_in _ (by omega)
  have g5 : IntKind.u64.wrap (ts : Int) = (ts : Int) := IntWalk.u64_in _ (by omega)
  have g6 : IntKind.u64.wrap (ln : Int) = (ln : Int) := IntWalk.u64_in _ (by omega)
  have g7 : IntKind.u64.wrap (id : Int) = (id : Int) := IntWalk.u64_in _ (by omega)
  have g8 : IntKind.u64.wrap (tl : Int) = (tl : Int) := IntWalk.u64_in _ (by omega)
  have g9 : IntKind.u64.wrap (pr : Int) = (pr : Int) := IntWalk.u64_in _ (by omega)
  have f1 := or14 fo (by omega)
  have f2 := or1413 fo (by omega)
  have fp : IntKind.u64.wrap (fo : Int) = (fo : Int) := IntWalk.u64_in _ (by omega)
  obtain ⟨p1, hp1⟩ : ∃ p : Nat, p = fo + 16384 := ⟨_, rfl⟩
  rw [← hp1] at f1 f2
  obtain ⟨p, hp⟩ : ∃ p : Nat, p = p1 + 8192 := ⟨_, rfl⟩
  rw [← hp] at f2
  have hpl : pl4 true true fo = p := by simp [pl4]; omega
  have hp6 : p < 65536 := by omega
  have hol := hr.1
  have hx1 : x0 = 69 + o.length / 4 := by omega
  have hb : Bk (w.alloc (.cells (h4C ts (ln : Int) id true true (fo : Int) tl pr sm false 0 sl false 0 dl A n k).toArray 140)) w.heap.size 140 (h4C ts (ln : Int) id true true (fo : Int) tl pr sm false 0 sl false 0 dl A n k) := Bk.new w 140 (h4C ts (ln : Int) id true true (fo : Int) tl pr sm false 0 sl false 0 dl A n k).toArray
  have be : Below w.heap.size w (w.alloc (.cells (h4C ts (ln : Int) id true true (fo : Int) tl pr sm false 0 sl false 0 dl A n k).toArray 140)) := Below.allocS (Below.refl _ _) _
  rw [hpl]
  replace hx1 := Lib.hid hx1
  replace hol := Lib.hid hol
  have hx9 : x0 < 256 := by omega
  clear hpl hx0 hz0 hq hp hp1
  go_enter Try.func109, Try.ntmps109
  go_upto_region 1 with (fail)
  generalize w.alloc (.cells (h4C ts (ln : Int) id true true (fo : Int) tl pr sm false 0 sl false 0 dl A n k).toArray 140) = W at *
  have hrW := hr.later be
  have y0 : W.cell? ⟨w.heap.size, 0, none⟩ = some (.int .u8 (ts : Int)) := hb.cell 0
  have y1 : W.cell? ⟨w.heap.size, 1, none⟩ = some (.int .i64 (ln : Int)) := hb.cell 1
  have y2 : W.cell? ⟨w.heap.size, 2, none⟩ = some (.int .u16 (id : Int)) := hb.cell 2
  have y3 : W.cell? ⟨w.heap.size, 3, none⟩ = some (.bool true) := hb.cell 3
  have y4 : W.cell? ⟨w.heap.size, 4, none⟩ = some (.bool true) := hb.cell 4
  have y5 : W.cell? ⟨w.heap.size, 5, none⟩ = some (.int .i64 (fo : Int)) := hb.cell 5
  have y6 : W.cell? ⟨w.heap.size, 6, none⟩ = some (.int .u8 (tl : Int)) := hb.cell 6
  have y7 : W.cell? ⟨w.heap.size, 7, none⟩ = some (.int .u8 (pr : Int)) := hb.cell 7
  have y15 : W.cell? ⟨w.heap.size, 15, none⟩ = some (.slice A n k) := hb.cell 15
  have zb := hb.lt
  go_wp2_with (refine at_op (.load 140 (.tmp 1)) rfl ?_; refine wpList_ldA (t := 140) 140 (.tmp 1) rfl rfl (h4C ts (ln : Int) id true true (fo : Int) tl pr sm false 0 sl false 0 dl A n k) rfl (by with_reducible repeat (first | exact hb | refine Bk.later ?_ (below_plus _ _ _) | refine Bk.alloc ?_ _)) (whole_ _) u1 u2 (szH4 _ _ _ _ _ _ _ _ _ _ _ _ _ _ _ _ _ _) ?_)
  refine (HR.out _).mono ?_
  rintro e w1 ⟨bsr, mr, rfl, rfl⟩
  go_wp2_with (refine at_op (.load 140 (.tmp 1)) rfl ?_; refine wpList_ldA (t := 140) 140 (.tmp 1) rfl rfl (h4C ts (ln : Int) id true true (fo : Int) tl pr sm false 0 sl false 0 dl A n k) rfl (by with_reducible repeat (first | exact hb | refine Bk.later ?_ (below_plus _ _ _) | refine Bk.alloc ?_ _)) (whole_ _) u1 u2 (szH4 _ _ _ _ _ _ _ _ _ _ _ _ _ _ _ _ _ _) ?_)
  refine (HS.out _).mono ?_
  rintro e w1 ⟨bs0, m0, rfl, rfl⟩
  go_wp2_with fail
  refine (put_full _ _ _ [] x0 1 _ Rb.nil_ (by omega) (by omega) (by omega) (by omega)).mono ?_
  rintro e w1 ⟨A1, n1, bs1, m1, rfl, rfl, ho1⟩
  have l1 : n1 ≤ 100 := by rw [← ho1.1]; simp [dig_length]
  go_wp2_with fail
  refine (put_full _ _ _ _ ts 1 _ ho1.rb (by omega) (by omega) (by omega) (by omega)).mono ?_
  rintro e w1 ⟨A2, n2, bs2, m2, rfl, rfl, ho2⟩
  have l2 : n2 ≤ 100 := by rw [← ho2.1]; simp [dig_length]
  go_wp2_with fail
  refine (put_full _ _ _ _ ln 2 _ ho2.rb (by omega) (by omega) (by omega) (by omega)).mono ?_
  rintro e w1 ⟨A3, n3, bs3, m3, rfl, rfl, ho3⟩
  have l3 : n3 ≤ 100 := by rw [← ho3.1]; simp [dig_length]
  go_wp2_with fail
  refine (put_full _ _ _ _ id 2 _ ho3.rb (by omega) (by omega) (by omega) (by omega)).mono ?_
  rintro e w1 ⟨A4, n4, bs4, m4, rfl, rfl, ho4⟩
  have l4 : n4 ≤ 100 := by rw [← ho4.1]; simp [dig_length]
  go_wp2_with fail
  refine (put_full _ _ _ _ p 2 _ ho4.rb (by omega) (by omega) (by omega) (by omega)).mono ?_
  rintro e w1 ⟨A5, n5, bs5, m5, rfl, rfl, ho5⟩
  have l5 : n5 ≤ 100 := by rw [← ho5.1]; simp [dig_length]
  go_wp2_with fail
  refine (put_full _ _ _ _ tl 1 _ ho5.rb (by omega) (by omega) (by omega) (by omega)).mono ?_
  rintro e w1 ⟨A6, n6, bs6, m6, rfl, rfl, ho6⟩
  have l6 : n6 ≤ 100 := by rw [← ho6.1]; simp [dig_length]
  go_wp2_with fail
  refine (put_full _ _ _ _ pr 1 _ ho6.rb (by omega) (by omega) (by omega) (by omega)).mono ?_
  rintro e w1 ⟨A7, n7, bs7, m7, rfl, rfl, ho7⟩
  have l7 : n7 ≤ 100 := by rw [← ho7.1]; simp [dig_length]
  go_wp2_with fail
  refine (put_full _ _ _ _ 0 2 _ ho7.rb (by omega) (by omega) (by omega) (by omega)).mono ?_
  rintro e w1 ⟨A8, n8, bs8, m8, rfl, rfl, ho8⟩
  have l8 : n8 ≤ 100 := by rw [← ho8.1]; simp [dig_length]
  go_wp2_with (refine at_op (.load 26 (.tmp 56)) rfl ?_; refine wpList_ldA (t := 140) (cs := h4C ts (ln : Int) id true true (fo : Int) tl pr sm false 0 sl false 0 dl A n k) 26 (.tmp 56) rfl rfl (adC false 0 sl) rfl (by with_reducible repeat (first | exact hb | refine Bk.later ?_ (below_plus _ _ _) | refine Bk.alloc ?_ _)) rfl v1 v2 (szAd _ _ _) ?_)
  refine (adrBytes_any false 0 sl _ (by omega) (by omega)).mono ?_
  rintro e w1 ⟨A9, n9, bs9, m9, rfl, rfl, ho9⟩
  have l9 : n9 ≤ 100 := by rw [← ho9.1]; have := adrB_length false 0 sl; omega
  go_wp2_with (first
    | (at_builtin; refine wpList_appP _ bt rfl (.tmp 55) (.tmp 58) rfl (by exact belowP (below_plus _ bs8 m8) bs9 m9) rfl (ho8.plus_ bs9 m9) rfl (ho9.rb) (by omega) ?_; intro Aa na ka bsa ma hoa hga)
    | (refine at_op (.load 26 (.tmp 61)) rfl ?_; refine wpList_ldA (t := 140) (cs := h4C ts (ln : Int) id true true (fo : Int) tl pr sm false 0 sl false 0 dl A n k) 26 (.tmp 61) rfl rfl (adC false 0 dl) rfl (by with_reducible repeat (first | exact hb | refine Bk.later ?_ (below_plus _ _ _) | refine Bk.alloc ?_ _)) rfl v1 v2 (szAd _ _ _) ?_))
  have la : na ≤ 300 := by rw [← hoa.1]; have := adrB_length false 0 sl; simp [dig_length]; omega
  refine (adrBytes_any false 0 dl _ (by omega) (by omega)).mono ?_
  rintro e w1 ⟨Ab, nb, bsb, mb, rfl, rfl, hob⟩
  have lb : nb ≤ 100 := by rw [← hob.1]; have := adrB_length false 0 dl; omega
  go_wp2_with (first
    | (at_builtin; refine wpList_appP _ bt rfl (.tmp 60) (.tmp 63) rfl (by exact belowP (below_plus _ bsa ma) bsb mb) rfl (hoa.plus_ bsb mb) rfl (hob.rb) (by omega) ?_; intro Ac nc kc bsc mc hoc hgc; have lc : nc ≤ 500 := (by rw [← hoc.1]; have h1 := adrB_length false 0 sl; have h2 := adrB_length false 0 dl; simp [dig_length]; omega))
    | (at_builtin; refine wpList_appP (l2 := o) _ bt rfl (.tmp 65) (.tmp 67) rfl (by exact below_plus _ bsc mc) rfl (hoc) rfl (by with_reducible repeat (first | exact hrW | refine Rb.plus_ ?_ _ _)) (by omega) ?_; intro Ad nd kd bsd md hod hgd))
  have hL : [] ++ dig x0 1 ++ dig ts 1 ++ dig ln 2 ++ dig id 2 ++ dig p 2 ++ dig tl 1 ++ dig pr 1 ++ dig 0 2 ++ adrB false 0 sl ++ adrB false 0 dl ++ o = ip4B ts ln id p tl pr 0 sl dl o := by rw [hx1.out]; simp [ip4B, adrB]
  rw [hL] at hod
  have hset := Lib.hid (fun s => setB_ip4 ts ln id p tl pr s sl dl o)
  have hlen := ip4B_length ts ln id p tl pr 0 sl dl o
  have hK : Hid (ip4K ts ln id p tl pr sl dl o = 65535 - fd (tot false (ip4B ts ln id p tl pr 0 sl dl o))) := Lib.hid rfl
  clear hL
  generalize ip4B ts ln id p tl pr 0 sl dl o = L0 at *
  rw [hol.out] at hlen
  have HO := Lib.hid (fun w A1 c1 (h : RdL w A1 1 [L0]) => sumOf A1 1 c1 _ w h (by omega) (by simp; omega))
  have hs1 : 65535 - fd (tot false L0) ≤ 65535 := Nat.sub_le _ _
  have hfl : ([L0] : List (List UInt8)).flatten = L0 := by simp
  rw [hfl] at HO
  generalize 65535 - fd (tot false L0) = s at *
  have hnd1 : 10 + 2 ≤ nd := by have := hod.1; omega
  have hnd2 : nd ≤ 549755813888 := by have := hod.1; omega
  have hs2 : s < 18446744073709551616 := by omega
  have gs : IntKind.u64.wrap (s : Int) = (s : Int) := IntWalk.u64_in _ (by omega)
  refine (HO.out _ _ _ (RdL.litW [.slice Ad nd kd] [L0] (by simp [size_plus]) (.cons ⟨_, _, _, rfl, hod.rb⟩ .nil))).mono ?_
  rintro e w1 ⟨rfl, rfl⟩
  go_wp2_with fail
  refine (octSet Ad nd kd L0 10 s 2 _ (hod.rb.alloc _) hnd1 (by decide) (by decide) hs2 hnd2).mono ?_
  rintro e w1 ⟨Ae, ne, ke, bse, me, rfl, rfl, hoe⟩
  go_wp2
  go_ret
  rw [hset.out] at hoe
  rw [hK.out]
  refine RetB.mk (hoe.mono ?_) ?_
  · simp [size_plus]; omega
  · with_reducible repeat (first | exact be | refine belowP ?_ _ _ | refine Below.allocS ?_ _)
theorem ip4Bytes_yes (ts ln id : Nat) (st mo : Bool) (fo tl pr sm sl dl : Nat) (A : Option Addr) (n k : Nat) (o : List UInt8) (w : World) (hr : Rb w A n k o) (b1 : ts < 256) (b2 : id < 65536) (b3 : tl < 256) (b4 : pr < 256) (b5 : sl < 4294967296) (b6 : dl < 4294967296) (c1 : n ≤ 40) (c2 : n % 4 = 0) (c3 : 20 + n ≤ ln) (c4 : ln ≤ 65535) (c5 : fo ≤ 8191) : Calls Try.prog 109 #[.agg (h4C ts (ln : Int) id st mo (fo : Int) tl pr sm false 0 sl false 0 dl A n k).toArray] w (RetB w (ip4B ts ln id (pl4 st mo fo) tl pr (ip4K ts ln id (pl4 st mo fo) tl pr sl dl o) sl dl o)) := by
  cases st
  · cases mo
    · exact ip4Bytes_nn ts ln id fo tl pr sm sl dl A n k o w hr b1 b2 b3 b4 b5 b6 c1 c2 c3 c4 c5
    · exact ip4Bytes_ny ts ln id fo tl pr sm sl dl A n k o w hr b1 b2 b3 b4 b5 b6 c1 c2 c3 c4 c5
  · cases mo
    · exact ip4Bytes_yn ts ln id fo tl pr sm sl dl A n k o w hr b1 b2 b3 b4 b5 b6 c1 c2 c3 c4 c5
    · exact ip4Bytes_yy ts ln id fo tl pr sm sl dl A n k o w hr b1 b2 b3 b4 b5 b6 c1 c2 c3 c4 c5
end Go.Proofs.Ytfmkndemkpecpaa

/- ip4.header of any bytes. -/
namespace Go.Proofs.Ytfmkndemkpecpaa
open Go.RowKit
set_option linter.unusedVariables false
set_option linter.unusedSimpArgs false
attribute [local go_sem ↓] sliced_cut

attribute [local go_sem] cutA_zero

set_option maxHeartbeats 4000000 in
set_option maxRecDepth 100000 in
theorem hdr4_short (A : Option Addr) (n c : Nat) (l : List UInt8) (w : World) (h : Rb w A n c l) (hm9 : n ≤ 1000000) (hn : n < 20) : Calls Try.prog 128 #[.slice A n c] w (RetV w (.tuple #[.agg (h4C 0 0 0 false false 0 0 0 0 false 0 0 false 0 0 none 0 0).toArray, .int .i64 0, .int .i64 20])) := by
  obtain ⟨du, u1, u2⟩ := rowH4
  have d20 : decide ((n : Int) < 20) = true := by simp only [decide_eq_true_eq]; omega
  have b2 : Bk (w.alloc (.cells #[.int .u8 0, .int .i64 0, .int .u16 0, .bool false, .bool false, .int .i64 0, .int .u8 0, .int .u8 0, .int .u16 0, .bool false, .int .u64 0, .int .u64 0, .bool false, .int .u64 0, .int .u64 0, .slice none 0 0] 140)) w.heap.size 140 (h4C 0 0 0 false false 0 0 0 0 false 0 0 false 0 0 none 0 0) := Bk.new w 140 #[.int .u8 0, .int .i64 0, .int .u16 0, .bool false, .bool false, .int .i64 0, .int .u8 0, .int .u8 0, .int .u16 0, .bool false, .int .u64 0, .int .u64 0, .bool false, .int .u64 0, .int .u64 0, .slice none 0 0]
  have be : Below w.heap.size w (w.alloc (.cells #[.int .u8 0, .int .i64 0, .int .u16 0, .bool false, .bool false, .int .i64 0, .int .u8 0, .int .u8 0, .int .u16 0, .bool false, .int .u64 0, .int .u64 0, .bool false, .int .u64 0, .int .u64 0, .slice none 0 0] 140)) := Below.allocS (Below.refl _ _) _
  go_enter Try.func128, Try.ntmps128
  go_wp2_with (refine at_op (.store 140 (.tmp 2) (.tmp 13)) rfl ?_; refine wpList_stA (t := 140) 140 (.tmp 2) (.tmp 13) rfl rfl (h4C 0 0 0 false false 0 0 0 0 false 0 0 false 0 0 none 0 0) (h4C 0 0 0 false false 0 0 0 0 false 0 0 false 0 0 none 0 0) rfl (h4C_one _ _ _ _ _ _ _ _ _ _ _ _ _ _ _ _ _ _) rfl rfl b2 (szH4 _ _ _ _ _ _ _ _ _ _ _ _ _ _ _ _ _ _) ?_; intro W9 h9 g9)
  refine bodyPost_agg3 Try.results128 rfl rfl rfl h9.range u1 u2 (szH4 _ _ _ _ _ _ _ _ _ _ _ _ _ _ _ _ _ _) rfl (RetV.mk ?_)
  exact below_grown be g9 (by omega)

theorem and_bit (x i : Nat) : x &&& 2 ^ i = x / 2 ^ i % 2 * 2 ^ i := by
  have hb : x.testBit i = decide (x / 2 ^ i % 2 = 1) := Nat.testBit_eq_decide_div_mod_eq
  apply Nat.eq_of_testBit_eq
  intro j
  rw [Nat.testBit_and, Nat.testBit_two_pow]
  by_cases h1 : x / 2 ^ i % 2 = 1
  · rw [h1, Nat.one_mul, Nat.testBit_two_pow]
    by_cases hj : i = j
    · subst hj
      rw [hb]
      simp [h1]
    · simp [hj]
  · have h0 : x / 2 ^ i % 2 = 0 := by omega
    rw [h0, Nat.zero_mul, Nat.zero_testBit]
    by_cases hj : i = j
    · subst hj
      rw [hb]
      simp [h0]
    · simp [hj]
theorem and_2k (x i : Nat) (h : x < 65536) (hi : i < 16) : bits .and .u16 (x : Int) ((2 ^ i : Nat) : Int) = (((x / 2 ^ i % 2) * 2 ^ i : Nat) : Int) := by
  rw [u16_and_nat x (2 ^ i) h (Nat.lt_of_lt_of_le (Nat.pow_lt_pow_right (by decide) hi) (by decide)), and_bit]
theorem and15 (x : Nat) (h : x < 65536) : bits .and .u16 (x : Int) 32768 = ((x / 32768 % 2 * 32768 : Nat) : Int) := and_2k x 15 h (by decide)
theorem and14 (x : Nat) (h : x < 65536) : bits .and .u16 (x : Int) 16384 = ((x / 16384 % 2 * 16384 : Nat) : Int) := and_2k x 14 h (by decide)
theorem and13 (x : Nat) (h : x < 65536) : bits .and .u16 (x : Int) 8192 = ((x / 8192 % 2 * 8192 : Nat) : Int) := and_2k x 13 h (by decide)
theorem and8191 (x : Nat) (h : x < 65536) : bits .and .u16 (x : Int) 8191 = ((x % 8192 : Nat) : Int) := by
  have := u16_and_nat x 8191 h (by decide)
  rw [show (8191 : Nat) = 2 ^ 13 - 1 from rfl, Nat.and_two_pow_sub_one_eq_mod] at this
  exact this
set_option maxHeartbeats 4000000 in
set_option maxRecDepth 100000 in
theorem hdr4_f1 (A : Option Addr) (n c : Nat) (l : List UInt8) (w : World) (h : Rb w A n c l) (hm9 : n ≤ 1000000) (f ts ln id pl : Nat) (x0 : num ((l.drop 0).take 1) = f) (x1 : num ((l.drop 1).take 1) = ts) (x2 : num ((l.drop 2).take 2) = ln) (x3 : num ((l.drop 4).take 2) = id) (x4 : num ((l.drop 6).take 2) = pl) (hn : 20 ≤ n) (hb : f / 16 ≠ 4) : Calls Try.prog 128 #[.slice A n c] w (RetV w (.tuple #[.agg (h4C 0 0 0 false false 0 0 0 0 false 0 0 false 0 0 none 0 0).toArray, .int .i64 0, .int .i64 21])) := by
  obtain ⟨du, u1, u2⟩ := rowH4
  have hc := h.2.1
  have hl := h.1
  have h20n : (20 : Int) ≤ (n : Int) := by omega
  have h20c : (20 : Int) ≤ (c : Int) := by omega
  have d20 : decide ((n : Int) < 20) = false := by simp only [decide_eq_false_iff_not]; omega
  have ht20 : Rb w A 20 c (l.take 20) := h.take (by omega)
  have hf8 : f < 256 := by rw [← x0]; exact num_lt' l 0 1 256 (by decide)
  have hpl : pl < 65536 := by rw [← x4]; exact num_lt' l 6 2 65536 (by decide)
  have hln : ln < 65536 := by rw [← x2]; exact num_lt' l 2 2 65536 (by decide)
  replace x0 : Hid (num (((l.take 20).drop 0).take 1) = f) := Lib.hid (by rw [num_in l 20 0 1 (by decide)]; exact x0)
  replace x1 : Hid (num (((l.take 20).drop 1).take 1) = ts) := Lib.hid (by rw [num_in l 20 1 1 (by decide)]; exact x1)
  replace x2 : Hid (num (((l.take 20).drop 2).take 2) = ln) := Lib.hid (by rw [num_in l 20 2 2 (by decide)]; exact x2)
  replace x3 : Hid (num (((l.take 20).drop 4).take 2) = id) := Lib.hid (by rw [num_in l 20 4 2 (by decide)]; exact x3)
  replace x4 : Hid (num (((l.take 20).drop 6).take 2) = pl) := Lib.hid (by rw [num_in l 20 6 2 (by decide)]; exact x4)
  have hB : (l.take 20).length = 20 := by rw [List.length_take]; omega
  have HR := Lib.hid (fun W (h : Rb W A 20 c (l.take 20)) => readK A 20 c (l.take 20) W h (by decide))
  generalize l.take 20 = B at *
  have hB1 : B.length ≤ 20 := by omega
  have hB2 : 20 ≤ B.length := by omega
  clear hB
  obtain ⟨m, hm⟩ : ∃ m : Nat, m = f % 16 := ⟨_, rfl⟩
  have e1 := u8_and15 f hf8
  rw [← hm] at e1
  obtain ⟨sz, hsz⟩ : ∃ s : Nat, s = 4 * m := ⟨_, rfl⟩
  have e2 : IntKind.i64.wrap (4 * (m : Int)) = (sz : Int) := by rw [IntWalk.i64_in _ (by omega)]; omega
  have e3 : IntKind.i64.wrap (m : Int) = (m : Int) := IntWalk.i64_in _ (by omega)
  have e4 : IntKind.i64.wrap (ln : Int) = (ln : Int) := IntWalk.i64_in _ (by omega)
  have hb1n : ((f : Int) / 16 != 4) = true := by rw [bne_iff_ne]; omega
  clear hm hsz
  have b2 : Bk (w.alloc (.cells #[.int .u8 0, .int .i64 0, .int .u16 0, .bool false, .bool false, .int .i64 0, .int .u8 0, .int .u8 0, .int .u16 0, .bool false, .int .u64 0, .int .u64 0, .bool false, .int .u64 0, .int .u64 0, .slice none 0 0] 140)) w.heap.size 140 (h4C 0 0 0 false false 0 0 0 0 false 0 0 false 0 0 none 0 0) := Bk.new w 140 #[.int .u8 0, .int .i64 0, .int .u16 0, .bool false, .bool false, .int .i64 0, .int .u8 0, .int .u8 0, .int .u16 0, .bool false, .int .u64 0, .int .u64 0, .bool false, .int .u64 0, .int .u64 0, .slice none 0 0]
  have be : Below w.heap.size w (w.alloc (.cells #[.int .u8 0, .int .i64 0, .int .u16 0, .bool false, .bool false, .int .i64 0, .int .u8 0, .int .u8 0, .int .u16 0, .bool false, .int .u64 0, .int .u64 0, .bool false, .int .u64 0, .int .u64 0, .slice none 0 0] 140)) := Below.allocS (Below.refl _ _) _
  go_enter Try.func128, Try.ntmps128
  go_wp2_with fail
  refine (HR.out _ (ht20.alloc _)).mono ?_
  rintro e w1 ⟨r, bs1, d1, rfl, rfl, hr1, hR⟩
  replace b2 := b2.later (below_plus _ bs1 d1)
  replace be := belowP be bs1 d1
  have hr2 : w.heap.size < r := by simp at hr1; omega
  generalize plus (w.alloc (.cells #[.int .u8 0, .int .i64 0, .int .u16 0, .bool false, .bool false, .int .i64 0, .int .u8 0, .int .u8 0, .int .u16 0, .bool false, .int .u64 0, .int .u64 0, .bool false, .int .u64 0, .int .u64 0, .slice none 0 0] 140)) bs1 d1 = W0 at *
  clear hr1
  go_wp2_with fail
  refine (byteG W0 r B 0 f hR (by omega) (by omega) x0.out).mono ?_
  clear x0
  rintro e W1 ⟨rfl, hR1, hg⟩
  replace b2 := b2.grown hg (by simp; omega)
  replace be := below_grown be hg (by omega)
  clear hR hg
  have hR := hR1
  clear hR1
  go_wp2_with fail
  refine (byteG W1 r B 1 ts hR (by omega) (by omega) x1.out).mono ?_
  clear x1
  rintro e W2 ⟨rfl, hR1, hg⟩
  replace b2 := b2.grown hg (by simp; omega)
  replace be := below_grown be hg (by omega)
  clear hR hg
  have hR := hR1
  clear hR1
  go_wp2_with fail
  refine (wordG W2 r B 2 ln hR (by omega) (by omega) x2.out).mono ?_
  clear x2
  rintro e W3 ⟨rfl, hR1, hg⟩
  replace b2 := b2.grown hg (by simp; omega)
  replace be := below_grown be hg (by omega)
  clear hR hg
  have hR := hR1
  clear hR1
  go_wp2_with fail
  refine (wordG W3 r B 4 id hR (by omega) (by omega) x3.out).mono ?_
  clear x3
  rintro e W4 ⟨rfl, hR1, hg⟩
  replace b2 := b2.grown hg (by simp; omega)
  replace be := below_grown be hg (by omega)
  clear hR hg
  have hR := hR1
  clear hR1
  have zr := hR.lt
  go_wp2_with fail
  have b8 : Bk (W4.alloc (.cells #[.int .u8 (ts : Int), .int .i64 (ln : Int), .int .u16 (id : Int), .bool false, .bool false, .int .i64 0, .int .u8 0, .int .u8 0, .int .u16 0, .bool false, .int .u64 0, .int .u64 0, .bool false, .int .u64 0, .int .u64 0, .slice none 0 0] 140)) W4.heap.size 140 [.int .u8 (ts : Int), .int .i64 (ln : Int), .int .u16 (id : Int), .bool false, .bool false, .int .i64 0, .int .u8 0, .int .u8 0, .int .u16 0, .bool false, .int .u64 0, .int .u64 0, .bool false, .int .u64 0, .int .u64 0, .slice none 0 0] := Bk.new W4 140 #[.int .u8 (ts : Int), .int .i64 (ln : Int), .int .u16 (id : Int), .bool false, .bool false, .int .i64 0, .int .u8 0, .int .u8 0, .int .u16 0, .bool false, .int .u64 0, .int .u64 0, .bool false, .int .u64 0, .int .u64 0, .slice none 0 0]
  replace b2 := b2.alloc (.cells #[.int .u8 (ts : Int), .int .i64 (ln : Int), .int .u16 (id : Int), .bool false, .bool false, .int .i64 0, .int .u8 0, .int .u8 0, .int .u16 0, .bool false, .int .u64 0, .int .u64 0, .bool false, .int .u64 0, .int .u64 0, .slice none 0 0] 140)
  replace be := Below.allocS be (.cells #[.int .u8 (ts : Int), .int .i64 (ln : Int), .int .u16 (id : Int), .bool false, .bool false, .int .i64 0, .int .u8 0, .int .u8 0, .int .u16 0, .bool false, .int .u64 0, .int .u64 0, .bool false, .int .u64 0, .int .u64 0, .slice none 0 0] 140)
  replace hR := hR.later ((Below.refl _ _).alloc (Nat.le_refl _) (.cells #[.int .u8 (ts : Int), .int .i64 (ln : Int), .int .u16 (id : Int), .bool false, .bool false, .int .i64 0, .int .u8 0, .int .u8 0, .int .u16 0, .bool false, .int .u64 0, .int .u64 0, .bool false, .int .u64 0, .int .u64 0, .slice none 0 0] 140))
  have zb := be.size
  generalize W4.alloc (.cells #[.int .u8 (ts : Int), .int .i64 (ln : Int), .int .u16 (id : Int), .bool false, .bool false, .int .i64 0, .int .u8 0, .int .u8 0, .int .u16 0, .bool false, .int .u64 0, .int .u64 0, .bool false, .int .u64 0, .int .u64 0, .slice none 0 0] 140) = V0 at *
  have zg : w.heap.size < W4.heap.size := by omega
  generalize W4.heap.size = g8 at *
  refine (wordG V0 r B 6 pl hR (by omega) (by omega) x4.out).mono ?_
  clear x4
  rintro e W5 ⟨rfl, hR1, hg⟩
  replace b2 := b2.grown hg (by simp; omega)
  replace b8 := b8.grown hg (by simp; omega)
  replace be := below_grown be hg (by omega)
  clear hR hg
  have hR := hR1
  clear hR1
  have y1 : W5.cell? ⟨g8, 1, none⟩ = some (.int .i64 (ln : Int)) := b8.cell 1
  have z8 := b8.lt
  clear zb
  go_wp2_with (refine at_op (.store 140 (.tmp 2) (.tmp 51)) rfl ?_; refine wpList_stA (t := 140) 140 (.tmp 2) (.tmp 51) rfl rfl (h4C 0 0 0 false false 0 0 0 0 false 0 0 false 0 0 none 0 0) (h4C 0 0 0 false false 0 0 0 0 false 0 0 false 0 0 none 0 0) rfl (h4C_one _ _ _ _ _ _ _ _ _ _ _ _ _ _ _ _ _ _) rfl rfl b2 (szH4 _ _ _ _ _ _ _ _ _ _ _ _ _ _ _ _ _ _) ?_; intro W9 h9 g9)
  refine bodyPost_agg3 Try.results128 rfl rfl rfl h9.range u1 u2 (szH4 _ _ _ _ _ _ _ _ _ _ _ _ _ _ _ _ _ _) rfl (RetV.mk ?_)
  exact below_grown be g9 (by omega)
set_option maxHeartbeats 4000000 in
set_option maxRecDepth 100000 in
theorem hdr4_f2 (A : Option Addr) (n c : Nat) (l : List UInt8) (w : World) (h : Rb w A n c l) (hm9 : n ≤ 1000000) (f ts ln id pl : Nat) (x0 : num ((l.drop 0).take 1) = f) (x1 : num ((l.drop 1).take 1) = ts) (x2 : num ((l.drop 2).take 2) = ln) (x3 : num ((l.drop 4).take 2) = id) (x4 : num ((l.drop 6).take 2) = pl) (hn : 20 ≤ n) (hb : f / 16 = 4) (hs : 4 * (f % 16) < 20) : Calls Try.prog 128 #[.slice A n c] w (RetV w (.tuple #[.agg (h4C 0 0 0 false false 0 0 0 0 false 0 0 false 0 0 none 0 0).toArray, .int .i64 0, .int .i64 21])) := by
  obtain ⟨du, u1, u2⟩ := rowH4
  have hc := h.2.1
  have hl := h.1
  have h20n : (20 : Int) ≤ (n : Int) := by omega
  have h20c : (20 : Int) ≤ (c : Int) := by omega
  have d20 : decide ((n : Int) < 20) = false := by simp only [decide_eq_false_iff_not]; omega
  have ht20 : Rb w A 20 c (l.take 20) := h.take (by omega)
  have hf8 : f < 256 := by rw [← x0]; exact num_lt' l 0 1 256 (by decide)
  have hpl : pl < 65536 := by rw [← x4]; exact num_lt' l 6 2 65536 (by decide)
  have hln : ln < 65536 := by rw [← x2]; exact num_lt' l 2 2 65536 (by decide)
  replace x0 : Hid (num (((l.take 20).drop 0).take 1) = f) := Lib.hid (by rw [num_in l 20 0 1 (by decide)]; exact x0)
  replace x1 : Hid (num (((l.take 20).drop 1).take 1) = ts) := Lib.hid (by rw [num_in l 20 1 1 (by decide)]; exact x1)
  replace x2 : Hid (num (((l.take 20).drop 2).take 2) = ln) := Lib.hid (by rw [num_in l 20 2 2 (by decide)]; exact x2)
  replace x3 : Hid (num (((l.take 20).drop 4).take 2) = id) := Lib.hid (by rw [num_in l 20 4 2 (by decide)]; exact x3)
  replace x4 : Hid (num (((l.take 20).drop 6).take 2) = pl) := Lib.hid (by rw [num_in l 20 6 2 (by decide)]; exact x4)
  have hB : (l.take 20).length = 20 := by rw [List.length_take]; omega
  have HR := Lib.hid (fun W (h : Rb W A 20 c (l.take 20)) => readK A 20 c (l.take 20) W h (by decide))
  generalize l.take 20 = B at *
  have hB1 : B.length ≤ 20 := by omega
  have hB2 : 20 ≤ B.length := by omega
  clear hB
  obtain ⟨m, hm⟩ : ∃ m : Nat, m = f % 16 := ⟨_, rfl⟩
  have e1 := u8_and15 f hf8
  rw [← hm] at e1
  obtain ⟨sz, hsz⟩ : ∃ s : Nat, s = 4 * m := ⟨_, rfl⟩
  have e2 : IntKind.i64.wrap (4 * (m : Int)) = (sz : Int) := by rw [IntWalk.i64_in _ (by omega)]; omega
  have e3 : IntKind.i64.wrap (m : Int) = (m : Int) := IntWalk.i64_in _ (by omega)
  have e4 : IntKind.i64.wrap (ln : Int) = (ln : Int) := IntWalk.i64_in _ (by omega)
  have hb1 : (f : Int) / 16 = 4 := by omega
  have hb1n : ((f : Int) / 16 != 4) = false := by rw [hb1]; rfl
  have qd0 : decide ((sz : Int) < 20) = true := by simp only [decide_eq_true_eq]; omega
  have qd1 : decide (sz < 20) = true := by simp only [decide_eq_true_eq]; omega
  clear hb1
  clear hm hsz
  have b2 : Bk (w.alloc (.cells #[.int .u8 0, .int .i64 0, .int .u16 0, .bool false, .bool false, .int .i64 0, .int .u8 0, .int .u8 0, .int .u16 0, .bool false, .int .u64 0, .int .u64 0, .bool false, .int .u64 0, .int .u64 0, .slice none 0 0] 140)) w.heap.size 140 (h4C 0 0 0 false false 0 0 0 0 false 0 0 false 0 0 none 0 0) := Bk.new w 140 #[.int .u8 0, .int .i64 0, .int .u16 0, .bool false, .bool false, .int .i64 0, .int .u8 0, .int .u8 0, .int .u16 0, .bool false, .int .u64 0, .int .u64 0, .bool false, .int .u64 0, .int .u64 0, .slice none 0 0]
  have be : Below w.heap.size w (w.alloc (.cells #[.int .u8 0, .int .i64 0, .int .u16 0, .bool false, .bool false, .int .i64 0, .int .u8 0, .int .u8 0, .int .u16 0, .bool false, .int .u64 0, .int .u64 0, .bool false, .int .u64 0, .int .u64 0, .slice none 0 0] 140)) := Below.allocS (Below.refl _ _) _
  go_enter Try.func128, Try.ntmps128
  go_wp2_with fail
  refine (HR.out _ (ht20.alloc _)).mono ?_
  rintro e w1 ⟨r, bs1, d1, rfl, rfl, hr1, hR⟩
  replace b2 := b2.later (below_plus _ bs1 d1)
  replace be := belowP be bs1 d1
  have hr2 : w.heap.size < r := by simp at hr1; omega
  generalize plus (w.alloc (.cells #[.int .u8 0, .int .i64 0, .int .u16 0, .bool false, .bool false, .int .i64 0, .int .u8 0, .int .u8 0, .int .u16 0, .bool false, .int .u64 0, .int .u64 0, .bool false, .int .u64 0, .int .u64 0, .slice none 0 0] 140)) bs1 d1 = W0 at *
  clear hr1
  go_wp2_with fail
  refine (byteG W0 r B 0 f hR (by omega) (by omega) x0.out).mono ?_
  clear x0
  rintro e W1 ⟨rfl, hR1, hg⟩
  replace b2 := b2.grown hg (by simp; omega)
  replace be := below_grown be hg (by omega)
  clear hR hg
  have hR := hR1
  clear hR1
  go_wp2_with fail
  refine (byteG W1 r B 1 ts hR (by omega) (by omega) x1.out).mono ?_
  clear x1
  rintro e W2 ⟨rfl, hR1, hg⟩
  replace b2 := b2.grown hg (by simp; omega)
  replace be := below_grown be hg (by omega)
  clear hR hg
  have hR := hR1
  clear hR1
  go_wp2_with fail
  refine (wordG W2 r B 2 ln hR (by omega) (by omega) x2.out).mono ?_
  clear x2
  rintro e W3 ⟨rfl, hR1, hg⟩
  replace b2 := b2.grown hg (by simp; omega)
  replace be := below_grown be hg (by omega)
  clear hR hg
  have hR := hR1
  clear hR1
  go_wp2_with fail
  refine (wordG W3 r B 4 id hR (by omega) (by omega) x3.out).mono ?_
  clear x3
  rintro e W4 ⟨rfl, hR1, hg⟩
  replace b2 := b2.grown hg (by simp; omega)
  replace be := below_grown be hg (by omega)
  clear hR hg
  have hR := hR1
  clear hR1
  have zr := hR.lt
  go_wp2_with fail
  have b8 : Bk (W4.alloc (.cells #[.int .u8 (ts : Int), .int .i64 (ln : Int), .int .u16 (id : Int), .bool false, .bool false, .int .i64 0, .int .u8 0, .int .u8 0, .int .u16 0, .bool false, .int .u64 0, .int .u64 0, .bool false, .int .u64 0, .int .u64 0, .slice none 0 0] 140)) W4.heap.size 140 [.int .u8 (ts : Int), .int .i64 (ln : Int), .int .u16 (id : Int), .bool false, .bool false, .int .i64 0, .int .u8 0, .int .u8 0, .int .u16 0, .bool false, .int .u64 0, .int .u64 0, .bool false, .int .u64 0, .int .u64 0, .slice none 0 0] := Bk.new W4 140 #[.int .u8 (ts : Int), .int .i64 (ln : Int), .int .u16 (id : Int), .bool false, .bool false, .int .i64 0, .int .u8 0, .int .u8 0, .int .u16 0, .bool false, .int .u64 0, .int .u64 0, .bool false, .int .u64 0, .int .u64 0, .slice none 0 0]
  replace b2 := b2.alloc (.cells #[.int .u8 (ts : Int), .int .i64 (ln : Int), .int .u16 (id : Int), .bool false, .bool false, .int .i64 0, .int .u8 0, .int .u8 0, .int .u16 0, .bool false, .int .u64 0, .int .u64 0, .bool false, .int .u64 0, .int .u64 0, .slice none 0 0] 140)
  replace be := Below.allocS be (.cells #[.int .u8 (ts : Int), .int .i64 (ln : Int), .int .u16 (id : Int), .bool false, .bool false, .int .i64 0, .int .u8 0, .int .u8 0, .int .u16 0, .bool false, .int .u64 0, .int .u64 0, .bool false, .int .u64 0, .int .u64 0, .slice none 0 0] 140)
  replace hR := hR.later ((Below.refl _ _).alloc (Nat.le_refl _) (.cells #[.int .u8 (ts : Int), .int .i64 (ln : Int), .int .u16 (id : Int), .bool false, .bool false, .int .i64 0, .int .u8 0, .int .u8 0, .int .u16 0, .bool false, .int .u64 0, .int .u64 0, .bool false, .int .u64 0, .int .u64 0, .slice none 0 0] 140))
  have zb := be.size
  generalize W4.alloc (.cells #[.int .u8 (ts : Int), .int .i64 (ln : Int), .int .u16 (id : Int), .bool false, .bool false, .int .i64 0, .int .u8 0, .int .u8 0, .int .u16 0, .bool false, .int .u64 0, .int .u64 0, .bool false, .int .u64 0, .int .u64 0, .slice none 0 0] 140) = V0 at *
  have zg : w.heap.size < W4.heap.size := by omega
  generalize W4.heap.size = g8 at *
  refine (wordG V0 r B 6 pl hR (by omega) (by omega) x4.out).mono ?_
  clear x4
  rintro e W5 ⟨rfl, hR1, hg⟩
  replace b2 := b2.grown hg (by simp; omega)
  replace b8 := b8.grown hg (by simp; omega)
  replace be := below_grown be hg (by omega)
  clear hR hg
  have hR := hR1
  clear hR1
  have y1 : W5.cell? ⟨g8, 1, none⟩ = some (.int .i64 (ln : Int)) := b8.cell 1
  have z8 := b8.lt
  clear zb
  go_wp2_with (refine at_op (.store 140 (.tmp 2) (.tmp 51)) rfl ?_; refine wpList_stA (t := 140) 140 (.tmp 2) (.tmp 51) rfl rfl (h4C 0 0 0 false false 0 0 0 0 false 0 0 false 0 0 none 0 0) (h4C 0 0 0 false false 0 0 0 0 false 0 0 false 0 0 none 0 0) rfl (h4C_one _ _ _ _ _ _ _ _ _ _ _ _ _ _ _ _ _ _) rfl rfl b2 (szH4 _ _ _ _ _ _ _ _ _ _ _ _ _ _ _ _ _ _) ?_; intro W9 h9 g9)
  refine bodyPost_agg3 Try.results128 rfl rfl rfl h9.range u1 u2 (szH4 _ _ _ _ _ _ _ _ _ _ _ _ _ _ _ _ _ _) rfl (RetV.mk ?_)
  exact below_grown be g9 (by omega)
set_option maxHeartbeats 4000000 in
set_option maxRecDepth 100000 in
theorem hdr4_f3 (A : Option Addr) (n c : Nat) (l : List UInt8) (w : World) (h : Rb w A n c l) (hm9 : n ≤ 1000000) (f ts ln id pl : Nat) (x0 : num ((l.drop 0).take 1) = f) (x1 : num ((l.drop 1).take 1) = ts) (x2 : num ((l.drop 2).take 2) = ln) (x3 : num ((l.drop 4).take 2) = id) (x4 : num ((l.drop 6).take 2) = pl) (hn : 20 ≤ n) (hb : f / 16 = 4) (hs : 20 ≤ 4 * (f % 16)) (hp9 : 32768 ≤ pl) : Calls Try.prog 128 #[.slice A n c] w (RetV w (.tuple #[.agg (h4C 0 0 0 false false 0 0 0 0 false 0 0 false 0 0 none 0 0).toArray, .int .i64 0, .int .i64 21])) := by
  obtain ⟨du, u1, u2⟩ := rowH4
  have hc := h.2.1
  have hl := h.1
  have h20n : (20 : Int) ≤ (n : Int) := by omega
  have h20c : (20 : Int) ≤ (c : Int) := by omega
  have d20 : decide ((n : Int) < 20) = false := by simp only [decide_eq_false_iff_not]; omega
  have ht20 : Rb w A 20 c (l.take 20) := h.take (by omega)
  have hf8 : f < 256 := by rw [← x0]; exact num_lt' l 0 1 256 (by decide)
  have hpl : pl < 65536 := by rw [← x4]; exact num_lt' l 6 2 65536 (by decide)
  have hln : ln < 65536 := by rw [← x2]; exact num_lt' l 2 2 65536 (by decide)
  replace x0 : Hid (num (((l.take 20).drop 0).take 1) = f) := Lib.hid (by rw [num_in l 20 0 1 (by decide)]; exact x0)
  replace x1 : Hid (num (((l.take 20).drop 1).take 1) = ts) := Lib.hid (by rw [num_in l 20 1 1 (by decide)]; exact x1)
  replace x2 : Hid (num (((l.take 20).drop 2).take 2) = ln) := Lib.hid (by rw [num_in l 20 2 2 (by decide)]; exact x2)
  replace x3 : Hid (num (((l.take 20).drop 4).take 2) = id) := Lib.hid (by rw [num_in l 20 4 2 (by decide)]; exact x3)
  replace x4 : Hid (num (((l.take 20).drop 6).take 2) = pl) := Lib.hid (by rw [num_in l 20 6 2 (by decide)]; exact x4)
  have hB : (l.take 20).length = 20 := by rw [List.length_take]; omega
  have HR := Lib.hid (fun W (h : Rb W A 20 c (l.take 20)) => readK A 20 c (l.take 20) W h (by decide))
  generalize l.take 20 = B at *
  have hB1 : B.length ≤ 20 := by omega
  have hB2 : 20 ≤ B.length := by omega
  clear hB
  obtain ⟨m, hm⟩ : ∃ m : Nat, m = f % 16 := ⟨_, rfl⟩
  have e1 := u8_and15 f hf8
  rw [← hm] at e1
  obtain ⟨sz, hsz⟩ : ∃ s : Nat, s = 4 * m := ⟨_, rfl⟩
  have e2 : IntKind.i64.wrap (4 * (m : Int)) = (sz : Int) := by rw [IntWalk.i64_in _ (by omega)]; omega
  have e3 : IntKind.i64.wrap (m : Int) = (m : Int) := IntWalk.i64_in _ (by omega)
  have e4 : IntKind.i64.wrap (ln : Int) = (ln : Int) := IntWalk.i64_in _ (by omega)
  have hb1 : (f : Int) / 16 = 4 := by omega
  have hb1n : ((f : Int) / 16 != 4) = false := by rw [hb1]; rfl
  have qd2 : decide ((sz : Int) < 20) = false := by simp only [decide_eq_false_iff_not]; omega
  have qd3 : decide (sz < 20) = false := by simp only [decide_eq_false_iff_not]; omega
  have hp0 : pl / 32768 % 2 = 1 := by omega
  have hp : bits .and .u16 (pl : Int) 32768 = 32768 := by rw [and15 pl hpl, hp0]; rfl
  clear hp0
  clear hb1
  clear hm hsz
  have b2 : Bk (w.alloc (.cells #[.int .u8 0, .int .i64 0, .int .u16 0, .bool false, .bool false, .int .i64 0, .int .u8 0, .int .u8 0, .int .u16 0, .bool false, .int .u64 0, .int .u64 0, .bool false, .int .u64 0, .int .u64 0, .slice none 0 0] 140)) w.heap.size 140 (h4C 0 0 0 false false 0 0 0 0 false 0 0 false 0 0 none 0 0) := Bk.new w 140 #[.int .u8 0, .int .i64 0, .int .u16 0, .bool false, .bool false, .int .i64 0, .int .u8 0, .int .u8 0, .int .u16 0, .bool false, .int .u64 0, .int .u64 0, .bool false, .int .u64 0, .int .u64 0, .slice none 0 0]
  have be : Below w.heap.size w (w.alloc (.cells #[.int .u8 0, .int .i64 0, .int .u16 0, .bool false, .bool false, .int .i64 0, .int .u8 0, .int .u8 0, .int .u16 0, .bool false, .int .u64 0, .int .u64 0, .bool false, .int .u64 0, .int .u64 0, .slice none 0 0] 140)) := Below.allocS (Below.refl _ _) _
  go_enter Try.func128, Try.ntmps128
  go_wp2_with fail
  refine (HR.out _ (ht20.alloc _)).mono ?_
  rintro e w1 ⟨r, bs1, d1, rfl, rfl, hr1, hR⟩
  replace b2 := b2.later (below_plus _ bs1 d1)
  replace be := belowP be bs1 d1
  have hr2 : w.heap.size < r := by simp at hr1; omega
  generalize plus (w.alloc (.cells #[.int .u8 0, .int .i64 0, .int .u16 0, .bool false, .bool false, .int .i64 0, .int .u8 0, .int .u8 0, .int .u16 0, .bool false, .int .u64 0, .int .u64 0, .bool false, .int .u64 0, .int .u64 0, .slice none 0 0] 140)) bs1 d1 = W0 at *
  clear hr1
  go_wp2_with fail
  refine (byteG W0 r B 0 f hR (by omega) (by omega) x0.out).mono ?_
  clear x0
  rintro e W1 ⟨rfl, hR1, hg⟩
  replace b2 := b2.grown hg (by simp; omega)
  replace be := below_grown be hg (by omega)
  clear hR hg
  have hR := hR1
  clear hR1
  go_wp2_with fail
  refine (byteG W1 r B 1 ts hR (by omega) (by omega) x1.out).mono ?_
  clear x1
  rintro e W2 ⟨rfl, hR1, hg⟩
  replace b2 := b2.grown hg (by simp; omega)
  replace be := below_grown be hg (by omega)
  clear hR hg
  have hR := hR1
  clear hR1
  go_wp2_with fail
  refine (wordG W2 r B 2 ln hR (by omega) (by omega) x2.out).mono ?_
  clear x2
  rintro e W3 ⟨rfl, hR1, hg⟩
  replace b2 := b2.grown hg (by simp; omega)
  replace be := below_grown be hg (by omega)
  clear hR hg
  have hR := hR1
  clear hR1
  go_wp2_with fail
  refine (wordG W3 r B 4 id hR (by omega) (by omega) x3.out).mono ?_
  clear x3
  rintro e W4 ⟨rfl, hR1, hg⟩
  replace b2 := b2.grown hg (by simp; omega)
  replace be := below_grown be hg (by omega)
  clear hR hg
  have hR := hR1
  clear hR1
  have zr := hR.lt
  go_wp2_with fail
  have b8 : Bk (W4.alloc (.cells #[.int .u8 (ts : Int), .int .i64 (ln : Int), .int .u16 (id : Int), .bool false, .bool false, .int .i64 0, .int .u8 0, .int .u8 0, .int .u16 0, .bool false, .int .u64 0, .int .u64 0, .bool false, .int .u64 0, .int .u64 0, .slice none 0 0] 140)) W4.heap.size 140 [.int .u8 (ts : Int), .int .i64 (ln : Int), .int .u16 (id : Int), .bool false, .bool false, .int .i64 0, .int .u8 0, .int .u8 0, .int .u16 0, .bool false, .int .u64 0, .int .u64 0, .bool false, .int .u64 0, .int .u64 0, .slice none 0 0] := Bk.new W4 140 #[.int .u8 (ts : Int), .int .i64 (ln : Int), .int .u16 (id : Int), .bool false, .bool false, .int .i64 0, .int .u8 0, .int .u8 0, .int .u16 0, .bool false, .int .u64 0, .int .u64 0, .bool false, .int .u64 0, .int .u64 0, .slice none 0 0]
  replace b2 := b2.alloc (.cells #[.int .u8 (ts : Int), .int .i64 (ln : Int), .int .u16 (id : Int), .bool false, .bool false, .int .i64 0, .int .u8 0, .int .u8 0, .int .u16 0, .bool false, .int .u64 0, .int .u64 0, .bool false, .int .u64 0, .int .u64 0, .slice none 0 0] 140)
  replace be := Below.allocS be (.cells #[.int .u8 (ts : Int), .int .i64 (ln : Int), .int .u16 (id : Int), .bool false, .bool false, .int .i64 0, .int .u8 0, .int .u8 0, .int .u16 0, .bool false, .int .u64 0, .int .u64 0, .bool false, .int .u64 0, .int .u64 0, .slice none 0 0] 140)
  replace hR := hR.later ((Below.refl _ _).alloc (Nat.le_refl _) (.cells #[.int .u8 (ts : Int), .int .i64 (ln : Int), .int .u16 (id : Int), .bool false, .bool false, .int .i64 0, .int .u8 0, .int .u8 0, .int .u16 0, .bool false, .int .u64 0, .int .u64 0, .bool false, .int .u64 0, .int .u64 0, .slice none 0 0] 140))
  have zb := be.size
  generalize W4.alloc (.cells #[.int .u8 (ts : Int), .int .i64 (ln : Int), .int .u16 (id : Int), .bool false, .bool false, .int .i64 0, .int .u8 0, .int .u8 0, .int .u16 0, .bool false, .int .u64 0, .int .u64 0, .bool false, .int .u64 0, .int .u64 0, .slice none 0 0] 140) = V0 at *
  have zg : w.heap.size < W4.heap.size := by omega
  generalize W4.heap.size = g8 at *
  refine (wordG V0 r B 6 pl hR (by omega) (by omega) x4.out).mono ?_
  clear x4
  rintro e W5 ⟨rfl, hR1, hg⟩
  replace b2 := b2.grown hg (by simp; omega)
  replace b8 := b8.grown hg (by simp; omega)
  replace be := below_grown be hg (by omega)
  clear hR hg
  have hR := hR1
  clear hR1
  have y1 : W5.cell? ⟨g8, 1, none⟩ = some (.int .i64 (ln : Int)) := b8.cell 1
  have z8 := b8.lt
  clear zb
  go_wp2_with (refine at_op (.store 140 (.tmp 2) (.tmp 51)) rfl ?_; refine wpList_stA (t := 140) 140 (.tmp 2) (.tmp 51) rfl rfl (h4C 0 0 0 false false 0 0 0 0 false 0 0 false 0 0 none 0 0) (h4C 0 0 0 false false 0 0 0 0 false 0 0 false 0 0 none 0 0) rfl (h4C_one _ _ _ _ _ _ _ _ _ _ _ _ _ _ _ _ _ _) rfl rfl b2 (szH4 _ _ _ _ _ _ _ _ _ _ _ _ _ _ _ _ _ _) ?_; intro W9 h9 g9)
  refine bodyPost_agg3 Try.results128 rfl rfl rfl h9.range u1 u2 (szH4 _ _ _ _ _ _ _ _ _ _ _ _ _ _ _ _ _ _) rfl (RetV.mk ?_)
  exact below_grown be g9 (by omega)
set_option maxHeartbeats 4000000 in
set_option maxRecDepth 100000 in
theorem hdr4_f4 (A : Option Addr) (n c : Nat) (l : List UInt8) (w : World) (h : Rb w A n c l) (hm9 : n ≤ 1000000) (f ts ln id pl : Nat) (x0 : num ((l.drop 0).take 1) = f) (x1 : num ((l.drop 1).take 1) = ts) (x2 : num ((l.drop 2).take 2) = ln) (x3 : num ((l.drop 4).take 2) = id) (x4 : num ((l.drop 6).take 2) = pl) (hn : 20 ≤ n) (hb : f / 16 = 4) (hs : 20 ≤ 4 * (f % 16)) (hp9 : pl < 32768) (hl9 : ln < 4 * (f % 16)) : Calls Try.prog 128 #[.slice A n c] w (RetV w (.tuple #[.agg (h4C 0 0 0 false false 0 0 0 0 false 0 0 false 0 0 none 0 0).toArray, .int .i64 0, .int .i64 21])) := by
  obtain ⟨du, u1, u2⟩ := rowH4
  have hc := h.2.1
  have hl := h.1
  have h20n : (20 : Int) ≤ (n : Int) := by omega
  have h20c : (20 : Int) ≤ (c : Int) := by omega
  have d20 : decide ((n : Int) < 20) = false := by simp only [decide_eq_false_iff_not]; omega
  have ht20 : Rb w A 20 c (l.take 20) := h.take (by omega)
  have hf8 : f < 256 := by rw [← x0]; exact num_lt' l 0 1 256 (by decide)
  have hpl : pl < 65536 := by rw [← x4]; exact num_lt' l 6 2 65536 (by decide)
  have hln : ln < 65536 := by rw [← x2]; exact num_lt' l 2 2 65536 (by decide)
  replace x0 : Hid (num (((l.take 20).drop 0).take 1) = f) := Lib.hid (by rw [num_in l 20 0 1 (by decide)]; exact x0)
  replace x1 : Hid (num (((l.take 20).drop 1).take 1) = ts) := Lib.hid (by rw [num_in l 20 1 1 (by decide)]; exact x1)
  replace x2 : Hid (num (((l.take 20).drop 2).take 2) = ln) := Lib.hid (by rw [num_in l 20 2 2 (by decide)]; exact x2)
  replace x3 : Hid (num (((l.take 20).drop 4).take 2) = id) := Lib.hid (by rw [num_in l 20 4 2 (by decide)]; exact x3)
  replace x4 : Hid (num (((l.take 20).drop 6).take 2) = pl) := Lib.hid (by rw [num_in l 20 6 2 (by decide)]; exact x4)
  have hB : (l.take 20).length = 20 := by rw [List.length_take]; omega
  have HR := Lib.hid (fun W (h : Rb W A 20 c (l.take 20)) => readK A 20 c (l.take 20) W h (by decide))
  generalize l.take 20 = B at *
  have hB1 : B.length ≤ 20 := by omega
  have hB2 : 20 ≤ B.length := by omega
  clear hB
  obtain ⟨m, hm⟩ : ∃ m : Nat, m = f % 16 := ⟨_, rfl⟩
  have e1 := u8_and15 f hf8
  rw [← hm] at e1
  obtain ⟨sz, hsz⟩ : ∃ s : Nat, s = 4 * m := ⟨_, rfl⟩
  have e2 : IntKind.i64.wrap (4 * (m : Int)) = (sz : Int) := by rw [IntWalk.i64_in _ (by omega)]; omega
  have e3 : IntKind.i64.wrap (m : Int) = (m : Int) := IntWalk.i64_in _ (by omega)
  have e4 : IntKind.i64.wrap (ln : Int) = (ln : Int) := IntWalk.i64_in _ (by omega)
  have hb1 : (f : Int) / 16 = 4 := by omega
  have hb1n : ((f : Int) / 16 != 4) = false := by rw [hb1]; rfl
  have qd4 : decide ((sz : Int) < 20) = false := by simp only [decide_eq_false_iff_not]; omega
  have qd5 : decide (sz < 20) = false := by simp only [decide_eq_false_iff_not]; omega
  have hp0 : pl / 32768 % 2 = 0 := by omega
  have hp : bits .and .u16 (pl : Int) 32768 = 0 := by rw [and15 pl hpl, hp0]; rfl
  clear hp0
  have qd6 : decide ((ln : Int) < (sz : Int)) = true := by simp only [decide_eq_true_eq]; omega
  have qd7 : decide (ln < sz) = true := by simp only [decide_eq_true_eq]; omega
  clear hb1
  clear hm hsz
  have b2 : Bk (w.alloc (.cells #[.int .u8 0, .int .i64 0, .int .u16 0, .bool false, .bool false, .int .i64 0, .int .u8 0, .int .u8 0, .int .u16 0, .bool false, .int .u64 0, .int .u64 0, .bool false, .int .u64 0, .int .u64 0, .slice none 0 0] 140)) w.heap.size 140 (h4C 0 0 0 false false 0 0 0 0 false 0 0 false 0 0 none 0 0) := Bk.new w 140 #[.int .u8 0, .int .i64 0, .int .u16 0, .bool false, .bool false, .int .i64 0, .int .u8 0, .int .u8 0, .int .u16 0, .bool false, .int .u64 0, .int .u64 0, .bool false, .int .u64 0, .int .u64 0, .slice none 0 0]
  have be : Below w.heap.size w (w.alloc (.cells #[.int .u8 0, .int .i64 0, .int .u16 0, .bool false, .bool false, .int .i64 0, .int .u8 0, .int .u8 0, .int .u16 0, .bool false, .int .u64 0, .int .u64 0, .bool false, .int .u64 0, .int .u64 0, .slice none 0 0] 140)) := Below.allocS (Below.refl _ _) _
  go_enter Try.func128, Try.ntmps128
  go_wp2_with fail
  refine (HR.out _ (ht20.alloc _)).mono ?_
  rintro e w1 ⟨r, bs1, d1, rfl, rfl, hr1, hR⟩
  replace b2 := b2.later (below_plus _ bs1 d1)
  replace be := belowP be bs1 d1
  have hr2 : w.heap.size < r := by simp at hr1; omega
  generalize plus (w.alloc (.cells #[.int .u8 0, .int .i64 0, .int .u16 0, .bool false, .bool false, .int .i64 0, .int .u8 0, .int .u8 0, .int .u16 0, .bool false, .int .u64 0, .int .u64 0, .bool false, .int .u64 0, .int .u64 0, .slice none 0 0] 140)) bs1 d1 = W0 at *
  clear hr1
  go_wp2_with fail
  refine (byteG W0 r B 0 f hR (by omega) (by omega) x0.out).mono ?_
  clear x0
  rintro e W1 ⟨rfl, hR1, hg⟩
  replace b2 := b2.grown hg (by simp; omega)
  replace be := below_grown be hg (by omega)
  clear hR hg
  have hR := hR1
  clear hR1
  go_wp2_with fail
  refine (byteG W1 r B 1 ts hR (by omega) (by omega) x1.out).mono ?_
  clear x1
  rintro e W2 ⟨rfl, hR1, hg⟩
  replace b2 := b2.grown hg (by simp; omega)
  replace be := below_grown be hg (by omega)
  clear hR hg
  have hR := hR1
  clear hR1
  go_wp2_with fail
  refine (wordG W2 r B 2 ln hR (by omega) (by omega) x2.out).mono ?_
  clear x2
  rintro e W3 ⟨rfl, hR1, hg⟩
  replace b2 := b2.grown hg (by simp; omega)
  replace be := below_grown be hg (by omega)
  clear hR hg
  have hR := hR1
  clear hR1
  go_wp2_with fail
  refine (wordG W3 r B 4 id hR (by omega) (by omega) x3.out).mono ?_
  clear x3
  rintro e W4 ⟨rfl, hR1, hg⟩
  replace b2 := b2.grown hg (by simp; omega)
  replace be := below_grown be hg (by omega)
  clear hR hg
  have hR := hR1
  clear hR1
  have zr := hR.lt
  go_wp2_with fail
  have b8 : Bk (W4.alloc (.cells #[.int .u8 (ts : Int), .int .i64 (ln : Int), .int .u16 (id : Int), .bool false, .bool false, .int .i64 0, .int .u8 0, .int .u8 0, .int .u16 0, .bool false, .int .u64 0, .int .u64 0, .bool false, .int .u64 0, .int .u64 0, .slice none 0 0] 140)) W4.heap.size 140 [.int .u8 (ts : Int), .int .i64 (ln : Int), .int .u16 (id : Int), .bool false, .bool false, .int .i64 0, .int .u8 0, .int .u8 0, .int .u16 0, .bool false, .int .u64 0, .int .u64 0, .bool false, .int .u64 0, .int .u64 0, .slice none 0 0] := Bk.new W4 140 #[.int .u8 (ts : Int), .int .i64 (ln : Int), .int .u16 (id : Int), .bool false, .bool false, .int .i64 0, .int .u8 0, .int .u8 0, .int .u16 0, .bool false, .int .u64 0, .int .u64 0, .bool false, .int .u64 0, .int .u64 0, .slice none 0 0]
  replace b2 := b2.alloc (.cells #[.int .u8 (ts : Int), .int .i64 (ln : Int), .int .u16 (id : Int), .bool false, .bool false, .int .i64 0, .int .u8 0, .int .u8 0, .int .u16 0, .bool false, .int .u64 0, .int .u64 0, .bool false, .int .u64 0, .int .u64 0, .slice none 0 0] 140)
  replace be := Below.allocS be (.cells #[.int .u8 (ts : Int), .int .i64 (ln : Int), .int .u16 (id : Int), .bool false, .bool false, .int .i64 0, .int .u8 0, .int .u8 0, .int .u16 0, .bool false, .int .u64 0, .int .u64 0, .bool false, .int .u64 0, .int .u64 0, .slice none 0 0] 140)
  replace hR := hR.later ((Below.refl _ _).alloc (Nat.le_refl _) (.cells #[.int .u8 (ts : Int), .int .i64 (ln : Int), .int .u16 (id : Int), .bool false, .bool false, .int .i64 0, .int .u8 0, .int .u8 0, .int .u16 0, .bool false, .int .u64 0, .int .u64 0, .bool false, .int .u64 0, .int .u64 0, .slice none 0 0] 140))
  have zb := be.size
  generalize W4.alloc (.cells #[.int .u8 (ts : Int), .int .i64 (ln : Int), .int .u16 (id : Int), .bool false, .bool false, .int .i64 0, .int .u8 0, .int .u8 0, .int .u16 0, .bool false, .int .u64 0, .int .u64 0, .bool false, .int .u64 0, .int .u64 0, .slice none 0 0] 140) = V0 at *
  have zg : w.heap.size < W4.heap.size := by omega
  generalize W4.heap.size = g8 at *
  refine (wordG V0 r B 6 pl hR (by omega) (by omega) x4.out).mono ?_
  clear x4
  rintro e W5 ⟨rfl, hR1, hg⟩
  replace b2 := b2.grown hg (by simp; omega)
  replace b8 := b8.grown hg (by simp; omega)
  replace be := below_grown be hg (by omega)
  clear hR hg
  have hR := hR1
  clear hR1
  have y1 : W5.cell? ⟨g8, 1, none⟩ = some (.int .i64 (ln : Int)) := b8.cell 1
  have z8 := b8.lt
  clear zb
  go_wp2_with (refine at_op (.store 140 (.tmp 2) (.tmp 51)) rfl ?_; refine wpList_stA (t := 140) 140 (.tmp 2) (.tmp 51) rfl rfl (h4C 0 0 0 false false 0 0 0 0 false 0 0 false 0 0 none 0 0) (h4C 0 0 0 false false 0 0 0 0 false 0 0 false 0 0 none 0 0) rfl (h4C_one _ _ _ _ _ _ _ _ _ _ _ _ _ _ _ _ _ _) rfl rfl b2 (szH4 _ _ _ _ _ _ _ _ _ _ _ _ _ _ _ _ _ _) ?_; intro W9 h9 g9)
  refine bodyPost_agg3 Try.results128 rfl rfl rfl h9.range u1 u2 (szH4 _ _ _ _ _ _ _ _ _ _ _ _ _ _ _ _ _ _) rfl (RetV.mk ?_)
  exact below_grown be g9 (by omega)
end Go.Proofs.Ytfmkndemkpecpaa

/- ip4.header of well-formed bytes. -/
namespace Go.Proofs.Ytfmkndemkpecpaa
open Go.RowKit
set_option linter.unusedVariables false
set_option linter.unusedSimpArgs false
attribute [local go_sem ↓] sliced_cut

attribute [local go_sem] cutA_zero

set_option maxHeartbeats 4000000 in
set_option maxRecDepth 100000 in
theorem hdr4_l1 (A : Option Addr) (n c : Nat) (l : List UInt8) (w : World) (h : Rb w A n c l) (hm9 : n ≤ 1000000) (f ts ln id pl : Nat) (x0 : num ((l.drop 0).take 1) = f) (x1 : num ((l.drop 1).take 1) = ts) (x2 : num ((l.drop 2).take 2) = ln) (x3 : num ((l.drop 4).take 2) = id) (x4 : num ((l.drop 6).take 2) = pl) (hn : 20 ≤ n) (hb : f / 16 = 4) (hs : 20 ≤ 4 * (f % 16)) (hp9 : pl < 32768) (hl9 : 4 * (f % 16) ≤ ln) (hq : n < 4 * (f % 16)) : Calls Try.prog 128 #[.slice A n c] w (RetV w (.tuple #[.agg (h4C 0 0 0 false false 0 0 0 0 false 0 0 false 0 0 none 0 0).toArray, .int .i64 0, .int .i64 20])) := by
  obtain ⟨du, u1, u2⟩ := rowH4
  have hc := h.2.1
  have hl := h.1
  have h20n : (20 : Int) ≤ (n : Int) := by omega
  have h20c : (20 : Int) ≤ (c : Int) := by omega
  have d20 : decide ((n : Int) < 20) = false := by simp only [decide_eq_false_iff_not]; omega
  have ht20 : Rb w A 20 c (l.take 20) := h.take (by omega)
  have hf8 : f < 256 := by rw [← x0]; exact num_lt' l 0 1 256 (by decide)
  have hpl : pl < 65536 := by rw [← x4]; exact num_lt' l 6 2 65536 (by decide)
  have hln : ln < 65536 := by rw [← x2]; exact num_lt' l 2 2 65536 (by decide)
  replace x0 : Hid (num (((l.take 20).drop 0).take 1) = f) := Lib.hid (by rw [num_in l 20 0 1 (by decide)]; exact x0)
  replace x1 : Hid (num (((l.take 20).drop 1).take 1) = ts) := Lib.hid (by rw [num_in l 20 1 1 (by decide)]; exact x1)
  replace x2 : Hid (num (((l.take 20).drop 2).take 2) = ln) := Lib.hid (by rw [num_in l 20 2 2 (by decide)]; exact x2)
  replace x3 : Hid (num (((l.take 20).drop 4).take 2) = id) := Lib.hid (by rw [num_in l 20 4 2 (by decide)]; exact x3)
  replace x4 : Hid (num (((l.take 20).drop 6).take 2) = pl) := Lib.hid (by rw [num_in l 20 6 2 (by decide)]; exact x4)
  have hB : (l.take 20).length = 20 := by rw [List.length_take]; omega
  have HR := Lib.hid (fun W (h : Rb W A 20 c (l.take 20)) => readK A 20 c (l.take 20) W h (by decide))
  generalize l.take 20 = B at *
  have hB1 : B.length ≤ 20 := by omega
  have hB2 : 20 ≤ B.length := by omega
  clear hB
  obtain ⟨m, hm⟩ : ∃ m : Nat, m = f % 16 := ⟨_, rfl⟩
  have e1 := u8_and15 f hf8
  rw [← hm] at e1
  obtain ⟨sz, hsz⟩ : ∃ s : Nat, s = 4 * m := ⟨_, rfl⟩
  have e2 : IntKind.i64.wrap (4 * (m : Int)) = (sz : Int) := by rw [IntWalk.i64_in _ (by omega)]; omega
  have e3 : IntKind.i64.wrap (m : Int) = (m : Int) := IntWalk.i64_in _ (by omega)
  have e4 : IntKind.i64.wrap (ln : Int) = (ln : Int) := IntWalk.i64_in _ (by omega)
  have hb1 : (f : Int) / 16 = 4 := by omega
  have hb1n : ((f : Int) / 16 != 4) = false := by rw [hb1]; rfl
  have qd8 : decide ((sz : Int) < 20) = false := by simp only [decide_eq_false_iff_not]; omega
  have qd9 : decide (sz < 20) = false := by simp only [decide_eq_false_iff_not]; omega
  have hp0 : pl / 32768 % 2 = 0 := by omega
  have hp : bits .and .u16 (pl : Int) 32768 = 0 := by rw [and15 pl hpl, hp0]; rfl
  clear hp0
  have qd10 : decide ((ln : Int) < (sz : Int)) = false := by simp only [decide_eq_false_iff_not]; omega
  have qd11 : decide (ln < sz) = false := by simp only [decide_eq_false_iff_not]; omega
  have qd12 : decide ((n : Int) < (sz : Int)) = true := by simp only [decide_eq_true_eq]; omega
  have qd13 : decide (n < sz) = true := by simp only [decide_eq_true_eq]; omega
  clear hm hsz hb1
  have b2 : Bk (w.alloc (.cells #[.int .u8 0, .int .i64 0, .int .u16 0, .bool false, .bool false, .int .i64 0, .int .u8 0, .int .u8 0, .int .u16 0, .bool false, .int .u64 0, .int .u64 0, .bool false, .int .u64 0, .int .u64 0, .slice none 0 0] 140)) w.heap.size 140 (h4C 0 0 0 false false 0 0 0 0 false 0 0 false 0 0 none 0 0) := Bk.new w 140 #[.int .u8 0, .int .i64 0, .int .u16 0, .bool false, .bool false, .int .i64 0, .int .u8 0, .int .u8 0, .int .u16 0, .bool false, .int .u64 0, .int .u64 0, .bool false, .int .u64 0, .int .u64 0, .slice none 0 0]
  have be : Below w.heap.size w (w.alloc (.cells #[.int .u8 0, .int .i64 0, .int .u16 0, .bool false, .bool false, .int .i64 0, .int .u8 0, .int .u8 0, .int .u16 0, .bool false, .int .u64 0, .int .u64 0, .bool false, .int .u64 0, .int .u64 0, .slice none 0 0] 140)) := Below.allocS (Below.refl _ _) _
  go_enter Try.func128, Try.ntmps128
  go_wp2_with fail
  refine (HR.out _ (ht20.alloc _)).mono ?_
  rintro e w1 ⟨r, bs1, d1, rfl, rfl, hr1, hR⟩
  replace b2 := b2.later (below_plus _ bs1 d1)
  replace be := belowP be bs1 d1
  have hr2 : w.heap.size < r := by simp at hr1; omega
  generalize plus (w.alloc (.cells #[.int .u8 0, .int .i64 0, .int .u16 0, .bool false, .bool false, .int .i64 0, .int .u8 0, .int .u8 0, .int .u16 0, .bool false, .int .u64 0, .int .u64 0, .bool false, .int .u64 0, .int .u64 0, .slice none 0 0] 140)) bs1 d1 = W0 at *
  clear hr1
  go_wp2_with fail
  refine (byteG W0 r B 0 f hR (by omega) (by omega) x0.out).mono ?_
  clear x0
  rintro e W1 ⟨rfl, hR1, hg⟩
  replace b2 := b2.grown hg (by simp; omega)
  replace be := below_grown be hg (by omega)
  clear hR hg
  have hR := hR1
  clear hR1
  go_wp2_with fail
  refine (byteG W1 r B 1 ts hR (by omega) (by omega) x1.out).mono ?_
  clear x1
  rintro e W2 ⟨rfl, hR1, hg⟩
  replace b2 := b2.grown hg (by simp; omega)
  replace be := below_grown be hg (by omega)
  clear hR hg
  have hR := hR1
  clear hR1
  go_wp2_with fail
  refine (wordG W2 r B 2 ln hR (by omega) (by omega) x2.out).mono ?_
  clear x2
  rintro e W3 ⟨rfl, hR1, hg⟩
  replace b2 := b2.grown hg (by simp; omega)
  replace be := below_grown be hg (by omega)
  clear hR hg
  have hR := hR1
  clear hR1
  go_wp2_with fail
  refine (wordG W3 r B 4 id hR (by omega) (by omega) x3.out).mono ?_
  clear x3
  rintro e W4 ⟨rfl, hR1, hg⟩
  replace b2 := b2.grown hg (by simp; omega)
  replace be := below_grown be hg (by omega)
  clear hR hg
  have hR := hR1
  clear hR1
  have zr := hR.lt
  go_wp2_with fail
  have b8 : Bk (W4.alloc (.cells #[.int .u8 (ts : Int), .int .i64 (ln : Int), .int .u16 (id : Int), .bool false, .bool false, .int .i64 0, .int .u8 0, .int .u8 0, .int .u16 0, .bool false, .int .u64 0, .int .u64 0, .bool false, .int .u64 0, .int .u64 0, .slice none 0 0] 140)) W4.heap.size 140 [.int .u8 (ts : Int), .int .i64 (ln : Int), .int .u16 (id : Int), .bool false, .bool false, .int .i64 0, .int .u8 0, .int .u8 0, .int .u16 0, .bool false, .int .u64 0, .int .u64 0, .bool false, .int .u64 0, .int .u64 0, .slice none 0 0] := Bk.new W4 140 #[.int .u8 (ts : Int), .int .i64 (ln : Int), .int .u16 (id : Int), .bool false, .bool false, .int .i64 0, .int .u8 0, .int .u8 0, .int .u16 0, .bool false, .int .u64 0, .int .u64 0, .bool false, .int .u64 0, .int .u64 0, .slice none 0 0]
  replace b2 := b2.alloc (.cells #[.int .u8 (ts : Int), .int .i64 (ln : Int), .int .u16 (id : Int), .bool false, .bool false, .int .i64 0, .int .u8 0, .int .u8 0, .int .u16 0, .bool false, .int .u64 0, .int .u64 0, .bool false, .int .u64 0, .int .u64 0, .slice none 0 0] 140)
  replace be := Below.allocS be (.cells #[.int .u8 (ts : Int), .int .i64 (ln : Int), .int .u16 (id : Int), .bool false, .bool false, .int .i64 0, .int .u8 0, .int .u8 0, .int .u16 0, .bool false, .int .u64 0, .int .u64 0, .bool false, .int .u64 0, .int .u64 0, .slice none 0 0] 140)
  replace hR := hR.later ((Below.refl _ _).alloc (Nat.le_refl _) (.cells #[.int .u8 (ts : Int), .int .i64 (ln : Int), .int .u16 (id : Int), .bool false, .bool false, .int .i64 0, .int .u8 0, .int .u8 0, .int .u16 0, .bool false, .int .u64 0, .int .u64 0, .bool false, .int .u64 0, .int .u64 0, .slice none 0 0] 140))
  have zb := be.size
  generalize W4.alloc (.cells #[.int .u8 (ts : Int), .int .i64 (ln : Int), .int .u16 (id : Int), .bool false, .bool false, .int .i64 0, .int .u8 0, .int .u8 0, .int .u16 0, .bool false, .int .u64 0, .int .u64 0, .bool false, .int .u64 0, .int .u64 0, .slice none 0 0] 140) = V0 at *
  have zg : w.heap.size < W4.heap.size := by omega
  generalize W4.heap.size = g8 at *
  refine (wordG V0 r B 6 pl hR (by omega) (by omega) x4.out).mono ?_
  clear x4
  rintro e W5 ⟨rfl, hR1, hg⟩
  replace b2 := b2.grown hg (by simp; omega)
  replace b8 := b8.grown hg (by simp; omega)
  replace be := below_grown be hg (by omega)
  clear hR hg
  have hR := hR1
  clear hR1
  have y1 : W5.cell? ⟨g8, 1, none⟩ = some (.int .i64 (ln : Int)) := b8.cell 1
  have z8 := b8.lt
  clear zb
  go_wp2_with (refine at_op (.store 140 (.tmp 2) (.tmp 63)) rfl ?_; refine wpList_stA (t := 140) 140 (.tmp 2) (.tmp 63) rfl rfl (h4C 0 0 0 false false 0 0 0 0 false 0 0 false 0 0 none 0 0) (h4C 0 0 0 false false 0 0 0 0 false 0 0 false 0 0 none 0 0) rfl (h4C_one _ _ _ _ _ _ _ _ _ _ _ _ _ _ _ _ _ _) rfl rfl b2 (szH4 _ _ _ _ _ _ _ _ _ _ _ _ _ _ _ _ _ _) ?_; intro W9 h9 g9)
  refine bodyPost_agg3 Try.results128 rfl rfl rfl h9.range u1 u2 (szH4 _ _ _ _ _ _ _ _ _ _ _ _ _ _ _ _ _ _) rfl (RetV.mk ?_)
  exact below_grown be g9 (by omega)
set_option maxHeartbeats 4000000 in
set_option maxRecDepth 100000 in
theorem hdr4_l2 (A : Option Addr) (n c : Nat) (l : List UInt8) (w : World) (h : Rb w A n c l) (hm9 : n ≤ 1000000) (f ts ln id pl : Nat) (x0 : num ((l.drop 0).take 1) = f) (x1 : num ((l.drop 1).take 1) = ts) (x2 : num ((l.drop 2).take 2) = ln) (x3 : num ((l.drop 4).take 2) = id) (x4 : num ((l.drop 6).take 2) = pl) (hn : 20 ≤ n) (hb : f / 16 = 4) (hs : 20 ≤ 4 * (f % 16)) (hp9 : pl < 32768) (hl9 : 4 * (f % 16) ≤ ln) (hq0 : 4 * (f % 16) ≤ n) (hq : n < ln) : Calls Try.prog 128 #[.slice A n c] w (RetV w (.tuple #[.agg (h4C 0 0 0 false false 0 0 0 0 false 0 0 false 0 0 none 0 0).toArray, .int .i64 0, .int .i64 20])) := by
  obtain ⟨du, u1, u2⟩ := rowH4
  have hc := h.2.1
  have hl := h.1
  have h20n : (20 : Int) ≤ (n : Int) := by omega
  have h20c : (20 : Int) ≤ (c : Int) := by omega
  have d20 : decide ((n : Int) < 20) = false := by simp only [decide_eq_false_iff_not]; omega
  have ht20 : Rb w A 20 c (l.take 20) := h.take (by omega)
  have hf8 : f < 256 := by rw [← x0]; exact num_lt' l 0 1 256 (by decide)
  have hpl : pl < 65536 := by rw [← x4]; exact num_lt' l 6 2 65536 (by decide)
  have hln : ln < 65536 := by rw [← x2]; exact num_lt' l 2 2 65536 (by decide)
  replace x0 : Hid (num (((l.take 20).drop 0).take 1) = f) := Lib.hid (by rw [num_in l 20 0 1 (by decide)]; exact x0)
  replace x1 : Hid (num (((l.take 20).drop 1).take 1) = ts) := Lib.hid (by rw [num_in l 20 1 1 (by decide)]; exact x1)
  replace x2 : Hid (num (((l.take 20).drop 2).take 2) = ln) := Lib.hid (by rw [num_in l 20 2 2 (by decide)]; exact x2)
  replace x3 : Hid (num (((l.take 20).drop 4).take 2) = id) := Lib.hid (by rw [num_in l 20 4 2 (by decide)]; exact x3)
  replace x4 : Hid (num (((l.take 20).drop 6).take 2) = pl) := Lib.hid (by rw [num_in l 20 6 2 (by decide)]; exact x4)
  have hB : (l.take 20).length = 20 := by rw [List.length_take]; omega
  have HR := Lib.hid (fun W (h : Rb W A 20 c (l.take 20)) => readK A 20 c (l.take 20) W h (by decide))
  generalize l.take 20 = B at *
  have hB1 : B.length ≤ 20 := by omega
  have hB2 : 20 ≤ B.length := by omega
  clear hB
  obtain ⟨m, hm⟩ : ∃ m : Nat, m = f % 16 := ⟨_, rfl⟩
  have e1 := u8_and15 f hf8
  rw [← hm] at e1
  obtain ⟨sz, hsz⟩ : ∃ s : Nat, s = 4 * m := ⟨_, rfl⟩
  have e2 : IntKind.i64.wrap (4 * (m : Int)) = (sz : Int) := by rw [IntWalk.i64_in _ (by omega)]; omega
  have e3 : IntKind.i64.wrap (m : Int) = (m : Int) := IntWalk.i64_in _ (by omega)
  have e4 : IntKind.i64.wrap (ln : Int) = (ln : Int) := IntWalk.i64_in _ (by omega)
  have hb1 : (f : Int) / 16 = 4 := by omega
  have hb1n : ((f : Int) / 16 != 4) = false := by rw [hb1]; rfl
  have qd8 : decide ((sz : Int) < 20) = false := by simp only [decide_eq_false_iff_not]; omega
  have qd9 : decide (sz < 20) = false := by simp only [decide_eq_false_iff_not]; omega
  have hp0 : pl / 32768 % 2 = 0 := by omega
  have hp : bits .and .u16 (pl : Int) 32768 = 0 := by rw [and15 pl hpl, hp0]; rfl
  clear hp0
  have qd10 : decide ((ln : Int) < (sz : Int)) = false := by simp only [decide_eq_false_iff_not]; omega
  have qd11 : decide (ln < sz) = false := by simp only [decide_eq_false_iff_not]; omega
  have qd14 : decide ((n : Int) < (sz : Int)) = false := by simp only [decide_eq_false_iff_not]; omega
  have qd15 : decide (n < sz) = false := by simp only [decide_eq_false_iff_not]; omega
  have qd16 : decide ((n : Int) < (ln : Int)) = true := by simp only [decide_eq_true_eq]; omega
  have qd17 : decide (n < ln) = true := by simp only [decide_eq_true_eq]; omega
  clear hm hsz hb1
  have b2 : Bk (w.alloc (.cells #[.int .u8 0, .int .i64 0, .int .u16 0, .bool false, .bool false, .int .i64 0, .int .u8 0, .int .u8 0, .int .u16 0, .bool false, .int .u64 0, .int .u64 0, .bool false, .int .u64 0, .int .u64 0, .slice none 0 0] 140)) w.heap.size 140 (h4C 0 0 0 false false 0 0 0 0 false 0 0 false 0 0 none 0 0) := Bk.new w 140 #[.int .u8 0, .int .i64 0, .int .u16 0, .bool false, .bool false, .int .i64 0, .int .u8 0, .int .u8 0, .int .u16 0, .bool false, .int .u64 0, .int .u64 0, .bool false, .int .u64 0, .int .u64 0, .slice none 0 0]
  have be : Below w.heap.size w (w.alloc (.cells #[.int .u8 0, .int .i64 0, .int .u16 0, .bool false, .bool false, .int .i64 0, .int .u8 0, .int .u8 0, .int .u16 0, .bool false, .int .u64 0, .int .u64 0, .bool false, .int .u64 0, .int .u64 0, .slice none 0 0] 140)) := Below.allocS (Below.refl _ _) _
  go_enter Try.func128, Try.ntmps128
  go_wp2_with fail
  refine (HR.out _ (ht20.alloc _)).mono ?_
  rintro e w1 ⟨r, bs1, d1, rfl, rfl, hr1, hR⟩
  replace b2 := b2.later (below_plus _ bs1 d1)
  replace be := belowP be bs1 d1
  have hr2 : w.heap.size < r := by simp at hr1; omega
  generalize plus (w.alloc (.cells #[.int .u8 0, .int .i64 0, .int .u16 0, .bool false, .bool false, .int .i64 0, .int .u8 0, .int .u8 0, .int .u16 0, .bool false, .int .u64 0, .int .u64 0, .bool false, .int .u64 0, .int .u64 0, .slice none 0 0] 140)) bs1 d1 = W0 at *
  clear hr1
  go_wp2_with fail
  refine (byteG W0 r B 0 f hR (by omega) (by omega) x0.out).mono ?_
  clear x0
  rintro e W1 ⟨rfl, hR1, hg⟩
  replace b2 := b2.grown hg (by simp; omega)
  replace be := below_grown be hg (by omega)
  clear hR hg
  have hR := hR1
  clear hR1
  go_wp2_with fail
  refine (byteG W1 r B 1 ts hR (by omega) (by omega) x1.out).mono ?_
  clear x1
  rintro e W2 ⟨rfl, hR1, hg⟩
  replace b2 := b2.grown hg (by simp; omega)
  replace be := below_grown be hg (by omega)
  clear hR hg
  have hR := hR1
  clear hR1
  go_wp2_with fail
  refine (wordG W2 r B 2 ln hR (by omega) (by omega) x2.out).mono ?_
  clear x2
  rintro e W3 ⟨rfl, hR1, hg⟩
  replace b2 := b2.grown hg (by simp; omega)
  replace be := below_grown be hg (by omega)
  clear hR hg
  have hR := hR1
  clear hR1
  go_wp2_with fail
  refine (wordG W3 r B 4 id hR (by omega) (by omega) x3.out).mono ?_
  clear x3
  rintro e W4 ⟨rfl, hR1, hg⟩
  replace b2 := b2.grown hg (by simp; omega)
  replace be := below_grown be hg (by omega)
  clear hR hg
  have hR := hR1
  clear hR1
  have zr := hR.lt
  go_wp2_with fail
  have b8 : Bk (W4.alloc (.cells #[.int .u8 (ts : Int), .int .i64 (ln : Int), .int .u16 (id : Int), .bool false, .bool false, .int .i64 0, .int .u8 0, .int .u8 0, .int .u16 0, .bool false, .int .u64 0, .int .u64 0, .bool false, .int .u64 0, .int .u64 0, .slice none 0 0] 140)) W4.heap.size 140 [.int .u8 (ts : Int), .int .i64 (ln : Int), .int .u16 (id : Int), .bool false, .bool false, .int .i64 0, .int .u8 0, .int .u8 0, .int .u16 0, .bool false, .int .u64 0, .int .u64 0, .bool false, .int .u64 0, .int .u64 0, .slice none 0 0] := Bk.new W4 140 #[.int .u8 (ts : Int), .int .i64 (ln : Int), .int .u16 (id : Int), .bool false, .bool false, .int .i64 0, .int .u8 0, .int .u8 0, .int .u16 0, .bool false, .int .u64 0, .int .u64 0, .bool false, .int .u64 0, .int .u64 0, .slice none 0 0]
  replace b2 := b2.alloc (.cells #[.int .u8 (ts : Int), .int .i64 (ln : Int), .int .u16 (id : Int), .bool false, .bool false, .int .i64 0, .int .u8 0, .int .u8 0, .int .u16 0, .bool false, .int .u64 0, .int .u64 0, .bool false, .int .u64 0, .int .u64 0, .slice none 0 0] 140)
  replace be := Below.allocS be (.cells #[.int .u8 (ts : Int), .int .i64 (ln : Int), .int .u16 (id : Int), .bool false, .bool false, .int .i64 0, .int .u8 0, .int .u8 0, .int .u16 0, .bool false, .int .u64 0, .int .u64 0, .bool false, .int .u64 0, .int .u64 0, .slice none 0 0] 140)
  replace hR := hR.later ((Below.refl _ _).alloc (Nat.le_refl _) (.cells #[.int .u8 (ts : Int), .int .i64 (ln : Int), .int .u16 (id : Int), .bool false, .bool false, .int .i64 0, .int .u8 0, .int .u8 0, .int .u16 0, .bool false, .int .u64 0, .int .u64 0, .bool false, .int .u64 0, .int .u64 0, .slice none 0 0] 140))
  have zb := be.size
  generalize W4.alloc (.cells #[.int .u8 (ts : Int), .int .i64 (ln : Int), .int .u16 (id : Int), .bool false, .bool false, .int .i64 0, .int .u8 0, .int .u8 0, .int .u16 0, .bool false, .int .u64 0, .int .u64 0, .bool false, .int .u64 0, .int .u64 0, .slice none 0 0] 140) = V0 at *
  have zg : w.heap.size < W4.heap.size := by omega
  generalize W4.heap.size = g8 at *
  refine (wordG V0 r B 6 pl hR (by omega) (by omega) x4.out).mono ?_
  clear x4
  rintro e W5 ⟨rfl, hR1, hg⟩
  replace b2 := b2.grown hg (by simp; omega)
  replace b8 := b8.grown hg (by simp; omega)
  replace be := below_grown be hg (by omega)
  clear hR hg
  have hR := hR1
  clear hR1
  have y1 : W5.cell? ⟨g8, 1, none⟩ = some (.int .i64 (ln : Int)) := b8.cell 1
  have z8 := b8.lt
  clear zb
  go_wp2_with (refine at_op (.store 140 (.tmp 2) (.tmp 63)) rfl ?_; refine wpList_stA (t := 140) 140 (.tmp 2) (.tmp 63) rfl rfl (h4C 0 0 0 false false 0 0 0 0 false 0 0 false 0 0 none 0 0) (h4C 0 0 0 false false 0 0 0 0 false 0 0 false 0 0 none 0 0) rfl (h4C_one _ _ _ _ _ _ _ _ _ _ _ _ _ _ _ _ _ _) rfl rfl b2 (szH4 _ _ _ _ _ _ _ _ _ _ _ _ _ _ _ _ _ _) ?_; intro W9 h9 g9)
  refine bodyPost_agg3 Try.results128 rfl rfl rfl h9.range u1 u2 (szH4 _ _ _ _ _ _ _ _ _ _ _ _ _ _ _ _ _ _) rfl (RetV.mk ?_)
  exact below_grown be g9 (by omega)
set_option maxHeartbeats 4000000 in
set_option maxRecDepth 100000 in
theorem hdr4_sum (A : Option Addr) (n c : Nat) (l : List UInt8) (w : World) (h : Rb w A n c l) (hm9 : n ≤ 1000000) (f ts ln id pl : Nat) (x0 : num ((l.drop 0).take 1) = f) (x1 : num ((l.drop 1).take 1) = ts) (x2 : num ((l.drop 2).take 2) = ln) (x3 : num ((l.drop 4).take 2) = id) (x4 : num ((l.drop 6).take 2) = pl) (hn : 20 ≤ n) (hb : f / 16 = 4) (hs : 20 ≤ 4 * (f % 16)) (hp9 : pl < 32768) (hl9 : 4 * (f % 16) ≤ ln) (hq0 : 4 * (f % 16) ≤ n) (hq1 : ln ≤ n) (hck : 65535 - fd (tot false (l.take (4 * (f % 16)))) ≠ 0) : Calls Try.prog 128 #[.slice A n c] w (RetV w (.tuple #[.agg (h4C 0 0 0 false false 0 0 0 0 false 0 0 false 0 0 none 0 0).toArray, .int .i64 0, .int .i64 22])) := by
  obtain ⟨du, u1, u2⟩ := rowH4
  have hc := h.2.1
  have hl := h.1
  have h20n : (20 : Int) ≤ (n : Int) := by omega
  have h20c : (20 : Int) ≤ (c : Int) := by omega
  have d20 : decide ((n : Int) < 20) = false := by simp only [decide_eq_false_iff_not]; omega
  have ht20 : Rb w A 20 c (l.take 20) := h.take (by omega)
  have hf8 : f < 256 := by rw [← x0]; exact num_lt' l 0 1 256 (by decide)
  have hpl : pl < 65536 := by rw [← x4]; exact num_lt' l 6 2 65536 (by decide)
  have hln : ln < 65536 := by rw [← x2]; exact num_lt' l 2 2 65536 (by decide)
  replace x0 : Hid (num (((l.take 20).drop 0).take 1) = f) := Lib.hid (by rw [num_in l 20 0 1 (by decide)]; exact x0)
  replace x1 : Hid (num (((l.take 20).drop 1).take 1) = ts) := Lib.hid (by rw [num_in l 20 1 1 (by decide)]; exact x1)
  replace x2 : Hid (num (((l.take 20).drop 2).take 2) = ln) := Lib.hid (by rw [num_in l 20 2 2 (by decide)]; exact x2)
  replace x3 : Hid (num (((l.take 20).drop 4).take 2) = id) := Lib.hid (by rw [num_in l 20 4 2 (by decide)]; exact x3)
  replace x4 : Hid (num (((l.take 20).drop 6).take 2) = pl) := Lib.hid (by rw [num_in l 20 6 2 (by decide)]; exact x4)
  have hB : (l.take 20).length = 20 := by rw [List.length_take]; omega
  have HR := Lib.hid (fun W (h : Rb W A 20 c (l.take 20)) => readK A 20 c (l.take 20) W h (by decide))
  generalize hBB : l.take 20 = B at *
  clear hBB
  have hB1 : B.length ≤ 20 := by omega
  have hB2 : 20 ≤ B.length := by omega
  clear hB
  obtain ⟨m, hm⟩ : ∃ m : Nat, m = f % 16 := ⟨_, rfl⟩
  have e1 := u8_and15 f hf8
  rw [← hm] at e1
  obtain ⟨sz, hsz⟩ : ∃ s : Nat, s = 4 * m := ⟨_, rfl⟩
  have e2 : IntKind.i64.wrap (4 * (m : Int)) = (sz : Int) := by rw [IntWalk.i64_in _ (by omega)]; omega
  have e3 : IntKind.i64.wrap (m : Int) = (m : Int) := IntWalk.i64_in _ (by omega)
  have e4 : IntKind.i64.wrap (ln : Int) = (ln : Int) := IntWalk.i64_in _ (by omega)
  have hb1 : (f : Int) / 16 = 4 := by omega
  have hb1n : ((f : Int) / 16 != 4) = false := by rw [hb1]; rfl
  have qd8 : decide ((sz : Int) < 20) = false := by simp only [decide_eq_false_iff_not]; omega
  have qd9 : decide (sz < 20) = false := by simp only [decide_eq_false_iff_not]; omega
  have hp0 : pl / 32768 % 2 = 0 := by omega
  have hp : bits .and .u16 (pl : Int) 32768 = 0 := by rw [and15 pl hpl, hp0]; rfl
  clear hp0
  have qd10 : decide ((ln : Int) < (sz : Int)) = false := by simp only [decide_eq_false_iff_not]; omega
  have qd11 : decide (ln < sz) = false := by simp only [decide_eq_false_iff_not]; omega
  have qd18 : decide ((n : Int) < (sz : Int)) = false := by simp only [decide_eq_false_iff_not]; omega
  have qd19 : decide (n < sz) = false := by simp only [decide_eq_false_iff_not]; omega
  have qd20 : decide ((n : Int) < (ln : Int)) = false := by simp only [decide_eq_false_iff_not]; omega
  have qd21 : decide (n < ln) = false := by simp only [decide_eq_false_iff_not]; omega
  have hszn : sz ≤ n := by omega
  have hln9 : ln ≤ n := by omega
  have hszc : ((sz : Nat) : Int) ≤ (c : Int) := by omega
  have hsz0 : (0 : Int) ≤ (sz : Int) := by omega
  have hts : Rb w A sz c (l.take sz) := h.take hszn
  have hs4 : 4 * (f % 16) = sz := by omega
  have HO := Lib.hid (fun w A1 c1 (h : RdL w A1 1 [l.take sz]) => sumRight A1 1 c1 _ w h (by omega) (by simp; omega))
  have hfl : ([l.take sz] : List (List UInt8)).flatten = l.take sz := by simp
  rw [hfl] at HO
  rw [hs4] at hck
  have hck2 : (65535 - fd (tot false (l.take sz)) == 0) = false := by rw [beq_eq_false_iff_ne]; exact hck
  rw [hck2] at HO
  clear hm hsz hb1 hs4 hck hck2 hfl
  have b2 : Bk (w.alloc (.cells #[.int .u8 0, .int .i64 0, .int .u16 0, .bool false, .bool false, .int .i64 0, .int .u8 0, .int .u8 0, .int .u16 0, .bool false, .int .u64 0, .int .u64 0, .bool false, .int .u64 0, .int .u64 0, .slice none 0 0] 140)) w.heap.size 140 (h4C 0 0 0 false false 0 0 0 0 false 0 0 false 0 0 none 0 0) := Bk.new w 140 #[.int .u8 0, .int .i64 0, .int .u16 0, .bool false, .bool false, .int .i64 0, .int .u8 0, .int .u8 0, .int .u16 0, .bool false, .int .u64 0, .int .u64 0, .bool false, .int .u64 0, .int .u64 0, .slice none 0 0]
  have be : Below w.heap.size w (w.alloc (.cells #[.int .u8 0, .int .i64 0, .int .u16 0, .bool false, .bool false, .int .i64 0, .int .u8 0, .int .u8 0, .int .u16 0, .bool false, .int .u64 0, .int .u64 0, .bool false, .int .u64 0, .int .u64 0, .slice none 0 0] 140)) := Below.allocS (Below.refl _ _) _
  go_enter Try.func128, Try.ntmps128
  go_wp2_with fail
  refine (HR.out _ (ht20.alloc _)).mono ?_
  rintro e w1 ⟨r, bs1, d1, rfl, rfl, hr1, hR⟩
  replace b2 := b2.later (below_plus _ bs1 d1)
  replace be := belowP be bs1 d1
  have hr2 : w.heap.size < r := by simp at hr1; omega
  generalize plus (w.alloc (.cells #[.int .u8 0, .int .i64 0, .int .u16 0, .bool false, .bool false, .int .i64 0, .int .u8 0, .int .u8 0, .int .u16 0, .bool false, .int .u64 0, .int .u64 0, .bool false, .int .u64 0, .int .u64 0, .slice none 0 0] 140)) bs1 d1 = W0 at *
  clear hr1
  go_wp2_with fail
  refine (byteG W0 r B 0 f hR (by omega) (by omega) x0.out).mono ?_
  clear x0
  rintro e W1 ⟨rfl, hR1, hg⟩
  replace b2 := b2.grown hg (by simp; omega)
  replace be := below_grown be hg (by omega)
  clear hR hg
  have hR := hR1
  clear hR1
  go_wp2_with fail
  refine (byteG W1 r B 1 ts hR (by omega) (by omega) x1.out).mono ?_
  clear x1
  rintro e W2 ⟨rfl, hR1, hg⟩
  replace b2 := b2.grown hg (by simp; omega)
  replace be := below_grown be hg (by omega)
  clear hR hg
  have hR := hR1
  clear hR1
  go_wp2_with fail
  refine (wordG W2 r B 2 ln hR (by omega) (by omega) x2.out).mono ?_
  clear x2
  rintro e W3 ⟨rfl, hR1, hg⟩
  replace b2 := b2.grown hg (by simp; omega)
  replace be := below_grown be hg (by omega)
  clear hR hg
  have hR := hR1
  clear hR1
  go_wp2_with fail
  refine (wordG W3 r B 4 id hR (by omega) (by omega) x3.out).mono ?_
  clear x3
  rintro e W4 ⟨rfl, hR1, hg⟩
  replace b2 := b2.grown hg (by simp; omega)
  replace be := below_grown be hg (by omega)
  clear hR hg
  have hR := hR1
  clear hR1
  have zr := hR.lt
  go_wp2_with fail
  have b8 : Bk (W4.alloc (.cells #[.int .u8 (ts : Int), .int .i64 (ln : Int), .int .u16 (id : Int), .bool false, .bool false, .int .i64 0, .int .u8 0, .int .u8 0, .int .u16 0, .bool false, .int .u64 0, .int .u64 0, .bool false, .int .u64 0, .int .u64 0, .slice none 0 0] 140)) W4.heap.size 140 [.int .u8 (ts : Int), .int .i64 (ln : Int), .int .u16 (id : Int), .bool false, .bool false, .int .i64 0, .int .u8 0, .int .u8 0, .int .u16 0, .bool false, .int .u64 0, .int .u64 0, .bool false, .int .u64 0, .int .u64 0, .slice none 0 0] := Bk.new W4 140 #[.int .u8 (ts : Int), .int .i64 (ln : Int), .int .u16 (id : Int), .bool false, .bool false, .int .i64 0, .int .u8 0, .int .u8 0, .int .u16 0, .bool false, .int .u64 0, .int .u64 0, .bool false, .int .u64 0, .int .u64 0, .slice none 0 0]
  replace b2 := b2.alloc (.cells #[.int .u8 (ts : Int), .int .i64 (ln : Int), .int .u16 (id : Int), .bool false, .bool false, .int .i64 0, .int .u8 0, .int .u8 0, .int .u16 0, .bool false, .int .u64 0, .int .u64 0, .bool false, .int .u64 0, .int .u64 0, .slice none 0 0] 140)
  replace be := Below.allocS be (.cells #[.int .u8 (ts : Int), .int .i64 (ln : Int), .int .u16 (id : Int), .bool false, .bool false, .int .i64 0, .int .u8 0, .int .u8 0, .int .u16 0, .bool false, .int .u64 0, .int .u64 0, .bool false, .int .u64 0, .int .u64 0, .slice none 0 0] 140)
  replace hR := hR.later ((Below.refl _ _).alloc (Nat.le_refl _) (.cells #[.int .u8 (ts : Int), .int .i64 (ln : Int), .int .u16 (id : Int), .bool false, .bool false, .int .i64 0, .int .u8 0, .int .u8 0, .int .u16 0, .bool false, .int .u64 0, .int .u64 0, .bool false, .int .u64 0, .int .u64 0, .slice none 0 0] 140))
  have zb := be.size
  generalize W4.alloc (.cells #[.int .u8 (ts : Int), .int .i64 (ln : Int), .int .u16 (id : Int), .bool false, .bool false, .int .i64 0, .int .u8 0, .int .u8 0, .int .u16 0, .bool false, .int .u64 0, .int .u64 0, .bool false, .int .u64 0, .int .u64 0, .slice none 0 0] 140) = V0 at *
  have zg : w.heap.size < W4.heap.size := by omega
  generalize W4.heap.size = g8 at *
  refine (wordG V0 r B 6 pl hR (by omega) (by omega) x4.out).mono ?_
  clear x4
  rintro e W5 ⟨rfl, hR1, hg⟩
  replace b2 := b2.grown hg (by simp; omega)
  replace b8 := b8.grown hg (by simp; omega)
  replace be := below_grown be hg (by omega)
  clear hR hg
  have hR := hR1
  clear hR1
  have y1 : W5.cell? ⟨g8, 1, none⟩ = some (.int .i64 (ln : Int)) := b8.cell 1
  have z8 := b8.lt
  clear zb
  go_wp2_with fail
  refine (HO.out _ _ _ (RdL.litW [.slice A sz c] [l.take sz] (by simp) (.cons ⟨_, _, _, rfl, hts.later be⟩ .nil))).mono ?_
  rintro e w1 ⟨rfl, rfl⟩
  replace b2 := b2.alloc (.cells #[.slice A sz c] 22)
  replace be := Below.allocS be (.cells #[.slice A sz c] 22)
  go_wp2_with (refine at_op (.store 140 (.tmp 2) (.tmp 70)) rfl ?_; refine wpList_stA (t := 140) 140 (.tmp 2) (.tmp 70) rfl rfl (h4C 0 0 0 false false 0 0 0 0 false 0 0 false 0 0 none 0 0) (h4C 0 0 0 false false 0 0 0 0 false 0 0 false 0 0 none 0 0) rfl (h4C_one _ _ _ _ _ _ _ _ _ _ _ _ _ _ _ _ _ _) rfl rfl b2 (szH4 _ _ _ _ _ _ _ _ _ _ _ _ _ _ _ _ _ _) ?_; intro W9 h9 g9)
  refine bodyPost_agg3 Try.results128 rfl rfl rfl h9.range u1 u2 (szH4 _ _ _ _ _ _ _ _ _ _ _ _ _ _ _ _ _ _) rfl (RetV.mk ?_)
  exact below_grown be g9 (by omega)
/-- a header with its options, and its size -/
def RetHd (w : World) (ts ln id : Nat) (st mo : Bool) (fo tl pr sm sa da sz : Nat) (o : List UInt8) (e : Ending) (w' : World) : Prop := ∃ A n k bs d, e = .returned (.tuple #[.agg (h4C ts (ln : Int) id st mo (fo : Int) tl pr sm false 0 sa false 0 da A n k).toArray, .int .i64 (sz : Int), .int .i64 0]) ∧ w' = plus w bs d ∧ Ob (plus w bs d) w.heap.size A n k o
theorem RetHd.mk {w w' : World} {ts ln id : Nat} {st mo : Bool} {fo tl pr sm sa da sz : Nat} {o : List UInt8} {A : Option Addr} {n k : Nat} (h : Ob w' w.heap.size A n k o) (hb : Below w.heap.size w w') : RetHd w ts ln id st mo fo tl pr sm sa da sz o (.returned (.tuple #[.agg (h4C ts (ln : Int) id st mo (fo : Int) tl pr sm false 0 sa false 0 da A n k).toArray, .int .i64 (sz : Int), .int .i64 0])) w' := by
  obtain ⟨bs, d, rfl⟩ := plus_of hb
  exact ⟨A, n, k, bs, d, rfl, rfl, h⟩
set_option maxHeartbeats 4000000 in
set_option maxRecDepth 100000 in
theorem hdr4_ok (A : Option Addr) (n c : Nat) (l : List UInt8) (w : World) (h : Rb w A n c l) (hm9 : n ≤ 1000000) (f ts ln id pl tl pr sm sa da : Nat) (st mo : Bool) (x0 : num ((l.drop 0).take 1) = f) (x1 : num ((l.drop 1).take 1) = ts) (x2 : num ((l.drop 2).take 2) = ln) (x3 : num ((l.drop 4).take 2) = id) (x4 : num ((l.drop 6).take 2) = pl) (x5 : num ((l.drop 8).take 1) = tl) (x6 : num ((l.drop 9).take 1) = pr) (x7 : num ((l.drop 10).take 2) = sm) (x8 : num ((l.drop 12).take 4) = sa) (x9 : num ((l.drop 16).take 4) = da) (hst : (pl / 16384 % 2 == 1) = st) (hmo : (pl / 8192 % 2 == 1) = mo) (hn : 20 ≤ n) (hb : f / 16 = 4) (hs : 20 ≤ 4 * (f % 16)) (hp9 : pl < 32768) (hl9 : 4 * (f % 16) ≤ ln) (hq0 : 4 * (f % 16) ≤ n) (hq1 : ln ≤ n) (hck : 65535 - fd (tot false (l.take (4 * (f % 16)))) = 0) : Calls Try.prog 128 #[.slice A n c] w (RetHd w ts ln id st mo (pl % 8192) tl pr sm sa da (4 * (f % 16)) ((l.drop 20).take (4 * (f % 16) - 20))) := by
  obtain ⟨du, u1, u2⟩ := rowH4
  have hc := h.2.1
  have hl := h.1
  have h20n : (20 : Int) ≤ (n : Int) := by omega
  have h20c : (20 : Int) ≤ (c : Int) := by omega
  have d20 : decide ((n : Int) < 20) = false := by simp only [decide_eq_false_iff_not]; omega
  have ht20 : Rb w A 20 c (l.take 20) := h.take (by omega)
  have hf8 : f < 256 := by rw [← x0]; exact num_lt' l 0 1 256 (by decide)
  have hpl : pl < 65536 := by rw [← x4]; exact num_lt' l 6 2 65536 (by decide)
  have hln : ln < 65536 := by rw [← x2]; exact num_lt' l 2 2 65536 (by decide)
  replace x0 : Hid (num (((l.take 20).drop 0).take 1) = f) := Lib.hid (by rw [num_in l 20 0 1 (by decide)]; exact x0)
  replace x1 : Hid (num (((l.take 20).drop 1).take 1) = ts) := Lib.hid (by rw [num_in l 20 1 1 (by decide)]; exact x1)
  replace x2 : Hid (num (((l.take 20).drop 2).take 2) = ln) := Lib.hid (by rw [num_in l 20 2 2 (by decide)]; exact x2)
  replace x3 : Hid (num (((l.take 20).drop 4).take 2) = id) := Lib.hid (by rw [num_in l 20 4 2 (by decide)]; exact x3)
  replace x4 : Hid (num (((l.take 20).drop 6).take 2) = pl) := Lib.hid (by rw [num_in l 20 6 2 (by decide)]; exact x4)
  replace x5 : Hid (num (((l.take 20).drop 8).take 1) = tl) := Lib.hid (by rw [num_in l 20 8 1 (by decide)]; exact x5)
  replace x6 : Hid (num (((l.take 20).drop 9).take 1) = pr) := Lib.hid (by rw [num_in l 20 9 1 (by decide)]; exact x6)
  replace x7 : Hid (num (((l.take 20).drop 10).take 2) = sm) := Lib.hid (by rw [num_in l 20 10 2 (by decide)]; exact x7)
  replace x8 : Hid (num (((l.take 20).drop 12).take 4) = sa) := Lib.hid (by rw [num_in l 20 12 4 (by decide)]; exact x8)
  replace x9 : Hid (num (((l.take 20).drop 16).take 4) = da) := Lib.hid (by rw [num_in l 20 16 4 (by decide)]; exact x9)
  have hB : (l.take 20).length = 20 := by rw [List.length_take]; omega
  have HR := Lib.hid (fun W (h : Rb W A 20 c (l.take 20)) => readK A 20 c (l.take 20) W h (by decide))
  generalize l.take 20 = B at *
  have hB1 : B.length ≤ 20 := by omega
  have hB2 : 20 ≤ B.length := by omega
  clear hB
  obtain ⟨m, hm⟩ : ∃ m : Nat, m = f % 16 := ⟨_, rfl⟩
  have e1 := u8_and15 f hf8
  rw [← hm] at e1
  obtain ⟨sz, hsz⟩ : ∃ s : Nat, s = 4 * m := ⟨_, rfl⟩
  have e2 : IntKind.i64.wrap (4 * (m : Int)) = (sz : Int) := by rw [IntWalk.i64_in _ (by omega)]; omega
  have e3 : IntKind.i64.wrap (m : Int) = (m : Int) := IntWalk.i64_in _ (by omega)
  have e4 : IntKind.i64.wrap (ln : Int) = (ln : Int) := IntWalk.i64_in _ (by omega)
  have hb1 : (f : Int) / 16 = 4 := by omega
  have hb1n : ((f : Int) / 16 != 4) = false := by rw [hb1]; rfl
  have qd8 : decide ((sz : Int) < 20) = false := by simp only [decide_eq_false_iff_not]; omega
  have qd9 : decide (sz < 20) = false := by simp only [decide_eq_false_iff_not]; omega
  have hp0 : pl / 32768 % 2 = 0 := by omega
  have hp : bits .and .u16 (pl : Int) 32768 = 0 := by rw [and15 pl hpl, hp0]; rfl
  clear hp0
  have qd10 : decide ((ln : Int) < (sz : Int)) = false := by simp only [decide_eq_false_iff_not]; omega
  have qd11 : decide (ln < sz) = false := by simp only [decide_eq_false_iff_not]; omega
  have qd22 : decide ((n : Int) < (sz : Int)) = false := by simp only [decide_eq_false_iff_not]; omega
  have qd23 : decide (n < sz) = false := by simp only [decide_eq_false_iff_not]; omega
  have qd24 : decide ((n : Int) < (ln : Int)) = false := by simp only [decide_eq_false_iff_not]; omega
  have qd25 : decide (n < ln) = false := by simp only [decide_eq_false_iff_not]; omega
  have hszn : sz ≤ n := by omega
  have hln9 : ln ≤ n := by omega
  have hszc : ((sz : Nat) : Int) ≤ (c : Int) := by omega
  have hsz0 : (0 : Int) ≤ (sz : Int) := by omega
  have hts : Rb w A sz c (l.take sz) := h.take hszn
  have hs4 : 4 * (f % 16) = sz := by omega
  have HO := Lib.hid (fun w A1 c1 (h : RdL w A1 1 [l.take sz]) => sumRight A1 1 c1 _ w h (by omega) (by simp; omega))
  have hfl : ([l.take sz] : List (List UInt8)).flatten = l.take sz := by simp
  rw [hfl] at HO
  rw [hs4] at hck
  have hck2 : (65535 - fd (tot false (l.take sz)) == 0) = true := by rw [beq_iff_eq]; exact hck
  rw [hck2] at HO
  have ho0 : Rb w (cutA A c 20 1) (sz - 20) (c - 20) ((l.drop 20).take (sz - 20)) := (h.cut (k := 20) (by omega)).take (by omega)
  have v1 : (bits .and .u16 (pl : Int) 16384 != 0) = st := by rw [← hst, and14 pl hpl]; rcases Nat.mod_two_eq_zero_or_one (pl / 16384) with h0 | h0 <;> simp [h0]
  have v2 : (bits .and .u16 (pl : Int) 8192 != 0) = mo := by rw [← hmo, and13 pl hpl]; rcases Nat.mod_two_eq_zero_or_one (pl / 8192) with h0 | h0 <;> simp [h0]
  have v3 := and8191 pl hpl
  have hfo : pl % 8192 < 65536 := by omega
  generalize pl % 8192 = fo at *
  have v4 : IntKind.i64.wrap (fo : Int) = (fo : Int) := IntWalk.i64_in _ (by omega)
  have hsa : sa < 4294967296 := by rw [← x8.out]; exact num_lt' _ 12 4 4294967296 (by decide)
  have hda : da < 4294967296 := by rw [← x9.out]; exact num_lt' _ 16 4 4294967296 (by decide)
  have v5 : IntKind.u64.wrap (sa : Int) = (sa : Int) := IntWalk.u64_in _ (by omega)
  have v6 : IntKind.u64.wrap (da : Int) = (da : Int) := IntWalk.u64_in _ (by omega)
  have j1 : (20 : Int) ≤ (sz : Int) := by omega
  have HC := Lib.hid (fun w (h : Rb w (cutA A c 20 1) (sz - 20) (c - 20) ((l.drop 20).take (sz - 20))) => clone_any _ _ _ _ w h (by omega))
  have hs9 := Lib.hid hs4
  clear hm hsz hb1 hs4 hck hck2 hfl hst hmo
  have b2 : Bk (w.alloc (.cells #[.int .u8 0, .int .i64 0, .int .u16 0, .bool false, .bool false, .int .i64 0, .int .u8 0, .int .u8 0, .int .u16 0, .bool false, .int .u64 0, .int .u64 0, .bool false, .int .u64 0, .int .u64 0, .slice none 0 0] 140)) w.heap.size 140 (h4C 0 0 0 false false 0 0 0 0 false 0 0 false 0 0 none 0 0) := Bk.new w 140 #[.int .u8 0, .int .i64 0, .int .u16 0, .bool false, .bool false, .int .i64 0, .int .u8 0, .int .u8 0, .int .u16 0, .bool false, .int .u64 0, .int .u64 0, .bool false, .int .u64 0, .int .u64 0, .slice none 0 0]
  have be : Below w.heap.size w (w.alloc (.cells #[.int .u8 0, .int .i64 0, .int .u16 0, .bool false, .bool false, .int .i64 0, .int .u8 0, .int .u8 0, .int .u16 0, .bool false, .int .u64 0, .int .u64 0, .bool false, .int .u64 0, .int .u64 0, .slice none 0 0] 140)) := Below.allocS (Below.refl _ _) _
  go_enter Try.func128, Try.ntmps128
  go_wp2_with fail
  refine (HR.out _ (ht20.alloc _)).mono ?_
  rintro e w1 ⟨r, bs1, d1, rfl, rfl, hr1, hR⟩
  replace b2 := b2.later (below_plus _ bs1 d1)
  replace be := belowP be bs1 d1
  have hr2 : w.heap.size < r := by simp at hr1; omega
  generalize plus (w.alloc (.cells #[.int .u8 0, .int .i64 0, .int .u16 0, .bool false, .bool false, .int .i64 0, .int .u8 0, .int .u8 0, .int .u16 0, .bool false, .int .u64 0, .int .u64 0, .bool false, .int .u64 0, .int .u64 0, .slice none 0 0] 140)) bs1 d1 = W0 at *
  clear hr1
  go_wp2_with fail
  refine (byteG W0 r B 0 f hR (by omega) (by omega) x0.out).mono ?_
  clear x0
  rintro e W1 ⟨rfl, hR1, hg⟩
  replace b2 := b2.grown hg (by simp; omega)
  replace be := below_grown be hg (by omega)
  clear hR hg
  have hR := hR1
  clear hR1
  go_wp2_with fail
  refine (byteG W1 r B 1 ts hR (by omega) (by omega) x1.out).mono ?_
  clear x1
  rintro e W2 ⟨rfl, hR1, hg⟩
  replace b2 := b2.grown hg (by simp; omega)
  replace be := below_grown be hg (by omega)
  clear hR hg
  have hR := hR1
  clear hR1
  go_wp2_with fail
  refine (wordG W2 r B 2 ln hR (by omega) (by omega) x2.out).mono ?_
  clear x2
  rintro e W3 ⟨rfl, hR1, hg⟩
  replace b2 := b2.grown hg (by simp; omega)
  replace be := below_grown be hg (by omega)
  clear hR hg
  have hR := hR1
  clear hR1
  go_wp2_with fail
  refine (wordG W3 r B 4 id hR (by omega) (by omega) x3.out).mono ?_
  clear x3
  rintro e W4 ⟨rfl, hR1, hg⟩
  replace b2 := b2.grown hg (by simp; omega)
  replace be := below_grown be hg (by omega)
  clear hR hg
  have hR := hR1
  clear hR1
  have zr := hR.lt
  go_wp2_with fail
  have b8 : Bk (W4.alloc (.cells #[.int .u8 (ts : Int), .int .i64 (ln : Int), .int .u16 (id : Int), .bool false, .bool false, .int .i64 0, .int .u8 0, .int .u8 0, .int .u16 0, .bool false, .int .u64 0, .int .u64 0, .bool false, .int .u64 0, .int .u64 0, .slice none 0 0] 140)) W4.heap.size 140 [.int .u8 (ts : Int), .int .i64 (ln : Int), .int .u16 (id : Int), .bool false, .bool false, .int .i64 0, .int .u8 0, .int .u8 0, .int .u16 0, .bool false, .int .u64 0, .int .u64 0, .bool false, .int .u64 0, .int .u64 0, .slice none 0 0] := Bk.new W4 140 #[.int .u8 (ts : Int), .int .i64 (ln : Int), .int .u16 (id : Int), .bool false, .bool false, .int .i64 0, .int .u8 0, .int .u8 0, .int .u16 0, .bool false, .int .u64 0, .int .u64 0, .bool false, .int .u64 0, .int .u64 0, .slice none 0 0]
  replace b2 := b2.alloc (.cells #[.int .u8 (ts : Int), .int .i64 (ln : Int), .int .u16 (id : Int), .bool false, .bool false, .int .i64 0, .int .u8 0, .int .u8 0, .int .u16 0, .bool false, .int .u64 0, .int .u64 0, .bool false, .int .u64 0, .int .u64 0, .slice none 0 0] 140)
  replace be := Below.allocS be (.cells #[.int .u8 (ts : Int), .int .i64 (ln : Int), .int .u16 (id : Int), .bool false, .bool false, .int .i64 0, .int .u8 0, .int .u8 0, .int .u16 0, .bool false, .int .u64 0, .int .u64 0, .bool false, .int .u64 0, .int .u64 0, .slice none 0 0] 140)
  replace hR := hR.later ((Below.refl _ _).alloc (Nat.le_refl _) (.cells #[.int .u8 (ts : Int), .int .i64 (ln : Int), .int .u16 (id : Int), .bool false, .bool false, .int .i64 0, .int .u8 0, .int .u8 0, .int .u16 0, .bool false, .int .u64 0, .int .u64 0, .bool false, .int .u64 0, .int .u64 0, .slice none 0 0] 140))
  have zb := be.size
  generalize W4.alloc (.cells #[.int .u8 (ts : Int), .int .i64 (ln : Int), .int .u16 (id : Int), .bool false, .bool false, .int .i64 0, .int .u8 0, .int .u8 0, .int .u16 0, .bool false, .int .u64 0, .int .u64 0, .bool false, .int .u64 0, .int .u64 0, .slice none 0 0] 140) = V0 at *
  have zg : w.heap.size < W4.heap.size := by omega
  generalize W4.heap.size = g8 at *
  refine (wordG V0 r B 6 pl hR (by omega) (by omega) x4.out).mono ?_
  clear x4
  rintro e W5 ⟨rfl, hR1, hg⟩
  replace b2 := b2.grown hg (by simp; omega)
  replace b8 := b8.grown hg (by simp; omega)
  replace be := below_grown be hg (by omega)
  clear hR hg
  have hR := hR1
  clear hR1
  have y1 : W5.cell? ⟨g8, 1, none⟩ = some (.int .i64 (ln : Int)) := b8.cell 1
  have z8 := b8.lt
  clear zb
  go_wp2_with fail
  refine (HO.out _ _ _ (RdL.litW [.slice A sz c] [l.take sz] (by simp) (.cons ⟨_, _, _, rfl, hts.later be⟩ .nil))).mono ?_
  rintro e w1 ⟨rfl, rfl⟩
  replace b2 := b2.alloc (.cells #[.slice A sz c] 22)
  replace b8 := b8.alloc (.cells #[.slice A sz c] 22)
  replace hR := hR.later ((Below.refl _ _).alloc (Nat.le_refl _) (.cells #[.slice A sz c] 22))
  replace be := Below.allocS be (.cells #[.slice A sz c] 22)
  clear y1 z8
  generalize W5.alloc (.cells #[.slice A sz c] 22) = V1 at *
  have q := b8.cell 3
  have fr := b8.frozen 3
  have z8 := b8.lt
  simp only [List.getElem?_cons_succ, List.getElem?_cons_zero] at q
  go_upto_region 15 with (fail)
  replace b8 := b8.set_ 3 (.bool st)
  replace b2 := b2.far (p := ⟨g8, 3, none⟩) (by simp; omega) (.bool st)
  replace hR := hR.far (p := ⟨g8, 3, none⟩) (by simp; omega) (.bool st)
  replace be := be.setCell (p := ⟨g8, 3, none⟩) (by simp; omega) (.bool st)
  simp only [List.set_cons_succ, List.set_cons_zero] at b8
  clear q fr z8
  generalize V1.setCell ⟨g8, 3, none⟩ (.bool st) = W6 at *
  have q := b8.cell 4
  have fr := b8.frozen 4
  have z8 := b8.lt
  simp only [List.getElem?_cons_succ, List.getElem?_cons_zero] at q
  go_upto_region 16 with (fail)
  replace b8 := b8.set_ 4 (.bool mo)
  replace b2 := b2.far (p := ⟨g8, 4, none⟩) (by simp; omega) (.bool mo)
  replace hR := hR.far (p := ⟨g8, 4, none⟩) (by simp; omega) (.bool mo)
  replace be := be.setCell (p := ⟨g8, 4, none⟩) (by simp; omega) (.bool mo)
  simp only [List.set_cons_succ, List.set_cons_zero] at b8
  clear q fr z8
  generalize W6.setCell ⟨g8, 4, none⟩ (.bool mo) = W7 at *
  have q := b8.cell 5
  have fr := b8.frozen 5
  have z8 := b8.lt
  simp only [List.getElem?_cons_succ, List.getElem?_cons_zero] at q
  go_upto_region 17 with (fail)
  replace b8 := b8.set_ 5 (.int .i64 (fo : Int))
  replace b2 := b2.far (p := ⟨g8, 5, none⟩) (by simp; omega) (.int .i64 (fo : Int))
  replace hR := hR.far (p := ⟨g8, 5, none⟩) (by simp; omega) (.int .i64 (fo : Int))
  replace be := be.setCell (p := ⟨g8, 5, none⟩) (by simp; omega) (.int .i64 (fo : Int))
  simp only [List.set_cons_succ, List.set_cons_zero] at b8
  clear q fr z8
  generalize W7.setCell ⟨g8, 5, none⟩ (.int .i64 (fo : Int)) = W8 at *
  go_wp2_with fail
  refine (byteG W8 r B 8 tl hR (by omega) (by omega) x5.out).mono ?_
  clear x5
  rintro e W9 ⟨rfl, hR1, hg⟩
  replace b2 := b2.grown hg (by simp; omega)
  replace b8 := b8.grown hg (by simp; omega)
  replace be := below_grown be hg (by omega)
  clear hR hg
  have hR := hR1
  clear hR1
  have q := b8.cell 6
  have fr := b8.frozen 6
  have z8 := b8.lt
  simp only [List.getElem?_cons_succ, List.getElem?_cons_zero] at q
  go_upto_region 18 with (fail)
  replace b8 := b8.set_ 6 (.int .u8 (tl : Int))
  replace b2 := b2.far (p := ⟨g8, 6, none⟩) (by simp; omega) (.int .u8 (tl : Int))
  replace hR := hR.far (p := ⟨g8, 6, none⟩) (by simp; omega) (.int .u8 (tl : Int))
  replace be := be.setCell (p := ⟨g8, 6, none⟩) (by simp; omega) (.int .u8 (tl : Int))
  simp only [List.set_cons_succ, List.set_cons_zero] at b8
  clear q fr z8
  generalize W9.setCell ⟨g8, 6, none⟩ (.int .u8 (tl : Int)) = W10 at *
  go_wp2_with fail
  refine (byteG W10 r B 9 pr hR (by omega) (by omega) x6.out).mono ?_
  clear x6
  rintro e W11 ⟨rfl, hR1, hg⟩
  replace b2 := b2.grown hg (by simp; omega)
  replace b8 := b8.grown hg (by simp; omega)
  replace be := below_grown be hg (by omega)
  clear hR hg
  have hR := hR1
  clear hR1
  have q := b8.cell 7
  have fr := b8.frozen 7
  have z8 := b8.lt
  simp only [List.getElem?_cons_succ, List.getElem?_cons_zero] at q
  go_upto_region 19 with (fail)
  replace b8 := b8.set_ 7 (.int .u8 (pr : Int))
  replace b2 := b2.far (p := ⟨g8, 7, none⟩) (by simp; omega) (.int .u8 (pr : Int))
  replace hR := hR.far (p := ⟨g8, 7, none⟩) (by simp; omega) (.int .u8 (pr : Int))
  replace be := be.setCell (p := ⟨g8, 7, none⟩) (by simp; omega) (.int .u8 (pr : Int))
  simp only [List.set_cons_succ, List.set_cons_zero] at b8
  clear q fr z8
  generalize W11.setCell ⟨g8, 7, none⟩ (.int .u8 (pr : Int)) = W12 at *
  go_wp2_with fail
  refine (wordG W12 r B 10 sm hR (by omega) (by omega) x7.out).mono ?_
  clear x7
  rintro e W13 ⟨rfl, hR1, hg⟩
  replace b2 := b2.grown hg (by simp; omega)
  replace b8 := b8.grown hg (by simp; omega)
  replace be := below_grown be hg (by omega)
  clear hR hg
  have hR := hR1
  clear hR1
  have q := b8.cell 8
  have fr := b8.frozen 8
  have z8 := b8.lt
  simp only [List.getElem?_cons_succ, List.getElem?_cons_zero] at q
  go_upto_region 20 with (fail)
  replace b8 := b8.set_ 8 (.int .u16 (sm : Int))
  replace b2 := b2.far (p := ⟨g8, 8, none⟩) (by simp; omega) (.int .u16 (sm : Int))
  replace hR := hR.far (p := ⟨g8, 8, none⟩) (by simp; omega) (.int .u16 (sm : Int))
  replace be := be.setCell (p := ⟨g8, 8, none⟩) (by simp; omega) (.int .u16 (sm : Int))
  simp only [List.set_cons_succ, List.set_cons_zero] at b8
  clear q fr z8
  generalize W13.setCell ⟨g8, 8, none⟩ (.int .u16 (sm : Int)) = W14 at *
  go_wp2_with fail
  refine (longG W14 r B 12 sa hR (by omega) (by omega) x8.out).mono ?_
  clear x8
  rintro e W15 ⟨rfl, hR1, hg⟩
  replace b2 := b2.grown hg (by simp; omega)
  replace b8 := b8.grown hg (by simp; omega)
  replace be := below_grown be hg (by omega)
  clear hR hg
  have hR := hR1
  clear hR1
  have z8 := b8.lt
  have zr := hR.lt
  go_upto_region 21 with (refine at_op (.store 26 (.tmp 96) (.tmp 95)) rfl ?_; refine wpList_stM (t := 140) 26 (.tmp 96) (.tmp 95) rfl rfl (adC false 0 sa) _ (by simp [adC]) (adC_one _ _ _) rfl rfl b8 (szAd _ _ _) ?_; intro W16 b8' hg3)
  simp only [splice, adC, List.take_succ_cons, List.take_zero, List.drop_succ_cons, List.drop_zero, List.length_cons, List.length_nil, Nat.zero_add, Nat.reduceAdd, List.cons_append, List.nil_append] at b8'
  replace b2 := b2.grown hg3 (by simp; omega)
  replace hR := hR.far_ hg3 (by omega)
  replace be := below_grown be hg3 (by omega)
  clear b8 hg3 z8 zr
  have b8 := b8'
  clear b8'
  go_wp2_with fail
  refine (longG W16 r B 16 da hR (by omega) (by omega) x9.out).mono ?_
  clear x9
  rintro e W17 ⟨rfl, hR1, hg⟩
  replace b2 := b2.grown hg (by simp; omega)
  replace b8 := b8.grown hg (by simp; omega)
  replace be := below_grown be hg (by omega)
  clear hR hg
  have hR := hR1
  clear hR1
  have z8 := b8.lt
  have zr := hR.lt
  go_upto_region 22 with (refine at_op (.store 26 (.tmp 101) (.tmp 100)) rfl ?_; refine wpList_stM (t := 140) 26 (.tmp 101) (.tmp 100) rfl rfl (adC false 0 da) _ (by simp [adC]) (adC_one _ _ _) rfl rfl b8 (szAd _ _ _) ?_; intro W18 b8' hg3)
  simp only [splice, adC, List.take_succ_cons, List.take_zero, List.drop_succ_cons, List.drop_zero, List.length_cons, List.length_nil, Nat.zero_add, Nat.reduceAdd, List.cons_append, List.nil_append] at b8'
  replace b2 := b2.grown hg3 (by simp; omega)
  replace hR := hR.far_ hg3 (by omega)
  replace be := below_grown be hg3 (by omega)
  clear b8 hg3 z8 zr
  have b8 := b8'
  clear b8'
  go_wp2_with fail
  refine (HC.out _ (ho0.later be)).mono ?_
  rintro e w1 ⟨Ao, no, ko, bso, mo9, rfl, rfl, hoo⟩
  have z8 := b8.lt
  have z2 := b2.lt
  have zo8 : ∀ b, (Value.slice Ao no ko).ownBlock = some b → b ≠ g8 := fun b hb => by have := (hoo.blk b hb).1; omega
  have zo2 : ∀ b, (Value.slice Ao no ko).ownBlock = some b → b ≠ w.heap.size := fun b hb => by have := (hoo.blk b hb).1; omega
  clear z8 z2
  replace b2 := b2.later (below_plus _ bso mo9)
  replace b8 := b8.later (below_plus _ bso mo9)
  replace hR := hR.later (below_plus _ bso mo9)
  have zbe := be.size
  replace be := belowP be bso mo9
  replace hoo := hoo.mono (base' := w.heap.size) zbe
  generalize plus W18 bso mo9 = V2 at *
  have q := b8.cell 15
  have fr := b8.frozen 15
  have z8 := b8.lt
  simp only [List.getElem?_cons_succ, List.getElem?_cons_zero] at q
  go_upto_region 23 with (fail)
  replace b8 := b8.set_ 15 (.slice Ao no ko)
  replace b2 := b2.far (p := ⟨g8, 15, none⟩) (by simp; omega) (.slice Ao no ko)
  replace hR := hR.far (p := ⟨g8, 15, none⟩) (by simp; omega) (.slice Ao no ko)
  replace be := be.setCell (p := ⟨g8, 15, none⟩) (by simp; omega) (.slice Ao no ko)
  simp only [List.set_cons_succ, List.set_cons_zero] at b8
  clear q fr z8
  replace hoo := hoo.grown (grownBy_setCell V2 g8 15 (.slice Ao no ko)) (fun b hb e => zo8 b hb (by injection e with e; exact e.symm))
  generalize V2.setCell ⟨g8, 15, none⟩ (.slice Ao no ko) = W19 at *
  go_wp2_with (first
    | (refine at_op (.load 140 (.tmp 8)) rfl ?_; refine wpList_ldA (t := 140) 140 (.tmp 8) rfl rfl (h4C ts (ln : Int) id st mo (fo : Int) tl pr sm false 0 sa false 0 da Ao no ko) rfl (b8) (whole_ _) u1 u2 (szH4 _ _ _ _ _ _ _ _ _ _ _ _ _ _ _ _ _ _) ?_)
    | (refine at_op (.store 140 (.tmp 2) (.tmp 107)) rfl ?_; refine wpList_stA (t := 140) 140 (.tmp 2) (.tmp 107) rfl rfl (h4C ts (ln : Int) id st mo (fo : Int) tl pr sm false 0 sa false 0 da Ao no ko) (h4C 0 0 0 false false 0 0 0 0 false 0 0 false 0 0 none 0 0) rfl (h4C_one _ _ _ _ _ _ _ _ _ _ _ _ _ _ _ _ _ _) rfl rfl b2 (szH4 _ _ _ _ _ _ _ _ _ _ _ _ _ _ _ _ _ _) ?_; intro W9 h9 g9))
  replace hoo := hoo.grown g9 (fun b hb e => zo2 b hb (by injection e with e; exact e.symm))
  rw [hs9.out]
  refine bodyPost_agg3 Try.results128 rfl rfl rfl h9.range u1 u2 (szH4 _ _ _ _ _ _ _ _ _ _ _ _ _ _ _ _ _ _) rfl (RetHd.mk hoo ?_)
  exact below_grown be g9 (by omega)
end Go.Proofs.Ytfmkndemkpecpaa

/- ip4.Parse. -/
namespace Go.Proofs.Ytfmkndemkpecpaa
open Go.RowKit
set_option linter.unusedVariables false
set_option linter.unusedSimpArgs false
attribute [local go_sem ↓] sliced_cut

attribute [local go_sem] cutA_zero

/-- a header, the bytes behind it, no error -/
def RetP4 (w : World) (ts ln id : Nat) (st mo : Bool) (fo tl pr sm sa da : Nat) (o load : List UInt8) (e : Ending) (w' : World) : Prop := ∃ A n k A2 n2 k2 bs d, e = .returned (.tuple #[.agg (h4C ts (ln : Int) id st mo (fo : Int) tl pr sm false 0 sa false 0 da A n k).toArray, .slice A2 n2 k2, .int .i64 0]) ∧ w' = plus w bs d ∧ Rb (plus w bs d) A n k o ∧ Rb (plus w bs d) A2 n2 k2 load ∧ ∀ a, A2 = some a → w.heap.size ≤ a.block
theorem Ob.fresh {w : World} {w0 base : Nat} {A : Option Addr} {n c : Nat} {l : List UInt8} (h : Ob w base A n c l) (hb : w0 ≤ base) : ∀ a, A = some a → w0 ≤ a.block := fun a ha => by
  subst ha
  have := (h.blk a.block rfl).1
  omega
theorem RetP4.mk {w w' : World} {ts ln id : Nat} {st mo : Bool} {fo tl pr sm sa da : Nat} {o load : List UInt8} {A : Option Addr} {n k : Nat} {A2 : Option Addr} {n2 k2 : Nat} (h : Rb w' A n k o) (h2 : Rb w' A2 n2 k2 load) (hf : ∀ a, A2 = some a → w.heap.size ≤ a.block) (hb : Below w.heap.size w w') : RetP4 w ts ln id st mo fo tl pr sm sa da o load (.returned (.tuple #[.agg (h4C ts (ln : Int) id st mo (fo : Int) tl pr sm false 0 sa false 0 da A n k).toArray, .slice A2 n2 k2, .int .i64 0])) w' := by
  obtain ⟨bs, d, rfl⟩ := plus_of hb
  exact ⟨A, n, k, A2, n2, k2, bs, d, rfl, rfl, h, h2, hf⟩
set_option maxHeartbeats 4000000 in
set_option maxRecDepth 100000 in
theorem parse4_err (A : Option Addr) (n c : Nat) (E : Int) (w : World) (hE : (E != 0) = true) (HH : ∀ w', Below w.heap.size w w' → Calls Try.prog 128 #[.slice A n c] w' (RetV w' (.tuple #[.agg (h4C 0 0 0 false false 0 0 0 0 false 0 0 false 0 0 none 0 0).toArray, .int .i64 0, .int .i64 E]))) : Calls Try.prog 72 #[.slice A n c] w (RetV w (.tuple #[.agg (h4C 0 0 0 false false 0 0 0 0 false 0 0 false 0 0 none 0 0).toArray, .slice none 0 0, .int .i64 E])) := by
  obtain ⟨du, u1, u2⟩ := rowH4
  replace HH := Lib.hid HH
  have b2 : Bk (w.alloc (.cells #[.int .u8 0, .int .i64 0, .int .u16 0, .bool false, .bool false, .int .i64 0, .int .u8 0, .int .u8 0, .int .u16 0, .bool false, .int .u64 0, .int .u64 0, .bool false, .int .u64 0, .int .u64 0, .slice none 0 0] 140)) w.heap.size 140 (h4C 0 0 0 false false 0 0 0 0 false 0 0 false 0 0 none 0 0) := Bk.new w 140 #[.int .u8 0, .int .i64 0, .int .u16 0, .bool false, .bool false, .int .i64 0, .int .u8 0, .int .u8 0, .int .u16 0, .bool false, .int .u64 0, .int .u64 0, .bool false, .int .u64 0, .int .u64 0, .slice none 0 0]
  have be : Below w.heap.size w (w.alloc (.cells #[.int .u8 0, .int .i64 0, .int .u16 0, .bool false, .bool false, .int .i64 0, .int .u8 0, .int .u8 0, .int .u16 0, .bool false, .int .u64 0, .int .u64 0, .bool false, .int .u64 0, .int .u64 0, .slice none 0 0] 140)) := Below.allocS (Below.refl _ _) _
  go_enter Try.func72, Try.ntmps72
  go_wp2_with fail
  refine (HH.out _ be).mono ?_
  rintro e w1 ⟨bs1, d1, rfl, rfl⟩
  go_upto_region 2 with (refine at_op (.store 140 (.tmp 5) (.tmp 11)) rfl ?_; refine wpList_stA (t := 140) 140 (.tmp 5) (.tmp 11) rfl rfl (h4C 0 0 0 false false 0 0 0 0 false 0 0 false 0 0 none 0 0) (h4C 0 0 0 false false 0 0 0 0 false 0 0 false 0 0 none 0 0) rfl (h4C_one _ _ _ _ _ _ _ _ _ _ _ _ _ _ _ _ _ _) rfl rfl ?_ (szH4 _ _ _ _ _ _ _ _ _ _ _ _ _ _ _ _ _ _) ?_; (· refine Bk.newK _ _ _ ?_ rfl; simp [size_plus]); intro W b5 hgr)
  have zb := be.size
  replace b2 := ((b2.later (below_plus _ bs1 d1)).alloc _).grown hgr (by simp; omega)
  replace be := below_grown (Below.allocS (belowP be bs1 d1) _) hgr (by omega)
  clear hgr zb
  go_wp2_with (refine at_op (.store 140 (.tmp 2) (.tmp 16)) rfl ?_; refine wpList_stA (t := 140) 140 (.tmp 2) (.tmp 16) rfl rfl (h4C 0 0 0 false false 0 0 0 0 false 0 0 false 0 0 none 0 0) (h4C 0 0 0 false false 0 0 0 0 false 0 0 false 0 0 none 0 0) rfl (h4C_one _ _ _ _ _ _ _ _ _ _ _ _ _ _ _ _ _ _) rfl rfl b2 (szH4 _ _ _ _ _ _ _ _ _ _ _ _ _ _ _ _ _ _) ?_; intro W9 h9 g9)
  refine bodyPost_agg3 Try.results72 rfl rfl rfl h9.range u1 u2 (szH4 _ _ _ _ _ _ _ _ _ _ _ _ _ _ _ _ _ _) rfl (RetV.mk ?_)
  exact below_grown be g9 (by omega)
set_option maxHeartbeats 4000000 in
set_option maxRecDepth 100000 in
theorem parse4_ok (A : Option Addr) (n c : Nat) (l : List UInt8) (ts ln id : Nat) (st mo : Bool) (fo tl pr sm sa da sz : Nat) (o : List UInt8) (w : World) (h : Rb w A n c l) (hm : n ≤ 1000000) (h1 : 20 ≤ sz) (h2 : sz ≤ ln) (h3 : ln ≤ n)
    (HH : ∀ w', Below w.heap.size w w' → Calls Try.prog 128 #[.slice A n c] w' (RetHd w' ts ln id st mo fo tl pr sm sa da sz o)) : Calls Try.prog 72 #[.slice A n c] w (RetP4 w ts ln id st mo fo tl pr sm sa da o ((l.drop sz).take (ln - sz))) := by
  obtain ⟨du, u1, u2⟩ := rowH4
  replace HH := Lib.hid HH
  obtain ⟨b, off, rfl, hbl, hcell⟩ := h.2.2.at_ (by rw [bcs_length, h.1]; omega)
  have hc := h.2.1
  have hr0 : Rb w (cutA (some ⟨b, off, none⟩) c sz 1) (ln - sz) (c - sz) ((l.drop sz).take (ln - sz)) := (h.cut (k := sz) (by omega)).take (by omega)
  have j0 : (0 : Int) ≤ (sz : Int) := by omega
  have j1 : (sz : Int) ≤ (ln : Int) := by omega
  have j2 : (ln : Int) ≤ (c : Int) := by omega
  clear hcell
  generalize (l.drop sz).take (ln - sz) = load at *
  have b2 : Bk (w.alloc (.cells #[.int .u8 0, .int .i64 0, .int .u16 0, .bool false, .bool false, .int .i64 0, .int .u8 0, .int .u8 0, .int .u16 0, .bool false, .int .u64 0, .int .u64 0, .bool false, .int .u64 0, .int .u64 0, .slice none 0 0] 140)) w.heap.size 140 (h4C 0 0 0 false false 0 0 0 0 false 0 0 false 0 0 none 0 0) := Bk.new w 140 #[.int .u8 0, .int .i64 0, .int .u16 0, .bool false, .bool false, .int .i64 0, .int .u8 0, .int .u8 0, .int .u16 0, .bool false, .int .u64 0, .int .u64 0, .bool false, .int .u64 0, .int .u64 0, .slice none 0 0]
  have be : Below w.heap.size w (w.alloc (.cells #[.int .u8 0, .int .i64 0, .int .u16 0, .bool false, .bool false, .int .i64 0, .int .u8 0, .int .u8 0, .int .u16 0, .bool false, .int .u64 0, .int .u64 0, .bool false, .int .u64 0, .int .u64 0, .slice none 0 0] 140)) := Below.allocS (Below.refl _ _) _
  go_enter Try.func72, Try.ntmps72
  go_wp2_with fail
  refine (HH.out _ be).mono ?_
  rintro e w1 ⟨Ao, no, ko, bs1, d1, rfl, rfl, hoo⟩
  have zo : ∀ a, Ao = some a → ¬ (fun b => b = w.heap.size) a.block := fun a ha hb => by
    subst ha
    have := (hoo.blk a.block rfl).1
    have hb' : a.block = w.heap.size := hb
    simp at this
    omega
  go_upto_region 2 with (refine at_op (.store 140 (.tmp 5) (.tmp 11)) rfl ?_; refine wpList_stA (t := 140) 140 (.tmp 5) (.tmp 11) rfl rfl (h4C ts (ln : Int) id st mo (fo : Int) tl pr sm false 0 sa false 0 da Ao no ko) (h4C 0 0 0 false false 0 0 0 0 false 0 0 false 0 0 none 0 0) rfl (h4C_one _ _ _ _ _ _ _ _ _ _ _ _ _ _ _ _ _ _) rfl rfl ?_ (szH4 _ _ _ _ _ _ _ _ _ _ _ _ _ _ _ _ _ _) ?_; (· refine Bk.newK _ _ _ ?_ rfl; simp [size_plus]); intro W b5 hgr)
  have zb := be.size
  replace b2 := ((b2.later (below_plus _ bs1 d1)).alloc _).grown hgr (by simp; omega)
  have hro := hoo.rb.later (below_grown (Below.allocS (Below.refl _ _) _) hgr (by simp [size_plus]))
  replace be := below_grown (Below.allocS (belowP be bs1 d1) _) hgr (by omega)
  have hr := hr0.later be
  have hg5 : w.heap.size < w.heap.size + 1 + bs1.length := by omega
  generalize w.heap.size + 1 + bs1.length = g5 at *
  have hDb : ∀ b, (fun b => b = w.heap.size) b → b < W.heap.size := fun b hb => by subst hb; exact b2.lt
  have hrd : ∀ a, cutA (some ⟨b, off, none⟩) c sz 1 = some a → ¬ (fun b => b = w.heap.size) a.block := fun a ha hb => by
    have : a.block = b := by
      unfold cutA at ha
      split at ha
      · injection ha with ha; subst ha; rfl
      · simp [add_plain] at ha; subst ha; rfl
    have hb' : a.block = w.heap.size := hb
    omega
  clear hgr zb h hoo
  go_wp2
  refine wp_su (fun b => b = w.heap.size) 10 25 2 [7] rfl (by kernel_rfl) (by kernel_rfl) (fun i => match i with | 0 => MC.eq (.agg (h4C ts (ln : Int) id st mo (fo : Int) tl pr sm false 0 sa false 0 da Ao no ko).toArray) | 1 => MC.eq (.slice (some ⟨b, off, none⟩) n c) | 2 => MC.eq (.int .i64 (sz : Int)) | 3 => MC.eq (.pointer (some ⟨g5, 1, none⟩)) | 4 => MC.eq (.int .i64 (ln : Int)) | 5 => MC.eq (.slice (cutA (some ⟨b, off, none⟩) c sz 1) (ln - sz) (c - sz)) | 6 => MC.ob W.heap.size hDb load | 7 => MC.any | 8 => MC.ob W.heap.size hDb load | 9 => MC.eq (.int .i64 0) | _ => MC.any) (fun k w' => Bk w' w.heap.size 140 (if k = 0 then h4C 0 0 0 false false 0 0 0 0 false 0 0 false 0 0 none 0 0 else h4C ts (ln : Int) id st mo (fo : Int) tl pr sm false 0 sa false 0 da Ao no ko)) ?_ ?_ ?_ ?_ ?_
  · exact fun k w w' h h' => h.later h'.below
  · exact b2
  · intro i hi o ho hq FA w' hC hO hD K hK
    match i, hi, ho, hq, hO, hD, hK with
    | 0, _, ho, hq, hO, hD, hK => 
      obtain rfl := Option.some.inj ho.symm
      clear ho hq
      have ev5 : FA.eval (.tmp 5) = .pointer (some ⟨g5, 0, none⟩) := hO 5 (by kernel_rfl)
      have e5 : FA.tmps[5]?.getD undef = .pointer (some ⟨g5, 0, none⟩) := by simpa [Act.eval] using ev5
      replace ev5 := Lib.hid ev5
      clear hO hD
      refine wanted_if rfl ?_
      refine wp_load_mid 140 (.tmp 5) rfl g5 0 ev5.out (h4C ts (ln : Int) id st mo (fo : Int) tl pr sm false 0 sa false 0 da Ao no ko) _ (Bk.range (b5.chg hC (by omega))) u1 u2 (szH4 _ _ _ _ _ _ _ _ _ _ _ _ _ _ _ _ _ _) ?_
      exact hK.out _ _ (Ex.refl _) rfl
    | 1, _, ho, hq, hO, hD, hK => 
      obtain rfl := Option.some.inj ho.symm
      clear ho hq
      have ev0 : FA.eval (.tmp 0) = .slice (some ⟨b, off, none⟩) n c := hO 0 (by kernel_rfl)
      have e0 : FA.tmps[0]?.getD undef = .slice (some ⟨b, off, none⟩) n c := by simpa [Act.eval] using ev0
      replace ev0 := Lib.hid ev0
      clear hO hD
      go_simp
      exact hK.out _ _ (Ex.refl _) rfl
    | 2, _, ho, hq, hO, hD, hK => 
      obtain rfl := Option.some.inj ho.symm
      clear ho hq
      have ev6 : FA.eval (.tmp 6) = .int .i64 (sz : Int) := hO 6 (by kernel_rfl)
      have e6 : FA.tmps[6]?.getD undef = .int .i64 (sz : Int) := by simpa [Act.eval] using ev6
      replace ev6 := Lib.hid ev6
      clear hO hD
      go_simp
      exact hK.out _ _ (Ex.refl _) rfl
    | 3, _, ho, hq, hO, hD, hK => 
      obtain rfl := Option.some.inj ho.symm
      clear ho hq
      have ev5 : FA.eval (.tmp 5) = .pointer (some ⟨g5, 0, none⟩) := hO 5 (by kernel_rfl)
      have e5 : FA.tmps[5]?.getD undef = .pointer (some ⟨g5, 0, none⟩) := by simpa [Act.eval] using ev5
      replace ev5 := Lib.hid ev5
      clear hO hD
      go_simp
      exact hK.out _ _ (Ex.refl _) rfl
    | 4, _, ho, hq, hO, hD, hK => 
      obtain rfl := Option.some.inj ho.symm
      clear ho hq
      have ev21 : FA.eval (.tmp 21) = .pointer (some ⟨g5, 1, none⟩) := hD 3 21 (by kernel_rfl)
      have e21 : FA.tmps[21]?.getD undef = .pointer (some ⟨g5, 1, none⟩) := by simpa [Act.eval] using ev21
      replace ev21 := Lib.hid ev21
      clear hO hD
      have cc : w'.cell? ⟨g5, 1, none⟩ = some (.int .i64 (ln : Int)) := (b5.chg hC (by omega)).cell 1
      go_simp
      exact hK.out _ _ (Ex.refl _) rfl
    | 5, _, ho, hq, hO, hD, hK => 
      obtain rfl := Option.some.inj ho.symm
      clear ho hq
      have ev19 : FA.eval (.tmp 19) = .slice (some ⟨b, off, none⟩) n c := hD 1 19 (by kernel_rfl)
      have e19 : FA.tmps[19]?.getD undef = .slice (some ⟨b, off, none⟩) n c := by simpa [Act.eval] using ev19
      replace ev19 := Lib.hid ev19
      have ev20 : FA.eval (.tmp 20) = .int .i64 (sz : Int) := hD 2 20 (by kernel_rfl)
      have e20 : FA.tmps[20]?.getD undef = .int .i64 (sz : Int) := by simpa [Act.eval] using ev20
      replace ev20 := Lib.hid ev20
      have ev22 : FA.eval (.tmp 22) = .int .i64 (ln : Int) := hD 4 22 (by kernel_rfl)
      have e22 : FA.tmps[22]?.getD undef = .int .i64 (ln : Int) := by simpa [Act.eval] using ev22
      replace ev22 := Lib.hid ev22
      clear hO hD
      go_simp
      exact hK.out _ _ (Ex.refl _) rfl
    | 6, _, ho, hq, hO, hD, hK => 
      obtain rfl := Option.some.inj ho.symm
      clear ho hq
      have ev23 : FA.eval (.tmp 23) = .slice (cutA (some ⟨b, off, none⟩) c sz 1) (ln - sz) (c - sz) := hD 5 23 (by kernel_rfl)
      have e23 : FA.tmps[23]?.getD undef = .slice (cutA (some ⟨b, off, none⟩) c sz 1) (ln - sz) (c - sz) := by simpa [Act.eval] using ev23
      replace ev23 := Lib.hid ev23
      clear hO hD
      go_simp
      refine (clone_any _ _ _ load _ (hr.chg hC hrd) (by omega)).mono ?_
      rintro e w1 ⟨A2, n2, c2, bs2, d2, rfl, rfl, ho2⟩
      exact hK.out _ _ (Ex.plus_ _ _ _) ⟨_, _, _, rfl, ho2.mono hC.size⟩
    | 7, _, _, hq, _, _, _ => exact absurd hq (by decide)
    | 8, _, ho, hq, hO, hD, hK => 
      obtain rfl := Option.some.inj ho.symm
      clear ho hq
      have f24 := hD 6 24 (by kernel_rfl)
      generalize eu24 : FA.eval (.tmp 24) = u24 at f24
      have e24 : FA.tmps[24]?.getD undef = u24 := by rw [← eu24]; simp [Act.eval]
      have ev24 := Lib.hid eu24
      clear eu24
      clear hO hD
      go_simp
      exact hK.out _ _ (Ex.refl _) f24
    | 9, _, ho, hq, hO, hD, hK => 
      obtain rfl := Option.some.inj ho.symm
      clear ho hq
      clear hO hD
      go_simp
      exact hK.out _ _ (Ex.refl _) rfl
    | (k + 10), hi, _, _, _, _, _ => exact absurd hi (by omega)
  · intro k i hk o ho FA w' hC hS hO hD K hK
    match k, hk, hS, hK with
    | 0, hk, hS, hK => 
      obtain rfl : 7 = i := Option.some.inj hk
      obtain rfl := Option.some.inj ho.symm
      clear ho hk
      have ev2 : FA.eval (.tmp 2) = .pointer (some ⟨w.heap.size, 0, none⟩) := hO 2 (by kernel_rfl)
      have e2 : FA.tmps[2]?.getD undef = .pointer (some ⟨w.heap.size, 0, none⟩) := by simpa [Act.eval] using ev2
      replace ev2 := Lib.hid ev2
      have ev18 : FA.eval (.tmp 18) = .agg (h4C ts (ln : Int) id st mo (fo : Int) tl pr sm false 0 sa false 0 da Ao no ko).toArray := hD 0 18 (by kernel_rfl)
      have e18 : FA.tmps[18]?.getD undef = .agg (h4C ts (ln : Int) id st mo (fo : Int) tl pr sm false 0 sa false 0 da Ao no ko).toArray := by simpa [Act.eval] using ev18
      replace ev18 := Lib.hid ev18
      clear hO hD
      refine wanted_if rfl ?_
      refine wp_stA 140 (.tmp 2) (.tmp 18) rfl (h4C ts (ln : Int) id st mo (fo : Int) tl pr sm false 0 sa false 0 da Ao no ko) (h4C 0 0 0 false false 0 0 0 0 false 0 0 false 0 0 none 0 0) rfl (h4C_one _ _ _ _ _ _ _ _ _ _ _ _ _ _ _ _ _ _) ev2.out ev18.out hS (szH4 _ _ _ _ _ _ _ _ _ _ _ _ _ _ _ _ _ _) ?_
      intro w'' hn hg
      exact hK.out _ _ (Chg.one hg rfl) hn trivial
    | (k + 1), hk, _, _ => simp at hk
  intro vs w' hC hS hp
  have p0 : vs 0 = .agg (h4C ts (ln : Int) id st mo (fo : Int) tl pr sm false 0 sa false 0 da Ao no ko).toArray := hp 0 (by omega) rfl
  have p1 : vs 1 = .slice (some ⟨b, off, none⟩) n c := hp 1 (by omega) rfl
  have p2 : vs 2 = .int .i64 (sz : Int) := hp 2 (by omega) rfl
  have p3 : vs 3 = .pointer (some ⟨g5, 1, none⟩) := hp 3 (by omega) rfl
  have p4 : vs 4 = .int .i64 (ln : Int) := hp 4 (by omega) rfl
  have p5 : vs 5 = .slice (cutA (some ⟨b, off, none⟩) c sz 1) (ln - sz) (c - sz) := hp 5 (by omega) rfl
  have p6 := hp 6 (by omega) rfl
  have p8 := hp 8 (by omega) rfl
  have p9 : vs 9 = .int .i64 0 := hp 9 (by omega) rfl
  clear hp
  simp only [List.take_succ_cons, List.take_zero, List.drop_succ_cons, List.drop_zero, putAll, Nat.zero_add, Nat.reduceAdd, Act.put, List.setIfInBounds_toArray, List.set_cons_zero, List.set_cons_succ, p0, p1, p2, p3, p4, p5, p9]
  clear p0 p1 p2 p3 p4 p5 p9
  generalize vs 6 = y6 at *
  generalize vs 8 = y8 at *
  clear vs
  obtain ⟨A8, n8, c8, rfl, h8⟩ := p8
  go_wp2
  refine bodyPost_agg3 Try.results72 rfl rfl rfl (Bk.range hS) u1 u2 (szH4 _ _ _ _ _ _ _ _ _ _ _ _ _ _ _ _ _ _) rfl (RetP4.mk (hro.chg hC zo) h8.rb (h8.fresh be.size) ?_)
  exact be.trans (hC.below (B := w.heap.size) (fun b hb => by have : b = w.heap.size := hb; omega) be.size)
end Go.Proofs.Ytfmkndemkpecpaa

