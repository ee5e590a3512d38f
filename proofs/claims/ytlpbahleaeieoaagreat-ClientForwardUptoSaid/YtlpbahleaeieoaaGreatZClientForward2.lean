/- Texts of the law ClientForward, part 2. -/
import Derived.Test.YtlpbahleaeieoaaGreatZClientForward1
set_option linter.unusedVariables false
set_option linter.unusedSimpArgs false
namespace Go.Proofs.YtlpbahleaeieoaaGreat
section
open Go.RowKit
attribute [local go_sem ↓] sliced_cut
attribute [local go_sem] cutA_zero
def tot : Bool → List UInt8 → Nat
 | _, [] => 0
 | low, b :: r => (if low then b.toNat else b.toNat * 256) + tot (!low) r
def fd (n : Nat) : Nat := if n = 0 then 0 else (n - 1) % 65535 + 1
theorem fd_le (n : Nat) : fd n ≤ 65535 := by
 unfold fd
 split
 ·omega
 ·have := Nat.mod_lt (n - 1) (show 65535 > 0 by decide)
  omega
theorem fd_small (n : Nat) (h : n ≤ 65535) : fd n = n := by
 unfold fd
 split
 ·omega
 ·rw [Nat.mod_eq_of_lt (by omega)]
  omega
theorem fd_step (n : Nat) (h : 65535 < n) : fd (n % 65536 + n / 65536) = fd n := by
 unfold fd
 rw [if_neg (by omega), if_neg (by omega)]
 omega
theorem fd_add (a b : Nat) : fd (fd a + b) = fd (a + b) := by
 unfold fd
 by_cases ha : a = 0
 ·subst ha; simp
 ·rw [if_neg ha, if_neg (by omega), if_neg (by omega)]
  omega
theorem fd_plus (a b : Nat) (ha : a ≤ 65535) (hb : b ≤ 65535) : fd (a + b) = if 65535 < a + b then a + b - 65535 else a + b := by
 split
 ·unfold fd
  rw [if_neg (by omega)]
  omega
 ·exact fd_small _ (by omega)
theorem tot_append (low : Bool) (a b : List UInt8) : tot low (a ++ b) = tot low a + tot (if a.length % 2 = 0 then low else !low) b := by
 induction a generalizing low with
 | nil => simp [tot]
 | cons x r ih =>
  simp only [List.cons_append, tot, ih]
  have : (if r.length % 2 = 0 then !low else !!low) = (if (x :: r).length % 2 = 0 then low else !low) := by
   simp only [List.length_cons]
   by_cases h : r.length % 2 = 0
   ·rw [if_pos h, if_neg (by omega)]
   ·rw [if_neg h, if_pos (by omega)]
    simp
  rw [this]
  omega
theorem tot_le (low : Bool) (l : List UInt8) : tot low l ≤ 65280 * l.length := by
 induction l generalizing low with
 | nil => simp [tot]
 | cons x r ih =>
  have := ih (!low)
  have hx := x.toNat_lt
  simp only [tot, List.length_cons]
  split <;> omega
theorem low16 (n : Nat) (hn : n < 18446744073709551616) : bits .and .u64 (n : Int) 65535 = ((n % 65536 : Nat) : Int) := by
 have := u64_and_nat n 65535 hn (by decide)
 rw [show (65535 : Nat) = 2 ^ 16 - 1 from rfl, Nat.and_two_pow_sub_one_eq_mod] at this
 exact this
set_option maxHeartbeats 2000000 in
theorem fold_sum (n : Nat) (w : World) (hn : n < 18446744073709551616) : Calls Tryz.prog 71 #[.int .u64 n] w fun e w' => e = .returned (.int .u16 (fd n : Nat)) ∧ w = w' := by
 go_enter Tryz.func71, Tryz.ntmps71
 go_wp2
 go_loop [0] (fun x => ∃ k : Nat, k < 18446744073709551616 ∧ x = .int .u64 k ∧ fd k = fd n) (fun x => (intOf x).toNat)
 case atStart => exact ⟨n, hn, rfl, rfl⟩
 case round =>
  obtain ⟨k, hk, rfl, hf⟩ := hrel
  have HF := Lib.hid hf
  clear hf
  by_cases hb : 65535 < k
  ·have h1 := low16 k hk
   have hs := Lib.hid (fd_step k hb)
   go_wp2
   go_round
   case rel => exact ⟨k % 65536 + k / 65536, by omega, by go_num, by rw [hs.out]; exact HF.out⟩
   case measure => simp [intOf]; omega
  ·have h0 : k ≤ 65535 := by omega
   go_wp2
   go_ret
   rw [← HF.out, fd_small k h0]
   exact ⟨rfl, rfl⟩
theorem plus_any (a b : Nat) (w : World) (ha : a ≤ 65535) (hb : b ≤ 65535) : Calls Tryz.prog 85 #[.int .u32 a, .int .u32 b] w fun e w' => e = .returned (.int .u32 (fd (a + b) : Nat)) ∧ w = w' := by
 have e := Lib.hid (fd_plus a b ha hb)
 by_cases hc : 65535 < a + b
 ·rw [if_pos hc] at e
  go_enter Tryz.func85, Tryz.ntmps85
  go_wp2
  go_ret
  rw [e.out]
  exact ⟨by simp; omega, rfl⟩
 ·rw [if_neg hc] at e
  go_enter Tryz.func85, Tryz.ntmps85
  go_wp2
  go_ret
  rw [e.out]
  exact ⟨by simp, rfl⟩
theorem tot_snoc (l : List UInt8) (i : Nat) (h : i < l.length) : tot false (l.take (i + 1)) = tot false (l.take i) + (if i % 2 = 0 then l[i].toNat * 256 else l[i].toNat) := by
 rw [List.take_succ_eq_append_getElem h, tot_append]
 have hl : (l.take i).length = i := by rw [List.length_take]; omega
 rw [hl]
 by_cases hi : i % 2 = 0 <;> simp [hi, tot]
theorem tot_two (l : List UInt8) (i : Nat) (hi : i % 2 = 0) (h : i + 1 < l.length) : tot false (l.take (i + 2)) = tot false (l.take i) + (l[i].toNat * 256 + l[i + 1].toNat) := by
 rw [tot_snoc l (i + 1) h, tot_snoc l i (by omega), if_pos hi, if_neg (by omega)]
 omega
theorem tot_one (l : List UInt8) (i : Nat) (hi : i % 2 = 0) (h : i + 1 = l.length) : tot false (l.take (i + 2)) = tot false (l.take i) + l[i].toNat * 256 := by
 have := tot_snoc l i (by omega)
 rw [if_pos hi] at this
 have e1 : l.take (i + 2) = l.take (i + 1) := by rw [List.take_of_length_le (by omega), List.take_of_length_le (by omega)]
 rw [e1]
 exact this
set_option maxHeartbeats 2000000 in
theorem refSumOf (A : Option Addr) (n c : Nat) (l : List UInt8) (w : World) (h : Rb w A n c l) (hm : n ≤ 2000000) : Calls Tryz.prog 59 #[.slice A n c] w fun e w' => e = .returned (.int .u16 (65535 - fd (tot false l) : Nat)) ∧ w = w' := by
 have HL := Lib.hid h.1
 have hrd := h.2.2
 go_enter Tryz.func59, Tryz.ntmps59
 go_wp2
 go_loop [3, 4, 5] (fun x i y => ∃ j : Nat, j % 2 = 0 ∧ j ≤ n + 1 ∧ i = .int .i64 j ∧ x = .int .u32 (fd (tot false (l.take j)) : Nat)) (fun _ i _ => n + 1 - (intOf i).toNat)
 case atStart => exact ⟨0, rfl, by omega, rfl, rfl⟩
 case round =>
  obtain ⟨j, he, hj, rfl, rfl⟩ := hrel
  have HE := Lib.hid he
  clear he
  have hs := fd_le (tot false (l.take j))
  by_cases hlt : j < n
  ·obtain ⟨b, off, rfl, hb, hcell⟩ := hrd.at_ (by rw [bcs_length, HL.out]; omega)
   have hjl : j < l.length := by rw [HL.out]; omega
   have hcj : w.cell? ⟨b, off + j, none⟩ = some (.int .u8 (l[j].toNat : Int)) := hcell j _ (bcs_get _ _ hjl)
   have hx : l[j].toNat < 256 := l[j].toNat_lt
   by_cases hlt2 : j + 1 < n
   ·have hjl2 : j + 1 < l.length := by rw [HL.out]; omega
    have hcj2 : w.cell? ⟨b, off + (j + 1), none⟩ = some (.int .u8 (l[j + 1].toNat : Int)) := hcell (j + 1) _ (bcs_get _ _ hjl2)
    have hx2 : l[j + 1].toNat < 256 := l[j + 1].toNat_lt
    have HS : Hid (fd (fd (tot false (l.take j)) + (l[j].toNat * 256 + l[j + 1].toNat)) = fd (tot false (l.take (j + 2)))) := Lib.hid (by rw [fd_add, tot_two l j HE.out hjl2])
    clear hcell hrd
    generalize fd (tot false (l.take j)) = s0 at *
    generalize l[j].toNat = y0 at *
    generalize l[j + 1].toNat = y1 at *
    go_wp2_with (go_at_call 85; refine (plus_any s0 (y0 * 256 + y1) _ hs (by omega)).mono ?_; rintro e w1 ⟨rfl, rfl⟩)
    go_round
    case rel => exact ⟨j + 2, by have := HE.out; omega, by omega, by go_num, by rw [HS.out]⟩
    case measure => simp [intOf]; omega
   ·have HS : Hid (fd (fd (tot false (l.take j)) + l[j].toNat * 256) = fd (tot false (l.take (j + 2)))) := Lib.hid (by rw [fd_add, tot_one l j HE.out (by have := HL.out; omega)])
    clear hcell hrd
    generalize fd (tot false (l.take j)) = s0 at *
    generalize l[j].toNat = y0 at *
    go_wp2_with (go_at_call 85; refine (plus_any s0 (y0 * 256) _ hs (by omega)).mono ?_; rintro e w1 ⟨rfl, rfl⟩)
    go_round
    case rel => exact ⟨j + 2, by have := HE.out; omega, by omega, by go_num, by rw [HS.out]⟩
    case measure => simp [intOf]; omega
  ·have hle := HL.out
   rw [List.take_of_length_le (by omega)] at *
   clear hle
   go_wp2
   go_ret
   have := fd_le (tot false l)
   exact ⟨by simp; omega, rfl⟩
theorem tot_one1 (p : List UInt8) (x : UInt8) : tot false (p ++ [x]) = tot false p + (if p.length % 2 = 0 then x.toNat * 256 else x.toNat) := by
 rw [tot_append]
 by_cases h : p.length % 2 = 0 <;> simp [h, tot]
theorem take_snoc_ (l : List UInt8) (i : Nat) (h : i < l.length) (p : List UInt8) : p ++ l.take (i + 1) = (p ++ l.take i) ++ [l[i]] := by
 rw [List.take_succ_eq_append_getElem h, List.append_assoc]
theorem xor_ones16 (b : Nat) (hb : b < 2 ^ 16) : (2 ^ 16 - 1) ^^^ b = 2 ^ 16 - 1 - b := by
 apply Nat.eq_of_testBit_eq
 intro i
 rw [Nat.testBit_xor, Nat.testBit_two_pow_sub_one, show 2 ^ 16 - 1 - b = 2 ^ 16 - (b + 1) by omega, Nat.testBit_two_pow_sub_succ hb]
 by_cases h : i < 16
 ·simp [h]
 ·have : b.testBit i = false := Nat.testBit_lt_two_pow (Nat.lt_of_lt_of_le hb (Nat.pow_le_pow_right (by decide) (by omega)))
  simp [h, this]
theorem not16 (x : Nat) (h : x ≤ 65535) : bits .xor .u16 IntKind.u16.max (x : Int) = ((65535 - x : Nat) : Int) := by
 have := u16_xor_nat 65535 x (by decide) (by omega)
 have e := xor_ones16 x (by omega)
 simp only [Nat.reducePow, Nat.reduceSub] at e
 rw [e] at this
 exact this
def LowB (l : List UInt8) (v : Value) : Prop := (l.length % 2 = 0 ∧ v = .bool false) ∨ (l.length % 2 = 1 ∧ v = .bool true)
set_option maxHeartbeats 2000000 in
theorem sumOf (A : Option Addr) (m c : Nat) (L : List (List UInt8)) (w : World) (h : RdL w A m L) (hm : m ≤ 2000000) (ht : L.flatten.length ≤ 2000000) : Calls Tryz.prog 48 #[.slice A m c] w fun e w' => e = .returned (.int .u16 (65535 - fd (tot false L.flatten) : Nat)) ∧ w = w' := by
 obtain ⟨cs, h1, h2, hrd, hel⟩ := h
 have H1 := Lib.hid h1
 have H2 := Lib.hid h2
 have HE := Lib.hid hel
 clear h1 h2 hel
 go_enter Tryz.func48, Tryz.ntmps48
 go_wp2
 go_loop [3, 4, 11] (fun x y i => ∃ j : Nat, j ≤ m ∧ i = .int .i64 j ∧ x = .int .u64 (tot false (L.take j).flatten : Nat) ∧ LowB (L.take j).flatten y) (fun _ _ i => m - (intOf i).toNat)
 case atStart => exact ⟨0, Nat.zero_le _, rfl, rfl, .inl ⟨rfl, rfl⟩⟩
 case round =>
  obtain ⟨j, hj, rfl, rfl, hlow⟩ := hrel
  by_cases hlt : j < m
  ·obtain ⟨b, off, rfl, hbl, hcell⟩ := hrd.at_ (by rw [H1.out]; omega)
   have hjc : j < cs.length := by rw [H1.out]; exact hlt
   obtain ⟨A2, n2, c2, he, l, hl, hr2⟩ := HE.out j _ (List.getElem?_eq_getElem hjc)
   have hcj : w.cell? ⟨b, off + j, none⟩ = some (.slice A2 n2 c2) := by
    rw [← he]
    exact hcell j _ (List.getElem?_eq_getElem hjc)
   have HS := Lib.hid (take_flatten_succ L j l hl)
   have hsz : (L.take j).flatten.length + l.length ≤ 2000000 := by
    have e2 := total_take L (j + 1)
    rw [HS.out, List.length_append] at e2
    omega
   have HL := Lib.hid hr2.1
   have hrd2 := hr2.2.2
   have hn2 : n2 ≤ 2000000 := by have := HL.out; omega
   clear hcell hrd hl he hr2
   generalize (L.take j).flatten = p at *
   have HLO := Lib.hid hlow
   have htp : tot false p ≤ 65280 * 2000000 := Nat.le_trans (tot_le false p) (Nat.mul_le_mul_left _ (by omega))
   clear hlow
   go_wp2
   go_loop [3, 4, 17] (fun x y i => ∃ k : Nat, k ≤ n2 ∧ i = .int .i64 k ∧ x = .int .u64 (tot false (p ++ l.take k) : Nat) ∧ LowB (p ++ l.take k) y) (fun _ _ i => n2 - (intOf i).toNat)
   case atStart => exact ⟨0, Nat.zero_le _, rfl, by simp, by simpa using HLO.out⟩
   case round =>
    obtain ⟨k, hk, rfl, rfl, hlow⟩ := hrel
    by_cases hlt2 : k < n2
    ·obtain ⟨b2, off2, rfl, hbl2, hcell2⟩ := hrd2.at_ (by rw [bcs_length, HL.out]; omega)
     have hkl : k < l.length := by rw [HL.out]; omega
     have hck : w.cell? ⟨b2, off2 + k, none⟩ = some (.int .u8 (l[k].toNat : Int)) := hcell2 k _ (bcs_get _ _ hkl)
     have hx2 : l[k].toNat < 256 := l[k].toNat_lt
     have htq : tot false (p ++ l.take k) ≤ 65280 * 2000000 := Nat.le_trans (tot_le false _) (Nat.mul_le_mul_left _ (by rw [List.length_append, List.length_take]; omega))
     have HT := Lib.hid (tot_one1 (p ++ l.take k) l[k])
     have HN := Lib.hid (take_snoc_ l k hkl p)
     have HP := Lib.hid hlow
     clear hcell2 hrd2 hlow
     generalize p ++ l.take k = q at *
     rcases HP.out with ⟨h0, rfl⟩ | ⟨h0, rfl⟩
     ·have HZ := Lib.hid h0
      clear h0 HP
      go_wp2
      go_round
      case rel =>
       refine ⟨k + 1, by omega, by go_num, ?_, ?_⟩
       ·rw [HN.out, HT.out, if_pos HZ.out]; simp
       ·rw [HN.out]; right; exact ⟨by rw [List.length_append]; have := HZ.out; simp; omega, rfl⟩
      case measure => simp [intOf]; omega
     ·have HZ := Lib.hid h0
      clear h0 HP
      go_wp2
      go_round
      case rel =>
       refine ⟨k + 1, by omega, by go_num, ?_, ?_⟩
       ·rw [HN.out, HT.out, if_neg (by have := HZ.out; omega)]; simp
       ·rw [HN.out]; left; exact ⟨by rw [List.length_append]; have := HZ.out; simp; omega, rfl⟩
      case measure => simp [intOf]; omega
    ·have hkk : l.take k = l := List.take_of_length_le (by rw [HL.out]; omega)
     rw [hkk] at hlow
     have HK := Lib.hid hkk
     have HLW := Lib.hid hlow
     clear hkk hlow
     go_wp2
     go_round
     case rel => exact ⟨j + 1, by omega, by go_num, by rw [HS.out, HK.out], by rw [HS.out]; exact HLW.out⟩
     case measure => simp [intOf]; omega
  ·have hjj : L.take j = L := List.take_of_length_le (by rw [H2.out]; omega)
   rw [hjj]
   have htq : tot false L.flatten ≤ 65280 * 2000000 := Nat.le_trans (tot_le false _) (Nat.mul_le_mul_left _ (by omega))
   clear hjj hlow
   generalize hq : tot false L.flatten = t at *
   have HQ := Lib.hid hq
   clear hq
   have hf := fd_le t
   have hx := not16 (fd t) hf
   go_wp2_with (go_at_call 71; refine (fold_sum t _ (by omega)).mono ?_; rintro e w1 ⟨rfl, rfl⟩)
   go_ret
   refine ⟨?_, rfl⟩
   rw [HQ.out]
   rfl
theorem sumRight (A : Option Addr) (m c : Nat) (L : List (List UInt8)) (w : World) (h : RdL w A m L) (hm : m ≤ 2000000) (ht : L.flatten.length ≤ 2000000) : Calls Tryz.prog 91 #[.slice A m c] w fun e w' => e = .returned (.bool (65535 - fd (tot false L.flatten) == 0)) ∧ w = w' := by
 have HO := Lib.hid (sumOf A m c L w h hm ht)
 generalize 65535 - fd (tot false L.flatten) = z at *
 go_enter Tryz.func91, Tryz.ntmps91
 go_wp2_with (go_at_call 48; refine HO.out.mono ?_; rintro e w1 ⟨rfl, rfl⟩)
 go_ret
 refine ⟨?_, rfl⟩
 show Ending.returned (.bool ((z : Int) == 0)) = _
 congr 2
 rw [Bool.eq_iff_iff]
 simp only [beq_iff_eq]
 omega
end

section
open Go.RowKit
attribute [local go_sem ↓] sliced_cut
attribute [local go_sem] cutA_zero
def RetM (w : World) (ty code sum word : Int) (l : List UInt8) (e : Ending) (w' : World) : Prop :=
 ∃ A n c bs d, e = .returned (.agg #[.int .u8 ty, .int .u8 code, .int .u16 sum, .int .u32 word, .slice A n c]) ∧ w' = plus w bs d ∧ Ob (plus w bs d) w.heap.size A n c l
theorem RetM.mk {w w' : World} {ty code sum word : Int} {l : List UInt8} {A : Option Addr} {n c : Nat} (ho : Ob w' w.heap.size A n c l) (hb : Below w.heap.size w w') :
  RetM w ty code sum word l (.returned (.agg #[.int .u8 ty, .int .u8 code, .int .u16 sum, .int .u32 word, .slice A n c])) w' := by
 obtain ⟨bs, d, rfl⟩ := plus_of hb
 exact ⟨A, n, c, bs, d, rfl, rfl, ho⟩
set_option maxHeartbeats 2000000 in
theorem icmpBytes_any (a b c d : Int) (A : Option Addr) (n k : Nat) (l : List UInt8) (w : World) (ha : 0 ≤ a ∧ a ≤ 255) (hb : 0 ≤ b ∧ b ≤ 255) (hc : 0 ≤ c ∧ c ≤ 65535) (hd : 0 ≤ d ∧ d ≤ 4294967295) (h : Rb w A n k l) (hn : n ≤ 2000000) :
  Calls Tryz.prog 101 #[.agg #[.int .u8 a, .int .u8 b, .int .u16 c, .int .u32 d, .slice A n k]] w (RetB w (dig a.toNat 1 ++ dig b.toNat 1 ++ dig c.toNat 2 ++ dig d.toNat 4 ++ l)) := by
 obtain ⟨a0, a1⟩ := ha
 obtain ⟨b0, b1⟩ := hb
 obtain ⟨c0, c1⟩ := hc
 obtain ⟨d0, d1⟩ := hd
 go_enter Tryz.func101, Tryz.ntmps101
 go_wp2_with fail
 refine (put_int _ _ _ [] a 1 _ Rb.nil_ (by omega) a0 (by omega) (by omega) (by omega)).mono ?_
 rintro e w1 ⟨A1, n1, k1, bs1, m1, rfl, rfl, ho1⟩
 have l1 : n1 ≤ 100 := by have := ho1.len; simp [dig_length] at this; omega
 go_wp2_with fail
 refine (put_int _ _ _ _ b 1 _ ho1.rb (by omega) b0 (by omega) (by omega) (by omega)).mono ?_
 rintro e w2 ⟨A2, n2, k2, bs2, m2, rfl, rfl, ho2⟩
 have l2 : n2 ≤ 100 := by have := ho2.len; simp [dig_length] at this; omega
 go_wp2_with fail
 refine (put_int _ _ _ _ c 2 _ ho2.rb (by omega) c0 (by omega) (by omega) (by omega)).mono ?_
 rintro e w3 ⟨A3, n3, k3, bs3, m3, rfl, rfl, ho3⟩
 have l3 : n3 ≤ 100 := by have := ho3.len; simp [dig_length] at this; omega
 go_wp2_with fail
 refine (put_int _ _ _ _ d 4 _ ho3.rb (by omega) d0 (by omega) (by omega) (by omega)).mono ?_
 rintro e w4 ⟨A4, n4, k4, bs4, m4, rfl, rfl, ho4⟩
 have l4 : n4 ≤ 100 := by have := ho4.len; simp [dig_length] at this; omega
 go_wp2_with (at_builtin; refine wpList_appP _ bt rfl (.tmp 23) (.tmp 25) rfl (by exact below_plus _ bs4 m4) rfl ho4 rfl (by exact ((((h.alloc _).plus_ _ _).plus_ _ _).plus_ _ _).plus_ _ _) (by omega) ?_; intro A5 n5 k5 bs5 m5 ho5 _)
 go_ret
 refine RetB.mk ?_ (toPlus (toPlus (toPlus (toPlus ((Below.refl _ _).alloc (Nat.le_refl _) _) (by simp) _ _) (by simp [size_plus]; omega) _ _) (by simp [size_plus]; omega) _ _) (by simp [size_plus]; omega) _ _)
 simpa using ho5.mono (base' := w.heap.size) (by simp [size_plus]; omega)
end

section
open Go.RowKit
attribute [local go_sem ↓] sliced_cut
attribute [local go_sem] cutA_zero
def msgC (a b c d : Nat) (A : Option Addr) (n k : Nat) : List Value := [.int .u8 (a : Int), .int .u8 (b : Int), .int .u16 (c : Int), .int .u32 (d : Int), .slice A n k]
theorem msgC_one (a b c d : Nat) (A : Option Addr) (n k : Nat) : ∀ u ∈ msgC a b c d A n k, u.oneCell' = true := by
 intro u hu
 simp only [msgC, List.mem_cons, List.not_mem_nil, or_false] at hu
 rcases hu with rfl | rfl | rfl | rfl | rfl <;> rfl
theorem szMs (a b c d : Nat) (A : Option Addr) (n k : Nat) : (Tryz.prog.info? 53).map (·.size) = some (msgC a b c d A n k).length := by kernel_rfl
theorem rowMs : ∃ d, Tryz.prog.underlying 53 = some d ∧ d.isRow = true := ⟨_, Tryz.underlying53, rfl⟩
theorem rowAd : ∃ d, Tryz.prog.underlying 24 = some d ∧ d.isRow = true := ⟨_, Tryz.underlying24, rfl⟩
def icmpB (a b c d : Nat) (l : List UInt8) : List UInt8 := dig a 1 ++ dig b 1 ++ dig c 2 ++ dig d 4 ++ l
theorem icmpB_length (a b c d : Nat) (l : List UInt8) : (icmpB a b c d l).length = 8 + l.length := by simp [icmpB, dig_length]; omega
theorem icmpBytes (a b c d : Nat) (A : Option Addr) (n k : Nat) (l : List UInt8) (w : World) (ha : a < 256) (hb : b < 256) (hc : c < 65536) (hd : d < 4294967296) (h : Rb w A n k l) (hn : n ≤ 2000000) : Calls Tryz.prog 101 #[.agg (msgC a b c d A n k).toArray] w (RetB w (icmpB a b c d l)) := by
 have := icmpBytes_any (a : Int) b c d A n k l w (by omega) (by omega) (by omega) (by omega) h hn
 simpa [icmpB, msgC] using this
def icP (s6 : Bool) (sh sl : Nat) (d6 : Bool) (dh dl : Nat) (z : Nat) : List UInt8 := if s6 then psdB s6 sh sl d6 dh dl 58 z else []
theorem icP_length (s6 : Bool) (sh sl : Nat) (d6 : Bool) (dh dl : Nat) (z : Nat) : (icP s6 sh sl d6 dh dl z).length ≤ 40 := by
 have := psdB_length s6 sh sl d6 dh dl 58 z
 cases s6 <;> simp [icP] at * <;> omega
def Ret2 (w : World) (l1 l2 : List UInt8) (e : Ending) (w' : World) : Prop := ∃ A1 n1 c1 A2 n2 c2 bs d, e = .returned (.tuple #[.slice A1 n1 c1, .slice A2 n2 c2]) ∧ w' = plus w bs d ∧ Rb (plus w bs d) A1 n1 c1 l1 ∧ Rb (plus w bs d) A2 n2 c2 l2
theorem Ret2.mk {w w' : World} {l1 l2 : List UInt8} {A1 : Option Addr} {n1 c1 : Nat} {A2 : Option Addr} {n2 c2 : Nat} (h1 : Rb w' A1 n1 c1 l1) (h2 : Rb w' A2 n2 c2 l2) (hb : Below w.heap.size w w') : Ret2 w l1 l2 (.returned (.tuple #[.slice A1 n1 c1, .slice A2 n2 c2])) w' := by
 obtain ⟨bs, d, rfl⟩ := plus_of hb
 exact ⟨_, _, _, _, _, _, bs, d, rfl, rfl, h1, h2⟩
set_option maxHeartbeats 4000000
set_option maxRecDepth 100000
theorem icmpCovered (a b c d : Nat) (A : Option Addr) (n k : Nat) (s6 : Bool) (sh sl : Nat) (d6 : Bool) (dh dl : Nat) (l : List UInt8) (w : World) (ha : a < 256) (hb : b < 256) (hc : c < 65536) (hd : d < 4294967296) (k1 : sh < 18446744073709551616) (k2 : sl < 18446744073709551616) (k3 : dh < 18446744073709551616) (k4 : dl < 18446744073709551616) (h : Rb w A n k l) (hn : n ≤ 65527) : Calls Tryz.prog 97 #[.agg (msgC a b c d A n k).toArray, .agg (adC s6 sh sl).toArray, .agg (adC d6 dh dl).toArray] w (Ret2 w (icP s6 sh sl d6 dh dl (8 + n)) (icmpB a b c d l)) := by
 obtain ⟨dx, u1, u2⟩ := rowMs
 obtain ⟨dy, y1, y2⟩ := rowAd
 have hM : Bk (((w.alloc (.cells (msgC a b c d A n k).toArray 53)).alloc (.cells (adC s6 sh sl).toArray 24)).alloc (.cells (adC d6 dh dl).toArray 24)) w.heap.size 53 (msgC a b c d A n k) := ((Bk.new w 53 (msgC a b c d A n k).toArray).alloc _).alloc _
 have hS : Bk (((w.alloc (.cells (msgC a b c d A n k).toArray 53)).alloc (.cells (adC s6 sh sl).toArray 24)).alloc (.cells (adC d6 dh dl).toArray 24)) (w.heap.size + 1) 24 (adC s6 sh sl) := (Bk.newK _ _ _ (by simp) rfl).alloc _
 have hD : Bk (((w.alloc (.cells (msgC a b c d A n k).toArray 53)).alloc (.cells (adC s6 sh sl).toArray 24)).alloc (.cells (adC d6 dh dl).toArray 24)) (w.heap.size + 1 + 1) 24 (adC d6 dh dl) := Bk.newK _ _ _ (by simp) rfl
 have be : Below w.heap.size w (((w.alloc (.cells (msgC a b c d A n k).toArray 53)).alloc (.cells (adC s6 sh sl).toArray 24)).alloc (.cells (adC d6 dh dl).toArray 24)) := Below.allocS (Below.allocS (Below.allocS (Below.refl _ _) _) _) _
 replace h := ((h.alloc (.cells (msgC a b c d A n k).toArray 53)).alloc (.cells (adC s6 sh sl).toArray 24)).alloc (.cells (adC d6 dh dl).toArray 24)
 have HB := Lib.hid (fun w (h : Rb w A n k l) => icmpBytes a b c d A n k l w ha hb hc hd h (by omega))
 have hlen : n = l.length := h.1.symm
 replace hlen := Lib.hid hlen
 go_enter Tryz.func97, Tryz.ntmps97
 go_upto_region 1 with (fail)
 generalize ((w.alloc (.cells (msgC a b c d A n k).toArray 53)).alloc (.cells (adC s6 sh sl).toArray 24)).alloc (.cells (adC d6 dh dl).toArray 24) = W at *
 go_upto_region 2 with (first
  | (refine at_op (.load 53 (.tmp 3)) rfl ?_; refine wpList_ldA (t := 53) 53 (.tmp 3) rfl rfl (msgC a b c d A n k) rfl (by with_reducible repeat (first | exact hM | refine Bk.later ?_ (below_plus _ _ _) | refine Bk.alloc ?_ _)) (whole_ _) u1 u2 (szMs _ _ _ _ _ _ _) ?_)
  | (go_at_call 101; refine (HB.out _ h).mono ?_; rintro e w1 ⟨A1, n1, c1, bs1, d1, rfl, rfl, ho1⟩))
 replace hS := hS.later (below_plus _ bs1 d1)
 replace hD := hD.later (below_plus _ bs1 d1)
 replace be := belowP be bs1 d1
 have hr1 := ho1.rb
 obtain rfl : n1 = 8 + n := by rw [← ho1.1, icmpB_length, hlen.out]
 generalize plus W bs1 d1 = W2 at *
 have q0 : W2.cell? ⟨w.heap.size + 1, 0, none⟩ = some (.bool s6) := hS.cell 0
 cases s6
 ·go_wp2
  refine bodyPost_ret (v := .tuple #[.slice none 0 0, .slice A1 (8 + n) c1]) (by simp [results, Tryz.results97, go_sem]) rfl ?_
  exact Ret2.mk Rb.nil_ hr1 be
 ·go_wp2_with (first
   | (refine at_op (.load 24 (.tmp 4)) rfl ?_; refine wpList_ldA (t := 24) 24 (.tmp 4) rfl rfl (adC true sh sl) rfl (by with_reducible repeat (first | exact hS | refine Bk.later ?_ (below_plus _ _ _) | refine Bk.alloc ?_ _)) (whole_ _) y1 y2 (szAd _ _ _) ?_)
   | (refine at_op (.load 24 (.tmp 5)) rfl ?_; refine wpList_ldA (t := 24) 24 (.tmp 5) rfl rfl (adC d6 dh dl) rfl (by with_reducible repeat (first | exact hD | refine Bk.later ?_ (below_plus _ _ _) | refine Bk.alloc ?_ _)) (whole_ _) y1 y2 (szAd _ _ _) ?_)
   | (go_at_call 49; refine (pseudo_any true sh sl d6 dh dl 58 (8 + n) _ k1 k2 k3 k4 (by omega) (by omega)).mono ?_; rintro e w1 ⟨A2, n2, bs2, d2, rfl, rfl, ho2⟩))
  refine bodyPost_ret (v := .tuple #[.slice A2 n2 n2, .slice A1 (8 + n) c1]) (by simp [results, Tryz.results97, go_sem]) rfl ?_
  exact Ret2.mk ho2.rb (hr1.plus_ _ _) (belowP be _ _)
def icT (s6 : Bool) (sh sl : Nat) (d6 : Bool) (dh dl : Nat) (a b c d : Nat) (l : List UInt8) : Nat := tot false (icP s6 sh sl d6 dh dl (8 + l.length) ++ icmpB a b c d l)
theorem icmpFine (a b c d : Nat) (A : Option Addr) (n k : Nat) (s6 : Bool) (sh sl : Nat) (d6 : Bool) (dh dl : Nat) (l : List UInt8) (w : World) (ha : a < 256) (hb : b < 256) (hc : c < 65536) (hd : d < 4294967296) (k1 : sh < 18446744073709551616) (k2 : sl < 18446744073709551616) (k3 : dh < 18446744073709551616) (k4 : dl < 18446744073709551616) (h : Rb w A n k l) (hn : n ≤ 65527) : Calls Tryz.prog 79 #[.agg (msgC a b c d A n k).toArray, .agg (adC s6 sh sl).toArray, .agg (adC d6 dh dl).toArray] w (RetV w (.bool (65535 - fd (icT s6 sh sl d6 dh dl a b c d l) == 0))) := by
 obtain ⟨dx, u1, u2⟩ := rowMs
 obtain ⟨dy, y1, y2⟩ := rowAd
 have hM : Bk (((w.alloc (.cells (msgC a b c d A n k).toArray 53)).alloc (.cells (adC s6 sh sl).toArray 24)).alloc (.cells (adC d6 dh dl).toArray 24)) w.heap.size 53 (msgC a b c d A n k) := ((Bk.new w 53 (msgC a b c d A n k).toArray).alloc _).alloc _
 have hS : Bk (((w.alloc (.cells (msgC a b c d A n k).toArray 53)).alloc (.cells (adC s6 sh sl).toArray 24)).alloc (.cells (adC d6 dh dl).toArray 24)) (w.heap.size + 1) 24 (adC s6 sh sl) := (Bk.newK _ _ _ (by simp) rfl).alloc _
 have hD : Bk (((w.alloc (.cells (msgC a b c d A n k).toArray 53)).alloc (.cells (adC s6 sh sl).toArray 24)).alloc (.cells (adC d6 dh dl).toArray 24)) (w.heap.size + 1 + 1) 24 (adC d6 dh dl) := Bk.newK _ _ _ (by simp) rfl
 have be : Below w.heap.size w (((w.alloc (.cells (msgC a b c d A n k).toArray 53)).alloc (.cells (adC s6 sh sl).toArray 24)).alloc (.cells (adC d6 dh dl).toArray 24)) := Below.allocS (Below.allocS (Below.allocS (Below.refl _ _) _) _) _
 replace h := ((h.alloc (.cells (msgC a b c d A n k).toArray 53)).alloc (.cells (adC s6 sh sl).toArray 24)).alloc (.cells (adC d6 dh dl).toArray 24)
 have HC := Lib.hid (fun w (h : Rb w A n k l) => icmpCovered a b c d A n k s6 sh sl d6 dh dl l w ha hb hc hd k1 k2 k3 k4 h hn)
 have hT : ([icP s6 sh sl d6 dh dl (8 + n), icmpB a b c d l] : List (List UInt8)).flatten.length ≤ 2000000 := by have := icP_length s6 sh sl d6 dh dl (8 + n); have := h.1; simp [icmpB_length]; omega
 have HE : Hid (tot false ([icP s6 sh sl d6 dh dl (8 + n), icmpB a b c d l] : List (List UInt8)).flatten = icT s6 sh sl d6 dh dl a b c d l) := Lib.hid (by rw [← h.1]; simp [icT])
 have HO := Lib.hid (fun w A1 c1 (h : RdL w A1 2 [icP s6 sh sl d6 dh dl (8 + n), icmpB a b c d l]) => sumRight A1 2 c1 _ w h (by omega) hT)
 rw [HE.out] at HO
 clear hT
 generalize icT s6 sh sl d6 dh dl a b c d l = t at *
 go_enter Tryz.func79, Tryz.ntmps79
 go_upto_region 1 with (fail)
 generalize ((w.alloc (.cells (msgC a b c d A n k).toArray 53)).alloc (.cells (adC s6 sh sl).toArray 24)).alloc (.cells (adC d6 dh dl).toArray 24) = W at *
 go_upto_region 2 with (first
  | (refine at_op (.load 53 (.tmp 3)) rfl ?_; refine wpList_ldA (t := 53) 53 (.tmp 3) rfl rfl (msgC a b c d A n k) rfl (by with_reducible repeat (first | exact hM | refine Bk.later ?_ (below_plus _ _ _) | refine Bk.alloc ?_ _)) (whole_ _) u1 u2 (szMs _ _ _ _ _ _ _) ?_)
  | (refine at_op (.load 24 (.tmp 4)) rfl ?_; refine wpList_ldA (t := 24) 24 (.tmp 4) rfl rfl (adC s6 sh sl) rfl (by with_reducible repeat (first | exact hS | refine Bk.later ?_ (below_plus _ _ _) | refine Bk.alloc ?_ _)) (whole_ _) y1 y2 (szAd _ _ _) ?_)
  | (refine at_op (.load 24 (.tmp 5)) rfl ?_; refine wpList_ldA (t := 24) 24 (.tmp 5) rfl rfl (adC d6 dh dl) rfl (by with_reducible repeat (first | exact hD | refine Bk.later ?_ (below_plus _ _ _) | refine Bk.alloc ?_ _)) (whole_ _) y1 y2 (szAd _ _ _) ?_)
  | (go_at_call 97; refine (HC.out _ h).mono ?_; rintro e w1 ⟨A1, n1, c1, A2, n2, c2, bs1, d1, rfl, rfl, hr1, hr2⟩))
 go_wp2_with fail
 refine (HO.out _ _ _ (RdL.litW [.slice A1 n1 c1, .slice A2 n2 c2] _ (by simp [size_plus]) (.cons ⟨_, _, _, rfl, hr1⟩ (.cons ⟨_, _, _, rfl, hr2⟩ .nil)))).mono ?_
 rintro e w1 ⟨rfl, rfl⟩
 go_wp2
 go_ret
 exact RetV.mk (Below.allocS (belowP be _ _) _)
def RetMs (w : World) (a b s d : Nat) (l : List UInt8) (e : Ending) (w' : World) : Prop := ∃ A n c bs d', e = .returned (.agg (msgC a b s d A n c).toArray) ∧ w' = plus w bs d' ∧ Rb (plus w bs d') A n c l
theorem RetMs.mk {w w' : World} {a b s d : Nat} {l : List UInt8} {A : Option Addr} {n c : Nat} (ho : Rb w' A n c l) (hb : Below w.heap.size w w') : RetMs w a b s d l (.returned (.agg (msgC a b s d A n c).toArray)) w' := by
 obtain ⟨bs, d, rfl⟩ := plus_of hb
 exact ⟨A, n, c, bs, d, rfl, rfl, ho⟩
end

section
open Go.RowKit
attribute [local go_sem ↓] sliced_cut
attribute [local go_sem] cutA_zero
theorem szDg (cs : List Value) (h : cs.length = 4) : (Tryz.prog.info? 51).map (·.size) = some cs.length := by rw [h]; kernel_rfl
set_option maxRecDepth 100000 in
theorem run_buildDg0 (w : World) : (Instr.build 51 #[]).run Tryz.prog w = .ok (.agg #[.int .u16 0, .int .u16 0, .int .u16 0, .slice none 0 0]) w := by kernel_rfl
def RetDg (w : World) (x0 x1 x2 : Nat) (l : List UInt8) (v : Value) (e : Ending) (w' : World) : Prop :=
 ∃ A n c bs d, e = .returned (.tuple #[.agg #[.int .u16 x0, .int .u16 x1, .int .u16 x2, .slice A n c], v]) ∧ w' = plus w bs d ∧ Rb (plus w bs d) A n c l
theorem RetDg.mk {w w' : World} {x0 x1 x2 : Nat} {l : List UInt8} {A : Option Addr} {n c : Nat} {v : Value} (h1 : Rb w' A n c l) (hb : Below w.heap.size w w') :
  RetDg w x0 x1 x2 l v (.returned (.tuple #[.agg #[.int .u16 x0, .int .u16 x1, .int .u16 x2, .slice A n c], v])) w' := by
 obtain ⟨bs, d, rfl⟩ := plus_of hb
 exact ⟨A, n, c, bs, d, rfl, rfl, h1⟩
def RetDgF (w : World) (x0 x1 x2 : Nat) (l : List UInt8) (v : Value) (e : Ending) (w' : World) : Prop :=
 ∃ A n c bs d, e = .returned (.tuple #[.agg #[.int .u16 x0, .int .u16 x1, .int .u16 x2, .slice A n c], v]) ∧ w' = plus w bs d ∧ Rb (plus w bs d) A n c l ∧ ∀ a, A = some a → w.heap.size ≤ a.block
theorem RetDgF.mk {w w' : World} {x0 x1 x2 : Nat} {l : List UInt8} {A : Option Addr} {n c : Nat} {v : Value} (h1 : Rb w' A n c l) (hf : ∀ a, A = some a → w.heap.size ≤ a.block) (hb : Below w.heap.size w w') :
  RetDgF w x0 x1 x2 l v (.returned (.tuple #[.agg #[.int .u16 x0, .int .u16 x1, .int .u16 x2, .slice A n c], v])) w' := by
 obtain ⟨bs, d, rfl⟩ := plus_of hb
 exact ⟨A, n, c, bs, d, rfl, rfl, h1, hf⟩
theorem RetDg.zero {w w' : World} {v : Value} (hb : Below w.heap.size w w') : RetDg w 0 0 0 [] v (.returned (.tuple #[.agg #[.int .u16 0, .int .u16 0, .int .u16 0, .slice none 0 0], v])) w' := RetDg.mk Rb.nil_ hb
theorem udpParse_short (A : Option Addr) (n c : Nat) (l : List UInt8) (w : World) (hr : Rb w A n c l) (hn : n < 8) : Calls Tryz.prog 76 #[.slice A n c] w (RetDg w 0 0 0 [] (.int .i64 20)) := by
 have hZ : Bk (w.alloc (.cells #[.int .u16 0, .int .u16 0, .int .u16 0, .slice none 0 0] 51)) w.heap.size 51 [.int .u16 0, .int .u16 0, .int .u16 0, .slice none 0 0] := Bk.new w 51 #[.int .u16 0, .int .u16 0, .int .u16 0, .slice none 0 0]
 go_enter Tryz.func76, Tryz.ntmps76
 go_wp2_with (first
  | (refine at_op (.build 51 #[]) rfl ?_; refine wpList_build 51 [] rfl rfl (.agg #[.int .u16 0, .int .u16 0, .int .u16 0, .slice none 0 0]) ?_ ?_; exact run_buildDg0 _)
  | (refine at_op (.store 51 (.tmp 2) (.tmp 10)) rfl ?_; refine wpList_stA (t := 51) 51 (.tmp 2) (.tmp 10) rfl rfl [.int .u16 0, .int .u16 0, .int .u16 0, .slice none 0 0] [.int .u16 0, .int .u16 0, .int .u16 0, .slice none 0 0] rfl (by simp [Value.oneCell']) rfl rfl hZ (szDg _ rfl) ?_; intro w2 hb2 hg2))
 refine bodyPost_agg2 Tryz.results76 rfl rfl hb2.range Tryz.underlying51 rfl (szDg _ rfl) rfl (RetDg.zero ?_)
 exact below_grown ((Below.refl _ _).alloc (Nat.le_refl _) _) hg2 (Nat.le_refl _)
theorem refUdpParse_short (A : Option Addr) (n c : Nat) (l : List UInt8) (w : World) (hr : Rb w A n c l) (hn : n < 8) : NoC #[.slice A n c] w (RetDg w 0 0 0 [] (.int .i64 20)) := trivial
set_option maxHeartbeats 4000000
set_option maxRecDepth 100000
theorem udpParse_form (A : Option Addr) (n c : Nat) (l : List UInt8) (w : World) (hr : Rb w A n c l) (h8 : 8 ≤ n) (hn : n ≤ 2000000) (x0 : Nat) (x1 : Nat) (xs : Nat) (x2 : Nat) (hx0 : num ((l.drop 0).take 2) = x0) (hx1 : num ((l.drop 2).take 2) = x1) (hxs : num ((l.drop 4).take 2) = xs) (hx2 : num ((l.drop 6).take 2) = x2) (hs : xs < 8) :
  Calls Tryz.prog 76 #[.slice A n c] w (RetDg w 0 0 0 [] (.int .i64 21)) := by
 have hc := hr.cap
 have h8i : (8 : Int) ≤ (n : Int) := by omega
 have kxs : xs < 65536 := by rw [← hxs]; exact num_lt' l 4 2 65536 (by decide)
 have Hx0 := Lib.hid hx0
 have Hx1 := Lib.hid hx1
 have Hxs := Lib.hid hxs
 have Hx2 := Lib.hid hx2
 clear hx0 hx1 hxs hx2
 have t1 : decide ((xs : Int) < 8) = true := by simp; omega
 go_enter Tryz.func76, Tryz.ntmps76
 go_wp2_with fail
 refine (readK _ _ _ (l.take 8) _ ((hr.take h8).alloc _) (by omega)).mono ?_
 rintro e w1 ⟨r, bs1, d1, rfl, rfl, hr1, hR0⟩
 have HL := Lib.hid (show (l.take 8).length = 8 by rw [List.length_take, hr.1]; omega)
 go_wp2_with fail
 refine (wordK _ _ _ r (l.take 8) 0 x0 hR0 hr1 (by rw [HL.out]; omega) (by rw [HL.out]; omega) (by rw [num_in _ _ _ _ (by omega)]; exact Hx0.out)).mono ?_
 rintro e w1 ⟨bs2, d2, rfl, rfl, hR1, -⟩
 go_wp2_with fail
 refine (wordK _ _ _ r (l.take 8) 2 x1 hR1 hr1 (by rw [HL.out]; omega) (by rw [HL.out]; omega) (by rw [num_in _ _ _ _ (by omega)]; exact Hx1.out)).mono ?_
 rintro e w1 ⟨bs3, d3, rfl, rfl, hR2, -⟩
 have hB0 : Below w.heap.size w (plus (w.alloc (.cells #[.int .u16 0, .int .u16 0, .int .u16 0, .slice none 0 0] 51)) bs3 d3) := belowP ((Below.refl _ _).alloc (Nat.le_refl _) _) _ _
 have hX6 : Bk ((plus (w.alloc (.cells #[.int .u16 0, .int .u16 0, .int .u16 0, .slice none 0 0] 51)) bs3 d3).alloc (.cells #[.int .u16 (x0 : Nat), .int .u16 (x1 : Nat), .int .u16 0, .slice none 0 0] 51)) (w.heap.size + 1 + bs3.length) 51 [.int .u16 (x0 : Nat), .int .u16 (x1 : Nat), .int .u16 0, .slice none 0 0] := by
  have := Bk.new (plus (w.alloc (.cells #[.int .u16 0, .int .u16 0, .int .u16 0, .slice none 0 0] 51)) bs3 d3) 51 #[.int .u16 (x0 : Nat), .int .u16 (x1 : Nat), .int .u16 0, .slice none 0 0]
  rw [size_plus, World.size_alloc] at this
  exact this
 have hZ6 : Bk ((plus (w.alloc (.cells #[.int .u16 0, .int .u16 0, .int .u16 0, .slice none 0 0] 51)) bs3 d3).alloc (.cells #[.int .u16 (x0 : Nat), .int .u16 (x1 : Nat), .int .u16 0, .slice none 0 0] 51)) w.heap.size 51 [.int .u16 0, .int .u16 0, .int .u16 0, .slice none 0 0] := ((Bk.new w 51 #[.int .u16 0, .int .u16 0, .int .u16 0, .slice none 0 0]).later (below_plus _ _ _)).alloc _
 have hlt : r < w.heap.size + 1 + bs3.length := by have := hR2.lt; simpa [size_plus] using this
 have hR6 := hR2.later ((Below.refl _ _).alloc (Nat.le_refl _) (.cells #[.int .u16 (x0 : Nat), .int .u16 (x1 : Nat), .int .u16 0, .slice none 0 0] 51))
 have hB6 := hB0.alloc hB0.size (.cells #[.int .u16 (x0 : Nat), .int .u16 (x1 : Nat), .int .u16 0, .slice none 0 0] 51)
 have hr2 : w.heap.size < r := by have := hr1; simp at this; omega
 go_wp2_with fail
 generalize (plus (w.alloc (.cells #[.int .u16 0, .int .u16 0, .int .u16 0, .slice none 0 0] 51)) bs3 d3).alloc _ = W1 at hX6 hZ6 hR6 hB6 ⊢
 generalize w.heap.size + 1 + bs3.length = g at *
 refine (wordG _ r (l.take 8) 4 xs hR6 (by rw [HL.out]; omega) (by rw [HL.out]; omega) (by rw [num_in _ _ _ _ (by omega)]; exact Hxs.out)).mono ?_
 clear hR6
 rintro e w1 ⟨rfl, hR6, hg6⟩
 replace hX6 := hX6.grown hg6 (by simp; omega)
 replace hZ6 := hZ6.grown hg6 (by simp; omega)
 replace hB6 := hB6.trans (below_of_grown hg6 hB6.size (fun k hk => by injection hk with hk; omega))
 clear hg6 hR0 hR1 hR2 hB0
 go_wp2_with (first
  | (refine at_op (.build 51 #[]) rfl ?_; refine wpList_build 51 [] rfl rfl (.agg #[.int .u16 0, .int .u16 0, .int .u16 0, .slice none 0 0]) ?_ ?_; exact run_buildDg0 _)
  | (refine at_op (.store 51 (.tmp 2) (.tmp 24)) rfl ?_; refine wpList_stA (t := 51) 51 (.tmp 2) (.tmp 24) rfl rfl [.int .u16 0, .int .u16 0, .int .u16 0, .slice none 0 0] [.int .u16 0, .int .u16 0, .int .u16 0, .slice none 0 0] rfl (by simp [Value.oneCell']) rfl rfl hZ6 (szDg _ rfl) ?_; intro w2 hb2 hg2))
 refine bodyPost_agg2 Tryz.results76 rfl rfl hb2.range Tryz.underlying51 rfl (szDg _ rfl) rfl (RetDg.zero ?_)
 exact below_grown hB6 hg2 (Nat.le_refl _)
theorem udpParse_short2 (A : Option Addr) (n c : Nat) (l : List UInt8) (w : World) (hr : Rb w A n c l) (h8 : 8 ≤ n) (hn : n ≤ 2000000) (x0 : Nat) (x1 : Nat) (xs : Nat) (x2 : Nat) (hx0 : num ((l.drop 0).take 2) = x0) (hx1 : num ((l.drop 2).take 2) = x1) (hxs : num ((l.drop 4).take 2) = xs) (hx2 : num ((l.drop 6).take 2) = x2) (hs : 8 ≤ xs) (hz : n < xs) :
  Calls Tryz.prog 76 #[.slice A n c] w (RetDg w 0 0 0 [] (.int .i64 20)) := by
 have hc := hr.cap
 have h8i : (8 : Int) ≤ (n : Int) := by omega
 have kxs : xs < 65536 := by rw [← hxs]; exact num_lt' l 4 2 65536 (by decide)
 have Hx0 := Lib.hid hx0
 have Hx1 := Lib.hid hx1
 have Hxs := Lib.hid hxs
 have Hx2 := Lib.hid hx2
 clear hx0 hx1 hxs hx2
 have t1 : decide ((xs : Int) < 8) = false := by simp; omega
 have t2 : decide (n < xs) = true := by simp; omega
 go_enter Tryz.func76, Tryz.ntmps76
 go_wp2_with fail
 refine (readK _ _ _ (l.take 8) _ ((hr.take h8).alloc _) (by omega)).mono ?_
 rintro e w1 ⟨r, bs1, d1, rfl, rfl, hr1, hR0⟩
 have HL := Lib.hid (show (l.take 8).length = 8 by rw [List.length_take, hr.1]; omega)
 go_wp2_with fail
 refine (wordK _ _ _ r (l.take 8) 0 x0 hR0 hr1 (by rw [HL.out]; omega) (by rw [HL.out]; omega) (by rw [num_in _ _ _ _ (by omega)]; exact Hx0.out)).mono ?_
 rintro e w1 ⟨bs2, d2, rfl, rfl, hR1, -⟩
 go_wp2_with fail
 refine (wordK _ _ _ r (l.take 8) 2 x1 hR1 hr1 (by rw [HL.out]; omega) (by rw [HL.out]; omega) (by rw [num_in _ _ _ _ (by omega)]; exact Hx1.out)).mono ?_
 rintro e w1 ⟨bs3, d3, rfl, rfl, hR2, -⟩
 have hB0 : Below w.heap.size w (plus (w.alloc (.cells #[.int .u16 0, .int .u16 0, .int .u16 0, .slice none 0 0] 51)) bs3 d3) := belowP ((Below.refl _ _).alloc (Nat.le_refl _) _) _ _
 have hX6 : Bk ((plus (w.alloc (.cells #[.int .u16 0, .int .u16 0, .int .u16 0, .slice none 0 0] 51)) bs3 d3).alloc (.cells #[.int .u16 (x0 : Nat), .int .u16 (x1 : Nat), .int .u16 0, .slice none 0 0] 51)) (w.heap.size + 1 + bs3.length) 51 [.int .u16 (x0 : Nat), .int .u16 (x1 : Nat), .int .u16 0, .slice none 0 0] := by
  have := Bk.new (plus (w.alloc (.cells #[.int .u16 0, .int .u16 0, .int .u16 0, .slice none 0 0] 51)) bs3 d3) 51 #[.int .u16 (x0 : Nat), .int .u16 (x1 : Nat), .int .u16 0, .slice none 0 0]
  rw [size_plus, World.size_alloc] at this
  exact this
 have hZ6 : Bk ((plus (w.alloc (.cells #[.int .u16 0, .int .u16 0, .int .u16 0, .slice none 0 0] 51)) bs3 d3).alloc (.cells #[.int .u16 (x0 : Nat), .int .u16 (x1 : Nat), .int .u16 0, .slice none 0 0] 51)) w.heap.size 51 [.int .u16 0, .int .u16 0, .int .u16 0, .slice none 0 0] := ((Bk.new w 51 #[.int .u16 0, .int .u16 0, .int .u16 0, .slice none 0 0]).later (below_plus _ _ _)).alloc _
 have hlt : r < w.heap.size + 1 + bs3.length := by have := hR2.lt; simpa [size_plus] using this
 have hR6 := hR2.later ((Below.refl _ _).alloc (Nat.le_refl _) (.cells #[.int .u16 (x0 : Nat), .int .u16 (x1 : Nat), .int .u16 0, .slice none 0 0] 51))
 have hB6 := hB0.alloc hB0.size (.cells #[.int .u16 (x0 : Nat), .int .u16 (x1 : Nat), .int .u16 0, .slice none 0 0] 51)
 have hr2 : w.heap.size < r := by have := hr1; simp at this; omega
 go_wp2_with fail
 generalize (plus (w.alloc (.cells #[.int .u16 0, .int .u16 0, .int .u16 0, .slice none 0 0] 51)) bs3 d3).alloc _ = W1 at hX6 hZ6 hR6 hB6 ⊢
 generalize w.heap.size + 1 + bs3.length = g at *
 refine (wordG _ r (l.take 8) 4 xs hR6 (by rw [HL.out]; omega) (by rw [HL.out]; omega) (by rw [num_in _ _ _ _ (by omega)]; exact Hxs.out)).mono ?_
 clear hR6
 rintro e w1 ⟨rfl, hR6, hg6⟩
 replace hX6 := hX6.grown hg6 (by simp; omega)
 replace hZ6 := hZ6.grown hg6 (by simp; omega)
 replace hB6 := hB6.trans (below_of_grown hg6 hB6.size (fun k hk => by injection hk with hk; omega))
 clear hg6 hR0 hR1 hR2 hB0
 go_wp2_with (first
  | (refine at_op (.build 51 #[]) rfl ?_; refine wpList_build 51 [] rfl rfl (.agg #[.int .u16 0, .int .u16 0, .int .u16 0, .slice none 0 0]) ?_ ?_; exact run_buildDg0 _)
  | (refine at_op (.store 51 (.tmp 2) (.tmp 29)) rfl ?_; refine wpList_stA (t := 51) 51 (.tmp 2) (.tmp 29) rfl rfl [.int .u16 0, .int .u16 0, .int .u16 0, .slice none 0 0] [.int .u16 0, .int .u16 0, .int .u16 0, .slice none 0 0] rfl (by simp [Value.oneCell']) rfl rfl hZ6 (szDg _ rfl) ?_; intro w2 hb2 hg2))
 refine bodyPost_agg2 Tryz.results76 rfl rfl hb2.range Tryz.underlying51 rfl (szDg _ rfl) rfl (RetDg.zero ?_)
 exact below_grown hB6 hg2 (Nat.le_refl _)
theorem udpParse_okF (A : Option Addr) (n c : Nat) (l : List UInt8) (w : World) (hr : Rb w A n c l) (h8 : 8 ≤ n) (hn : n ≤ 2000000) (x0 : Nat) (x1 : Nat) (xs : Nat) (x2 : Nat) (hx0 : num ((l.drop 0).take 2) = x0) (hx1 : num ((l.drop 2).take 2) = x1) (hxs : num ((l.drop 4).take 2) = xs) (hx2 : num ((l.drop 6).take 2) = x2) (hs : 8 ≤ xs) (hz : xs ≤ n) :
  Calls Tryz.prog 76 #[.slice A n c] w (RetDgF w x0 x1 x2 ((l.drop 8).take (xs - 8)) (.int .i64 0)) := by
 have hc := hr.cap
 have h8i : (8 : Int) ≤ (n : Int) := by omega
 have kxs : xs < 65536 := by rw [← hxs]; exact num_lt' l 4 2 65536 (by decide)
 have Hx0 := Lib.hid hx0
 have Hx1 := Lib.hid hx1
 have Hxs := Lib.hid hxs
 have Hx2 := Lib.hid hx2
 clear hx0 hx1 hxs hx2
 have t1 : decide ((xs : Int) < 8) = false := by simp; omega
 have t2 : decide (n < xs) = false := by simp; omega
 go_enter Tryz.func76, Tryz.ntmps76
 go_wp2_with fail
 refine (readK _ _ _ (l.take 8) _ ((hr.take h8).alloc _) (by omega)).mono ?_
 rintro e w1 ⟨r, bs1, d1, rfl, rfl, hr1, hR0⟩
 have HL := Lib.hid (show (l.take 8).length = 8 by rw [List.length_take, hr.1]; omega)
 go_wp2_with fail
 refine (wordK _ _ _ r (l.take 8) 0 x0 hR0 hr1 (by rw [HL.out]; omega) (by rw [HL.out]; omega) (by rw [num_in _ _ _ _ (by omega)]; exact Hx0.out)).mono ?_
 rintro e w1 ⟨bs2, d2, rfl, rfl, hR1, -⟩
 go_wp2_with fail
 refine (wordK _ _ _ r (l.take 8) 2 x1 hR1 hr1 (by rw [HL.out]; omega) (by rw [HL.out]; omega) (by rw [num_in _ _ _ _ (by omega)]; exact Hx1.out)).mono ?_
 rintro e w1 ⟨bs3, d3, rfl, rfl, hR2, -⟩
 have hB0 : Below w.heap.size w (plus (w.alloc (.cells #[.int .u16 0, .int .u16 0, .int .u16 0, .slice none 0 0] 51)) bs3 d3) := belowP ((Below.refl _ _).alloc (Nat.le_refl _) _) _ _
 have hX6 : Bk ((plus (w.alloc (.cells #[.int .u16 0, .int .u16 0, .int .u16 0, .slice none 0 0] 51)) bs3 d3).alloc (.cells #[.int .u16 (x0 : Nat), .int .u16 (x1 : Nat), .int .u16 0, .slice none 0 0] 51)) (w.heap.size + 1 + bs3.length) 51 [.int .u16 (x0 : Nat), .int .u16 (x1 : Nat), .int .u16 0, .slice none 0 0] := by
  have := Bk.new (plus (w.alloc (.cells #[.int .u16 0, .int .u16 0, .int .u16 0, .slice none 0 0] 51)) bs3 d3) 51 #[.int .u16 (x0 : Nat), .int .u16 (x1 : Nat), .int .u16 0, .slice none 0 0]
  rw [size_plus, World.size_alloc] at this
  exact this
 have hZ6 : Bk ((plus (w.alloc (.cells #[.int .u16 0, .int .u16 0, .int .u16 0, .slice none 0 0] 51)) bs3 d3).alloc (.cells #[.int .u16 (x0 : Nat), .int .u16 (x1 : Nat), .int .u16 0, .slice none 0 0] 51)) w.heap.size 51 [.int .u16 0, .int .u16 0, .int .u16 0, .slice none 0 0] := ((Bk.new w 51 #[.int .u16 0, .int .u16 0, .int .u16 0, .slice none 0 0]).later (below_plus _ _ _)).alloc _
 have hlt : r < w.heap.size + 1 + bs3.length := by have := hR2.lt; simpa [size_plus] using this
 have hR6 := hR2.later ((Below.refl _ _).alloc (Nat.le_refl _) (.cells #[.int .u16 (x0 : Nat), .int .u16 (x1 : Nat), .int .u16 0, .slice none 0 0] 51))
 have hB6 := hB0.alloc hB0.size (.cells #[.int .u16 (x0 : Nat), .int .u16 (x1 : Nat), .int .u16 0, .slice none 0 0] 51)
 have hr2 : w.heap.size < r := by have := hr1; simp at this; omega
 go_wp2_with fail
 generalize (plus (w.alloc (.cells #[.int .u16 0, .int .u16 0, .int .u16 0, .slice none 0 0] 51)) bs3 d3).alloc _ = W1 at hX6 hZ6 hR6 hB6 ⊢
 generalize w.heap.size + 1 + bs3.length = g at *
 refine (wordG _ r (l.take 8) 4 xs hR6 (by rw [HL.out]; omega) (by rw [HL.out]; omega) (by rw [num_in _ _ _ _ (by omega)]; exact Hxs.out)).mono ?_
 clear hR6
 rintro e w1 ⟨rfl, hR6, hg6⟩
 replace hX6 := hX6.grown hg6 (by simp; omega)
 replace hZ6 := hZ6.grown hg6 (by simp; omega)
 replace hB6 := hB6.trans (below_of_grown hg6 hB6.size (fun k hk => by injection hk with hk; omega))
 clear hg6 hR0 hR1 hR2 hB0
 go_wp2_with fail
 refine (wordG _ r (l.take 8) 6 x2 hR6 (by rw [HL.out]; omega) (by rw [HL.out]; omega) (by rw [num_in _ _ _ _ (by omega)]; exact Hx2.out)).mono ?_
 clear hR6
 rintro e v0 ⟨rfl, hR6, hg6⟩
 replace hX6 := hX6.grown hg6 (by simp; omega)
 replace hZ6 := hZ6.grown hg6 (by simp; omega)
 replace hB6 := hB6.trans (below_of_grown hg6 hB6.size (fun k hk => by injection hk with hk; omega))
 clear hg6
 have q : v0.cell? ⟨g, 2, none⟩ = some (.int .u16 0) := hX6.cell 2
 have f := hX6.frozen 2
 go_wp2_with fail
 clear q f
 replace hX6 := hX6.set_ 2 (.int .u16 (x2 : Nat))
 simp only [List.set_cons_zero, List.set_cons_succ] at hX6
 replace hZ6 := hZ6.far (p := ⟨g, 2, none⟩) (by simp; omega) (.int .u16 (x2 : Nat))
 replace hB6 := hB6.setCell (p := ⟨g, 2, none⟩) (by simp; omega) (.int .u16 (x2 : Nat))
 clear hR6
 generalize v0.setCell ⟨g, 2, none⟩ (.int .u16 (x2 : Nat)) = W3 at hX6 hZ6 hB6 ⊢
 refine (clone_any _ _ _ ((l.drop 8).take (xs - 8)) _ (((hr.cut (k := 8) (by omega)).take (k := xs - 8) (by omega)).later hB6) (by omega)).mono ?_
 rintro e wc ⟨A1, n1, c1, bsA, dA, rfl, rfl, ho0⟩
 have q : W3.cell? ⟨g, 3, none⟩ = some (.slice none 0 0) := hX6.cell 3
 have f := hX6.frozen 3
 have hgl := hX6.lt
 go_upto_region 12 with fail
 clear q f
 replace ho0 := (ho0.swap (W' := W3.setCell ⟨g, 3, none⟩ (.slice A1 n1 c1)) (d' := dA) (Nat.le_refl _) (by simp)).mono (show w.heap.size + 1 ≤ W3.heap.size by omega)
 replace hX6 := (hX6.set_ 3 (.slice A1 n1 c1)).later (below_plus _ bsA dA)
 simp only [List.set_cons_zero, List.set_cons_succ] at hX6
 replace hZ6 := (hZ6.far (p := ⟨g, 3, none⟩) (by simp; omega) (.slice A1 n1 c1)).later (below_plus _ bsA dA)
 replace hB6 := belowP (hB6.setCell (p := ⟨g, 3, none⟩) (by simp; omega) (.slice A1 n1 c1)) bsA dA
 generalize plus (W3.setCell ⟨g, 3, none⟩ (.slice A1 n1 c1)) bsA dA = W5 at hX6 hZ6 hB6 ho0 ⊢
 go_wp2_with (first
  | (refine at_op (.load 51 (.tmp 5)) rfl ?_; refine wpList_ldA (t := 51) 51 (.tmp 5) rfl rfl [.int .u16 (x0 : Nat), .int .u16 (x1 : Nat), .int .u16 (x2 : Nat), .slice A1 n1 c1] rfl hX6 rfl Tryz.underlying51 rfl (szDg _ rfl) ?_)
  | (refine at_op (.store 51 (.tmp 2) (.tmp 38)) rfl ?_; refine wpList_stA (t := 51) 51 (.tmp 2) (.tmp 38) rfl rfl [.int .u16 (x0 : Nat), .int .u16 (x1 : Nat), .int .u16 (x2 : Nat), .slice A1 n1 c1] [.int .u16 0, .int .u16 0, .int .u16 0, .slice none 0 0] rfl (by simp [Value.oneCell']) rfl rfl hZ6 (szDg _ rfl) ?_; intro w2 hb2 hg2))
 refine bodyPost_agg2 Tryz.results76 rfl rfl hb2.range Tryz.underlying51 rfl (szDg _ rfl) rfl (RetDgF.mk ?_ ?_ (below_grown hB6 hg2 (Nat.le_refl _)))
 ·exact (ho0.grown hg2 (fun k hk => by have := (ho0.blk k hk).1; simp; omega)).rb
 ·intro a ha
  subst ha
  have := (ho0.blk a.block rfl).1
  omega
theorem refUdpParse_form (A : Option Addr) (n c : Nat) (l : List UInt8) (w : World) (hr : Rb w A n c l) (h8 : 8 ≤ n) (hn : n ≤ 2000000) (x0 : Nat) (x1 : Nat) (xs : Nat) (x2 : Nat) (hx0 : num ((l.drop 0).take 2) = x0) (hx1 : num ((l.drop 2).take 2) = x1) (hxs : num ((l.drop 4).take 2) = xs) (hx2 : num ((l.drop 6).take 2) = x2) (hs : xs < 8) :
  NoC #[.slice A n c] w (RetDg w 0 0 0 [] (.int .i64 21)) := trivial
theorem refUdpParse_short2 (A : Option Addr) (n c : Nat) (l : List UInt8) (w : World) (hr : Rb w A n c l) (h8 : 8 ≤ n) (hn : n ≤ 2000000) (x0 : Nat) (x1 : Nat) (xs : Nat) (x2 : Nat) (hx0 : num ((l.drop 0).take 2) = x0) (hx1 : num ((l.drop 2).take 2) = x1) (hxs : num ((l.drop 4).take 2) = xs) (hx2 : num ((l.drop 6).take 2) = x2) (hs : 8 ≤ xs) (hz : n < xs) :
  NoC #[.slice A n c] w (RetDg w 0 0 0 [] (.int .i64 20)) := trivial
theorem refUdpParse_okF (A : Option Addr) (n c : Nat) (l : List UInt8) (w : World) (hr : Rb w A n c l) (h8 : 8 ≤ n) (hn : n ≤ 2000000) (x0 : Nat) (x1 : Nat) (xs : Nat) (x2 : Nat) (hx0 : num ((l.drop 0).take 2) = x0) (hx1 : num ((l.drop 2).take 2) = x1) (hxs : num ((l.drop 4).take 2) = xs) (hx2 : num ((l.drop 6).take 2) = x2) (hs : 8 ≤ xs) (hz : xs ≤ n) :
  NoC #[.slice A n c] w (RetDgF w x0 x1 x2 ((l.drop 8).take (xs - 8)) (.int .i64 0)) := trivial
end

section
open Go.RowKit
attribute [local go_sem ↓] sliced_cut
attribute [local go_sem] cutA_zero
theorem RetV.eq_ {w w' : World} {v v' : Value} (hv : v' = v) (hb : Below w.heap.size w w') : RetV w v (.returned v') w' := by
 subst hv
 exact RetV.mk hb
theorem udpRight_yes (a b s : Int) (A : Option Addr) (n k : Nat) (w : World) (hn : n ≤ 65527) : Calls Tryz.prog 95 #[.agg #[.int .u16 a, .int .u16 b, .int .u16 s, .slice A n k]] w (RetV w (.bool true)) := by
 go_enter Tryz.func95, Tryz.ntmps95
 go_wp2
 go_ret
 exact RetV.eq_ (by simp; omega) ((Below.refl _ _).alloc (Nat.le_refl _) _)
set_option maxHeartbeats 2000000 in
theorem udpBytes_any (a b s : Int) (A : Option Addr) (n k : Nat) (l : List UInt8) (w : World) (ha : 0 ≤ a ∧ a ≤ 65535) (hb : 0 ≤ b ∧ b ≤ 65535) (hs : 0 ≤ s ∧ s ≤ 65535) (h : Rb w A n k l) (hn : n ≤ 65527) :
  Calls Tryz.prog 96 #[.agg #[.int .u16 a, .int .u16 b, .int .u16 s, .slice A n k]] w (RetB w (dig a.toNat 2 ++ dig b.toNat 2 ++ dig (8 + n) 2 ++ dig s.toNat 2 ++ l)) := by
 obtain ⟨a0, a1⟩ := ha
 obtain ⟨b0, b1⟩ := hb
 obtain ⟨s0, s1⟩ := hs
 go_enter Tryz.func96, Tryz.ntmps96
 go_wp2_with fail
 refine (udpRight_yes _ _ _ _ _ _ _ hn).mono ?_
 rintro e w1 ⟨bs0, m0, rfl, rfl⟩
 go_wp2_with fail
 refine (put_int _ _ _ [] a 2 _ Rb.nil_ (by omega) a0 (by omega) (by omega) (by omega)).mono ?_
 rintro e w1 ⟨A1, n1, k1, bs1, m1, rfl, rfl, ho1⟩
 have l1 : n1 ≤ 100 := by have := ho1.len; simp [dig_length] at this; omega
 go_wp2_with fail
 refine (put_int _ _ _ _ b 2 _ ho1.rb (by omega) b0 (by omega) (by omega) (by omega)).mono ?_
 rintro e w2 ⟨A2, n2, k2, bs2, m2, rfl, rfl, ho2⟩
 have l2 : n2 ≤ 100 := by have := ho2.len; simp [dig_length] at this; omega
 go_wp2_with fail
 refine (put_int _ _ _ _ (8 + (n : Int)) 2 _ ho2.rb (by omega) (by omega) (by omega) (by omega) (by omega)).mono ?_
 rintro e w3 ⟨A3, n3, k3, bs3, m3, rfl, rfl, ho3⟩
 have l3 : n3 ≤ 100 := by have := ho3.len; simp [dig_length] at this; omega
 go_wp2_with fail
 refine (put_int _ _ _ _ s 2 _ ho3.rb (by omega) s0 (by omega) (by omega) (by omega)).mono ?_
 rintro e w4 ⟨A4, n4, k4, bs4, m4, rfl, rfl, ho4⟩
 have l4 : n4 ≤ 100 := by have := ho4.len; simp [dig_length] at this; omega
 go_wp2_with (at_builtin; refine wpList_appP _ bt rfl (.tmp 28) (.tmp 30) rfl (by exact below_plus _ bs4 m4) rfl ho4 rfl (by exact (((((h.alloc _).plus_ _ _).plus_ _ _).plus_ _ _).plus_ _ _).plus_ _ _) (by omega) ?_; intro A5 n5 k5 bs5 m5 ho5 _)
 go_ret
 refine RetB.mk ?_ (belowP (belowP (belowP (belowP (belowP ((Below.refl _ _).alloc (Nat.le_refl _) _) _ _) _ _) _ _) _ _) _ _)
 have e8 : (8 + (n : Int)).toNat = 8 + n := by omega
 rw [e8] at ho5
 simpa using ho5.mono (base' := w.heap.size) (by simp [size_plus]; omega)
end

section
open Go.RowKit
attribute [local go_sem ↓] sliced_cut
attribute [local go_sem] cutA_zero
def tcT (s6 : Bool) (sh sl : Nat) (d6 : Bool) (dh dl : Nat) (l : List UInt8) : Nat := tot false (psdB s6 sh sl d6 dh dl 6 l.length ++ l)
set_option maxHeartbeats 4000000 in
set_option maxRecDepth 100000 in
theorem tcpFine (A : Option Addr) (n c : Nat) (s6 : Bool) (sh sl : Nat) (d6 : Bool) (dh dl : Nat) (l : List UInt8) (w : World) (k1 : sh < 18446744073709551616) (k2 : sl < 18446744073709551616) (k3 : dh < 18446744073709551616) (k4 : dl < 18446744073709551616) (h : Rb w A n c l) (hn : n ≤ 65535) : Calls Tryz.prog 75 #[.slice A n c, .agg (adC s6 sh sl).toArray, .agg (adC d6 dh dl).toArray] w (RetV w (.bool (65535 - fd (tcT s6 sh sl d6 dh dl l) == 0))) := by
 have d1 : decide ((n : Int) ≤ 65535) = true := by simp only [decide_eq_true_eq]; omega
 have hT : ([psdB s6 sh sl d6 dh dl 6 n, l] : List (List UInt8)).flatten.length ≤ 2000000 := by have := psdB_length s6 sh sl d6 dh dl 6 n; have := h.1; simp; omega
 have HE : Hid (tot false ([psdB s6 sh sl d6 dh dl 6 n, l] : List (List UInt8)).flatten = tcT s6 sh sl d6 dh dl l) := Lib.hid (by rw [← h.1]; simp [tcT])
 have HO := Lib.hid (fun w A1 c1 (h : RdL w A1 2 [psdB s6 sh sl d6 dh dl 6 n, l]) => sumRight A1 2 c1 _ w h (by omega) hT)
 rw [HE.out] at HO
 have HP := Lib.hid (fun w => (pseudo_any s6 sh sl d6 dh dl 6 n w k1 k2 k3 k4 (by omega) (by omega) : Calls Tryz.prog 49 #[.agg (adC s6 sh sl).toArray, .agg (adC d6 dh dl).toArray, .int .u8 6, .int .i64 (n : Int)] w (RetF w (psdB s6 sh sl d6 dh dl 6 n))))
 obtain ⟨dy, y1, y2⟩ := rowAd
 have hS : Bk ((w.alloc (.cells (adC s6 sh sl).toArray 24)).alloc (.cells (adC d6 dh dl).toArray 24)) w.heap.size 24 (adC s6 sh sl) := (Bk.new w 24 (adC s6 sh sl).toArray).alloc _
 have hD : Bk ((w.alloc (.cells (adC s6 sh sl).toArray 24)).alloc (.cells (adC d6 dh dl).toArray 24)) (w.heap.size + 1) 24 (adC d6 dh dl) := Bk.newK _ _ _ (by simp) rfl
 have be : Below w.heap.size w ((w.alloc (.cells (adC s6 sh sl).toArray 24)).alloc (.cells (adC d6 dh dl).toArray 24)) := Below.allocS (Below.allocS (Below.refl _ _) _) _
 replace h := (h.alloc (.cells (adC s6 sh sl).toArray 24)).alloc (.cells (adC d6 dh dl).toArray 24)
 clear hT HE
 generalize psdB s6 sh sl d6 dh dl 6 n = Pq at *
 generalize tcT s6 sh sl d6 dh dl l = t at *
 go_enter Tryz.func75, Tryz.ntmps75
 go_upto_region 1 with (fail)
 generalize (w.alloc (.cells (adC s6 sh sl).toArray 24)).alloc (.cells (adC d6 dh dl).toArray 24) = W at *
 refine wp_region_lit ?_
 iterate 4 (refine wpList_plain rfl (fun K hK => ?_); go_simp; with_reducible refine hK _ _ ?_; clear hK K)
 refine wpList_ldG (t := 24) 24 (.tmp 4) rfl (by go_simp) (adC s6 sh sl) rfl (hS) (whole_ _) y1 y2 (szAd _ _ _) ?_
 simp only [Act.put, qsT, qsZ, qsS]
 refine wpList_ldG (t := 24) 24 (.tmp 5) rfl (by go_simp) (adC d6 dh dl) rfl (hD) (whole_ _) y1 y2 (szAd _ _ _) ?_
 iterate 2 (refine wpList_step (fun K hK => ?_); go_simp; with_reducible refine hK _ _ ?_; clear hK K)
 refine wpList_step (fun K hK => ?_)
 go_simp
 refine (HP.out _).mono ?_
 rintro e w1 ⟨A2, n2, bs2, d2, rfl, rfl, ho2⟩
 with_reducible refine hK _ _ ?_
 clear hK K
 iterate 2 (refine wpList_step (fun K hK => ?_); go_simp; with_reducible refine hK _ _ ?_; clear hK K)
 go_wp2_with fail
 refine (HO.out _ _ _ (RdL.litW [.slice A2 n2 n2, .slice A n c] _ (by simp [size_plus]) (.cons ⟨_, _, _, rfl, ho2.rb⟩ (.cons ⟨_, _, _, rfl, h.plus_ _ _⟩ .nil)))).mono ?_
 rintro e w1 ⟨rfl, rfl⟩
 go_wp2
 go_ret
 exact RetV.mk (Below.allocS (belowP be _ _) _)
def dgX (a b s : Nat) (A : Option Addr) (n k : Nat) : List Value := [.int .u16 (a : Int), .int .u16 (b : Int), .int .u16 (s : Int), .slice A n k]
theorem dgX_one (a b s : Nat) (A : Option Addr) (n k : Nat) : ∀ u ∈ dgX a b s A n k, u.oneCell' = true := by
 intro u hu
 simp only [dgX, List.mem_cons, List.not_mem_nil, or_false] at hu
 rcases hu with rfl | rfl | rfl | rfl <;> rfl
theorem szDX (a b s : Nat) (A : Option Addr) (n k : Nat) : (Tryz.prog.info? 51).map (·.size) = some (dgX a b s A n k).length := by kernel_rfl
theorem rowDX : ∃ d, Tryz.prog.underlying 51 = some d ∧ d.isRow = true := ⟨_, Tryz.underlying51, rfl⟩
def udpD (a b s : Nat) (l : List UInt8) : List UInt8 := dig a 2 ++ dig b 2 ++ dig (8 + l.length) 2 ++ dig s 2 ++ l
theorem udpD_length (a b s : Nat) (l : List UInt8) : (udpD a b s l).length = 8 + l.length := by simp [udpD, dig_length]; omega
theorem udpBytesX (a b s : Nat) (A : Option Addr) (n k : Nat) (l : List UInt8) (w : World) (ha : a < 65536) (hb : b < 65536) (hs : s < 65536) (h : Rb w A n k l) (hn : n ≤ 65527) : Calls Tryz.prog 96 #[.agg (dgX a b s A n k).toArray] w (RetB w (udpD a b s l)) := by
 have := udpBytes_any (a : Int) b s A n k l w (by omega) (by omega) (by omega) h hn
 simpa [udpD, dgX, h.1] using this
end

section
open Go.RowKit
attribute [local go_sem ↓] sliced_cut
attribute [local go_sem] cutA_zero
def udT (s6 : Bool) (sh sl : Nat) (d6 : Bool) (dh dl : Nat) (a b s : Nat) (l : List UInt8) : Nat := tot false (psdB s6 sh sl d6 dh dl 17 (8 + l.length) ++ udpD a b s l)
def udF (s6 : Bool) (sh sl dh dl : Nat) (a b s : Nat) (l : List UInt8) : Bool := if s = 0 then !s6 else 65535 - fd (udT s6 sh sl s6 dh dl a b s l) == 0
set_option maxHeartbeats 4000000 in
set_option maxRecDepth 100000 in
theorem udpFine (a b s : Nat) (A : Option Addr) (n k : Nat) (s6 : Bool) (sh sl dh dl : Nat) (l : List UInt8) (w : World) (ha : a < 65536) (hb : b < 65536) (hs : s < 65536) (k1 : sh < 18446744073709551616) (k2 : sl < 18446744073709551616) (k3 : dh < 18446744073709551616) (k4 : dl < 18446744073709551616) (h : Rb w A n k l) (hn : n ≤ 65527) : Calls Tryz.prog 77 #[.agg (dgX a b s A n k).toArray, .agg (adC s6 sh sl).toArray, .agg (adC s6 dh dl).toArray] w (RetV w (.bool (udF s6 sh sl dh dl a b s l))) := by
 have HR := Lib.hid (fun w => (udpRight_yes (a : Int) b s A n k w (by omega) : Calls Tryz.prog 95 #[.agg (dgX a b s A n k).toArray] w (RetV w (.bool true))))
 have HB := Lib.hid (fun w (h : Rb w A n k l) => udpBytesX a b s A n k l w ha hb hs h (by omega))
 have hT : ([psdB s6 sh sl s6 dh dl 17 (8 + n), udpD a b s l] : List (List UInt8)).flatten.length ≤ 2000000 := by have := psdB_length s6 sh sl s6 dh dl 17 (8 + n); have := h.1; simp [udpD_length]; omega
 have HE : Hid (tot false ([psdB s6 sh sl s6 dh dl 17 (8 + n), udpD a b s l] : List (List UInt8)).flatten = udT s6 sh sl s6 dh dl a b s l) := Lib.hid (by rw [← h.1]; simp [udT])
 have HO := Lib.hid (fun w A1 c1 (h : RdL w A1 2 [psdB s6 sh sl s6 dh dl 17 (8 + n), udpD a b s l]) => sumRight A1 2 c1 _ w h (by omega) hT)
 rw [HE.out] at HO
 have hlD : (udpD a b s l).length = 8 + n := by rw [udpD_length, h.1]
 have HP := Lib.hid (fun w => (pseudo_any s6 sh sl s6 dh dl 17 (8 + n) w k1 k2 k3 k4 (by omega) (by omega) : Calls Tryz.prog 49 #[.agg (adC s6 sh sl).toArray, .agg (adC s6 dh dl).toArray, .int .u8 17, .int .i64 ((8 + n : Nat) : Int)] w (RetF w (psdB s6 sh sl s6 dh dl 17 (8 + n)))))
 have hF : udF s6 sh sl dh dl a b s l = if s = 0 then !s6 else 65535 - fd (udT s6 sh sl s6 dh dl a b s l) == 0 := rfl
 clear hT HE
 generalize udF s6 sh sl dh dl a b s l = z at *
 generalize psdB s6 sh sl s6 dh dl 17 (8 + n) = Pq at *
 generalize udpD a b s l = Pd at *
 generalize udT s6 sh sl s6 dh dl a b s l = t at *
 generalize 8 + n = m at *
 obtain ⟨du1, u1, u2⟩ := rowDX
 obtain ⟨dy1, y1, y2⟩ := rowAd
 have hX : Bk (((w.alloc (.cells (dgX a b s A n k).toArray 51)).alloc (.cells (adC s6 sh sl).toArray 24)).alloc (.cells (adC s6 dh dl).toArray 24)) w.heap.size 51 (dgX a b s A n k) := ((Bk.new w 51 (dgX a b s A n k).toArray).alloc _).alloc _
 have hS : Bk (((w.alloc (.cells (dgX a b s A n k).toArray 51)).alloc (.cells (adC s6 sh sl).toArray 24)).alloc (.cells (adC s6 dh dl).toArray 24)) (w.heap.size + 1) 24 (adC s6 sh sl) := (Bk.newK _ _ _ (by simp) rfl).alloc _
 have hE : Bk (((w.alloc (.cells (dgX a b s A n k).toArray 51)).alloc (.cells (adC s6 sh sl).toArray 24)).alloc (.cells (adC s6 dh dl).toArray 24)) (w.heap.size + 1 + 1) 24 (adC s6 dh dl) := Bk.newK _ _ _ (by simp) rfl
 have be : Below w.heap.size w (((w.alloc (.cells (dgX a b s A n k).toArray 51)).alloc (.cells (adC s6 sh sl).toArray 24)).alloc (.cells (adC s6 dh dl).toArray 24)) := Below.allocS (Below.allocS (Below.allocS (Below.refl _ _) _) _) _
 replace h := (((h.alloc (.cells (dgX a b s A n k).toArray 51)).alloc (.cells (adC s6 sh sl).toArray 24)).alloc (.cells (adC s6 dh dl).toArray 24))
 have zV : w.heap.size + 3 ≤ (((w.alloc (.cells (dgX a b s A n k).toArray 51)).alloc (.cells (adC s6 sh sl).toArray 24)).alloc (.cells (adC s6 dh dl).toArray 24)).heap.size := by simp
 go_enter Tryz.func77, Tryz.ntmps77
 go_upto_region 1 with (fail)
 generalize ((w.alloc (.cells (dgX a b s A n k).toArray 51)).alloc (.cells (adC s6 sh sl).toArray 24)).alloc (.cells (adC s6 dh dl).toArray 24) = V at *
 refine wp_region_lit ?_
 refine wpList_ldA (t := 51) 51 (.tmp 3) rfl rfl (dgX a b s A n k) rfl (hX) (whole_ _) u1 u2 (szDX _ _ _ _ _ _) ?_
 refine wpList_plain rfl (fun K hK => ?_)
 go_simp
 refine (HR.out _).mono ?_
 rintro e w1 ⟨bs1, d1, rfl, rfl⟩
 with_reducible refine hK _ _ ?_
 clear hK K
 refine wpList_plain rfl (fun K hK => ?_); go_simp; with_reducible refine hK _ _ ?_; clear hK K
 replace hX := hX.later (below_plus _ bs1 d1)
 replace hS := hS.later (below_plus _ bs1 d1)
 replace hE := hE.later (below_plus _ bs1 d1)
 replace h := h.plus_ bs1 d1
 replace be := belowP be bs1 d1
 generalize plus V bs1 d1 = V1 at *
 by_cases h0 : s = 0
 ·subst h0
  obtain rfl : z = !s6 := hF
  clear HB HO HP hlD HR h ha hb hs
  go_upto_region 3 with (fail)
  refine wp_region_lit ?_
  refine wpList_plain rfl (fun K hK => ?_); go_simp; with_reducible refine hK _ _ ?_; clear hK K
  refine wpList_ld1 (t := 51) (cs := dgX a b 0 A n k) 25 (.tmp 11) rfl (by rfl) rfl (hX) rfl Tryz.underlying25 rfl ?_
  refine wpList_plain rfl (fun K hK => ?_); go_simp; with_reducible refine hK _ _ ?_; clear hK K
  go_upto_region 4 with (fail)
  cases s6
  ·
   refine wp_region_lit ?_
   refine wpList_plain rfl (fun K hK => ?_); go_simp; with_reducible refine hK _ _ ?_; clear hK K
   refine wpList_ld1 (t := 24) (cs := adC false sh sl) 4 (.tmp 14) rfl (by rfl) rfl (hS) rfl Tryz.underlying4 rfl ?_
   iterate 2 (refine wpList_plain rfl (fun K hK => ?_); go_simp; with_reducible refine hK _ _ ?_; clear hK K)
   refine wpList_step (fun K hK => ?_); go_simp; with_reducible refine hK _ _ ?_; clear hK K
   refine wpList_ld1 (t := 24) (cs := adC false dh dl) 4 (.tmp 18) rfl (by go_simp) rfl (hE) rfl Tryz.underlying4 rfl ?_
   refine wpList_step (fun K hK => ?_); go_simp; with_reducible refine hK _ _ ?_; clear hK K
   iterate 2 (refine wpList_plain rfl (fun K hK => ?_); go_simp; with_reducible refine hK _ _ ?_; clear hK K)
   go_wp2
   go_ret
   exact RetV.is_ rfl be
  ·
   refine wp_region_lit ?_
   refine wpList_plain rfl (fun K hK => ?_); go_simp; with_reducible refine hK _ _ ?_; clear hK K
   refine wpList_ld1 (t := 24) (cs := adC true sh sl) 4 (.tmp 14) rfl (by rfl) rfl (hS) rfl Tryz.underlying4 rfl ?_
   iterate 2 (refine wpList_plain rfl (fun K hK => ?_); go_simp; with_reducible refine hK _ _ ?_; clear hK K)
   iterate 3 ((with_reducible refine wpList_skip ?_ ?_); (· first | (go_simp; done) | (go_simp; intro h; cases h)); simp only [Act.put, qsT, qsZ, qsS])
   iterate 2 (refine wpList_plain rfl (fun K hK => ?_); go_simp; with_reducible refine hK _ _ ?_; clear hK K)
   go_wp2
   go_ret
   exact RetV.is_ rfl be
 ·have d0 : ((s : Int) == 0) = false := by rw [beq_eq_false_iff_ne]; omega
  rw [if_neg h0] at hF
  subst hF
  clear HR h0
  go_upto_region 3 with (fail)
  refine wp_region_lit ?_
  refine wpList_plain rfl (fun K hK => ?_); go_simp; with_reducible refine hK _ _ ?_; clear hK K
  refine wpList_ld1 (t := 51) (cs := dgX a b s A n k) 25 (.tmp 11) rfl (by rfl) rfl (hX) rfl Tryz.underlying25 rfl ?_
  refine wpList_plain rfl (fun K hK => ?_); go_simp; with_reducible refine hK _ _ ?_; clear hK K
  go_upto_region 5 with (fail)
  refine wp_region_lit ?_
  refine wpList_ldA (t := 51) 51 (.tmp 3) rfl rfl (dgX a b s A n k) rfl (hX) (whole_ _) u1 u2 (szDX _ _ _ _ _ _) ?_
  refine wpList_plain rfl (fun K hK => ?_)
  go_simp
  refine (HB.out _ h).mono ?_
  rintro e w1 ⟨A1, n1, c1, bs1, d1, rfl, rfl, ho1⟩
  with_reducible refine hK _ _ ?_
  clear hK K
  obtain rfl : n1 = m := by rw [← ho1.1]; exact hlD
  replace hS := hS.later (below_plus _ bs1 d1)
  replace hE := hE.later (below_plus _ bs1 d1)
  replace be := belowP be bs1 d1
  replace ho1 := ho1.rb
  generalize plus V1 bs1 d1 = V2 at *
  go_upto_region 6 with (fail)
  refine wp_region_lit ?_
  refine wpList_ldA (t := 24) 24 (.tmp 4) rfl rfl (adC s6 sh sl) rfl (hS) (whole_ _) y1 y2 (szAd _ _ _) ?_
  simp only [Act.put, qsT, qsZ, qsS]
  refine wpList_ldA (t := 24) 24 (.tmp 5) rfl rfl (adC s6 dh dl) rfl (hE) (whole_ _) y1 y2 (szAd _ _ _) ?_
  iterate 2 (refine wpList_plain rfl (fun K hK => ?_); go_simp; with_reducible refine hK _ _ ?_; clear hK K)
  refine wpList_plain rfl (fun K hK => ?_)
  go_simp
  refine (HP.out _).mono ?_
  rintro e w1 ⟨A2, n2, bs2, d2, rfl, rfl, ho2⟩
  with_reducible refine hK _ _ ?_
  clear hK K
  iterate 2 (refine wpList_plain rfl (fun K hK => ?_); go_simp; with_reducible refine hK _ _ ?_; clear hK K)
  go_wp2_with fail
  refine (HO.out _ _ _ (RdL.litW [.slice A2 n2 n2, .slice A1 n1 c1] _ (by simp [size_plus]) (.cons ⟨_, _, _, rfl, ho2.rb⟩ (.cons ⟨_, _, _, rfl, ho1.plus_ _ _⟩ .nil)))).mono ?_
  rintro e w1 ⟨rfl, rfl⟩
  go_wp2
  go_ret
  exact RetV.is_ rfl (Below.allocS (belowP be _ _) _)
end

section
open Go.RowKit
attribute [local go_sem ↓] sliced_cut
attribute [local go_sem] cutA_zero
theorem szSeg (cs : List Value) (h : cs.length = 10) : (Tryz.prog.info? 49).map (·.size) = some cs.length := by rw [h]; kernel_rfl
set_option maxRecDepth 100000 in
theorem run_buildSeg0 (w : World) : (Instr.build 49 #[]).run Tryz.prog w = .ok (.agg #[.int .u16 0, .int .u16 0, .int .u32 0, .int .u32 0, .int .u8 0, .int .u16 0, .int .u16 0, .int .u16 0, .slice none 0 0, .slice none 0 0]) w := by kernel_rfl
def RetSeg (w : World) (x0 x1 x2 x3 x4 x5 x6 x7 : Nat) (l l2 : List UInt8) (v : Value) (e : Ending) (w' : World) : Prop :=
 ∃ A n c A2 n2 c2 bs d, e = .returned (.tuple #[.agg #[.int .u16 x0, .int .u16 x1, .int .u32 x2, .int .u32 x3, .int .u8 x4, .int .u16 x5, .int .u16 x6, .int .u16 x7, .slice A n c, .slice A2 n2 c2], v]) ∧ w' = plus w bs d ∧ Rb (plus w bs d) A n c l ∧ Rb (plus w bs d) A2 n2 c2 l2
theorem RetSeg.mk {w w' : World} {x0 x1 x2 x3 x4 x5 x6 x7 : Nat} {l l2 : List UInt8} {A : Option Addr} {n c : Nat} {A2 : Option Addr} {n2 c2 : Nat} {v : Value} (h1 : Rb w' A n c l) (h2 : Rb w' A2 n2 c2 l2) (hb : Below w.heap.size w w') :
  RetSeg w x0 x1 x2 x3 x4 x5 x6 x7 l l2 v (.returned (.tuple #[.agg #[.int .u16 x0, .int .u16 x1, .int .u32 x2, .int .u32 x3, .int .u8 x4, .int .u16 x5, .int .u16 x6, .int .u16 x7, .slice A n c, .slice A2 n2 c2], v])) w' := by
 obtain ⟨bs, d, rfl⟩ := plus_of hb
 exact ⟨A, n, c, A2, n2, c2, bs, d, rfl, rfl, h1, h2⟩
def RetSegF (w : World) (x0 x1 x2 x3 x4 x5 x6 x7 : Nat) (l l2 : List UInt8) (v : Value) (e : Ending) (w' : World) : Prop :=
 ∃ A n c A2 n2 c2 bs d, e = .returned (.tuple #[.agg #[.int .u16 x0, .int .u16 x1, .int .u32 x2, .int .u32 x3, .int .u8 x4, .int .u16 x5, .int .u16 x6, .int .u16 x7, .slice A n c, .slice A2 n2 c2], v]) ∧ w' = plus w bs d ∧ Rb (plus w bs d) A n c l ∧ Rb (plus w bs d) A2 n2 c2 l2 ∧ (∀ a, A = some a → w.heap.size ≤ a.block) ∧ ∀ a, A2 = some a → w.heap.size ≤ a.block
theorem Ob.freshT {w : World} {w0 base : Nat} {A : Option Addr} {n c : Nat} {l : List UInt8} (h : Ob w base A n c l) (hb : w0 ≤ base) : ∀ a, A = some a → w0 ≤ a.block := fun a ha => by
 subst ha
 have := (h.blk a.block rfl).1
 omega
theorem RetSegF.mk {w w' : World} {x0 x1 x2 x3 x4 x5 x6 x7 : Nat} {l l2 : List UInt8} {A : Option Addr} {n c : Nat} {A2 : Option Addr} {n2 c2 : Nat} {v : Value} {b1 b2 : Nat} (h1 : Ob w' b1 A n c l) (h2 : Ob w' b2 A2 n2 c2 l2) (hb : Below w.heap.size w w') (f1 : w.heap.size ≤ b1) (f2 : w.heap.size ≤ b2) :
  RetSegF w x0 x1 x2 x3 x4 x5 x6 x7 l l2 v (.returned (.tuple #[.agg #[.int .u16 x0, .int .u16 x1, .int .u32 x2, .int .u32 x3, .int .u8 x4, .int .u16 x5, .int .u16 x6, .int .u16 x7, .slice A n c, .slice A2 n2 c2], v])) w' := by
 obtain ⟨bs, d, rfl⟩ := plus_of hb
 exact ⟨A, n, c, A2, n2, c2, bs, d, rfl, rfl, h1.rb, h2.rb, h1.freshT f1, h2.freshT f2⟩
theorem RetSeg.zero {w w' : World} {v : Value} (hb : Below w.heap.size w w') : RetSeg w 0 0 0 0 0 0 0 0 [] [] v (.returned (.tuple #[.agg #[.int .u16 0, .int .u16 0, .int .u32 0, .int .u32 0, .int .u8 0, .int .u16 0, .int .u16 0, .int .u16 0, .slice none 0 0, .slice none 0 0], v])) w' := RetSeg.mk Rb.nil_ Rb.nil_ hb
theorem tcpParse_short (A : Option Addr) (n c : Nat) (l : List UInt8) (w : World) (hr : Rb w A n c l) (hn : n < 20) : Calls Tryz.prog 74 #[.slice A n c] w (RetSeg w 0 0 0 0 0 0 0 0 [] [] (.int .i64 20)) := by
 go_enter Tryz.func74, Tryz.ntmps74
 go_wp2
 refine bodyPost_ret (v := .tuple #[.agg #[.int .u16 0, .int .u16 0, .int .u32 0, .int .u32 0, .int .u8 0, .int .u16 0, .int .u16 0, .int .u16 0, .slice none 0 0, .slice none 0 0], .int .i64 20]) (by simp [results, Tryz.results74, go_sem]) rfl (RetSeg.zero ?_)
 repeat (first | exact Below.refl _ _ | refine Below.alloc ?_ (by simp) _)
set_option maxHeartbeats 4000000 in
theorem tcpParse_form1 (A : Option Addr) (n c : Nat) (l : List UInt8) (w : World) (hr : Rb w A n c l) (h20 : 20 ≤ n) (hn : n ≤ 2000000) (x0 : Nat) (x1 : Nat) (x2 : Nat) (x3 : Nat) (xf : Nat) (x4 : Nat) (x5 : Nat) (x6 : Nat) (x7 : Nat) (hx0 : num ((l.drop 0).take 2) = x0) (hx1 : num ((l.drop 2).take 2) = x1) (hx2 : num ((l.drop 4).take 4) = x2) (hx3 : num ((l.drop 8).take 4) = x3) (hxf : num ((l.drop 12).take 1) = xf) (hx4 : num ((l.drop 13).take 1) = x4) (hx5 : num ((l.drop 14).take 2) = x5) (hx6 : num ((l.drop 16).take 2) = x6) (hx7 : num ((l.drop 18).take 2) = x7) (hs : xf / 16 < 5) :
  Calls Tryz.prog 74 #[.slice A n c] w (RetSeg w 0 0 0 0 0 0 0 0 [] [] (.int .i64 21)) := by
 have hc := hr.cap
 have h20i : (20 : Int) ≤ (n : Int) := by omega
 have hf : xf < 256 := by rw [← hxf]; exact num_lt' l 12 1 256 (by decide)
 have hand := u8_and15 xf hf
 have Hx0 := Lib.hid hx0
 have Hx1 := Lib.hid hx1
 have Hx2 := Lib.hid hx2
 have Hx3 := Lib.hid hx3
 have Hxf := Lib.hid hxf
 have Hx4 := Lib.hid hx4
 have Hx5 := Lib.hid hx5
 have Hx6 := Lib.hid hx6
 have Hx7 := Lib.hid hx7
 clear hx0 hx1 hx2 hx3 hxf hx4 hx5 hx6 hx7
 have t1 : decide (4 * ((xf : Int) / 16) < 20) = true := by simp; omega
 go_enter Tryz.func74, Tryz.ntmps74
 go_wp2_with fail
 refine (readK _ _ _ (l.take 20) _ ((hr.take h20).alloc _) (by omega)).mono ?_
 rintro e w1 ⟨r, bs1, d1, rfl, rfl, hr1, hR0⟩
 have HL := Lib.hid (show (l.take 20).length = 20 by rw [List.length_take, hr.1]; omega)
 go_wp2_with fail
 refine (wordK _ _ _ r (l.take 20) 0 x0 hR0 hr1 (by rw [HL.out]; omega) (by rw [HL.out]; omega) (by rw [num_in _ _ _ _ (by omega)]; exact Hx0.out)).mono ?_
 rintro e w1 ⟨bs2, d2, rfl, rfl, hR1, -⟩
 go_wp2_with fail
 refine (wordK _ _ _ r (l.take 20) 2 x1 hR1 hr1 (by rw [HL.out]; omega) (by rw [HL.out]; omega) (by rw [num_in _ _ _ _ (by omega)]; exact Hx1.out)).mono ?_
 rintro e w1 ⟨bs3, d3, rfl, rfl, hR2, -⟩
 go_wp2_with fail
 refine (longK _ _ _ r (l.take 20) 4 x2 hR2 hr1 (by rw [HL.out]; omega) (by rw [HL.out]; omega) (by rw [num_in _ _ _ _ (by omega)]; exact Hx2.out)).mono ?_
 rintro e w1 ⟨bs4, d4, rfl, rfl, hR3, -⟩
 go_wp2_with fail
 refine (longK _ _ _ r (l.take 20) 8 x3 hR3 hr1 (by rw [HL.out]; omega) (by rw [HL.out]; omega) (by rw [num_in _ _ _ _ (by omega)]; exact Hx3.out)).mono ?_
 rintro e w1 ⟨bs5, d5, rfl, rfl, hR4, -⟩
 have hB0 : Below w.heap.size w (plus (w.alloc (.cells #[.int .u16 0, .int .u16 0, .int .u32 0, .int .u32 0, .int .u8 0, .int .u16 0, .int .u16 0, .int .u16 0, .slice none 0 0, .slice none 0 0] 49)) bs5 d5) := belowP ((Below.refl _ _).alloc (Nat.le_refl _) _) _ _
 have hX0 : Bk ((plus (w.alloc (.cells #[.int .u16 0, .int .u16 0, .int .u32 0, .int .u32 0, .int .u8 0, .int .u16 0, .int .u16 0, .int .u16 0, .slice none 0 0, .slice none 0 0] 49)) bs5 d5).alloc (.cells #[.int .u16 (x0 : Nat), .int .u16 (x1 : Nat), .int .u32 (x2 : Nat), .int .u32 (x3 : Nat), .int .u8 0, .int .u16 0, .int .u16 0, .int .u16 0, .slice none 0 0, .slice none 0 0] 49)) (w.heap.size + 1 + bs5.length) 49 [.int .u16 (x0 : Nat), .int .u16 (x1 : Nat), .int .u32 (x2 : Nat), .int .u32 (x3 : Nat), .int .u8 0, .int .u16 0, .int .u16 0, .int .u16 0, .slice none 0 0, .slice none 0 0] := by
  have := Bk.new (plus (w.alloc (.cells #[.int .u16 0, .int .u16 0, .int .u32 0, .int .u32 0, .int .u8 0, .int .u16 0, .int .u16 0, .int .u16 0, .slice none 0 0, .slice none 0 0] 49)) bs5 d5) 49 #[.int .u16 (x0 : Nat), .int .u16 (x1 : Nat), .int .u32 (x2 : Nat), .int .u32 (x3 : Nat), .int .u8 0, .int .u16 0, .int .u16 0, .int .u16 0, .slice none 0 0, .slice none 0 0]
  rw [size_plus, World.size_alloc] at this
  exact this
 have hZ0 : Bk ((plus (w.alloc (.cells #[.int .u16 0, .int .u16 0, .int .u32 0, .int .u32 0, .int .u8 0, .int .u16 0, .int .u16 0, .int .u16 0, .slice none 0 0, .slice none 0 0] 49)) bs5 d5).alloc (.cells #[.int .u16 (x0 : Nat), .int .u16 (x1 : Nat), .int .u32 (x2 : Nat), .int .u32 (x3 : Nat), .int .u8 0, .int .u16 0, .int .u16 0, .int .u16 0, .slice none 0 0, .slice none 0 0] 49)) w.heap.size 49 [.int .u16 0, .int .u16 0, .int .u32 0, .int .u32 0, .int .u8 0, .int .u16 0, .int .u16 0, .int .u16 0, .slice none 0 0, .slice none 0 0] := ((Bk.new w 49 #[.int .u16 0, .int .u16 0, .int .u32 0, .int .u32 0, .int .u8 0, .int .u16 0, .int .u16 0, .int .u16 0, .slice none 0 0, .slice none 0 0]).later (below_plus _ _ _)).alloc _
 have hlt : r < w.heap.size + 1 + bs5.length := by have := hR4.lt; simpa [size_plus] using this
 have hR5 := hR4.later ((Below.refl _ _).alloc (Nat.le_refl _) (.cells #[.int .u16 (x0 : Nat), .int .u16 (x1 : Nat), .int .u32 (x2 : Nat), .int .u32 (x3 : Nat), .int .u8 0, .int .u16 0, .int .u16 0, .int .u16 0, .slice none 0 0, .slice none 0 0] 49))
 have hB1 := hB0.alloc hB0.size (.cells #[.int .u16 (x0 : Nat), .int .u16 (x1 : Nat), .int .u32 (x2 : Nat), .int .u32 (x3 : Nat), .int .u8 0, .int .u16 0, .int .u16 0, .int .u16 0, .slice none 0 0, .slice none 0 0] 49)
 have hr2 : w.heap.size < r := by have := hr1; simp at this; omega
 go_wp2_with fail
 generalize (plus (w.alloc (.cells #[.int .u16 0, .int .u16 0, .int .u32 0, .int .u32 0, .int .u8 0, .int .u16 0, .int .u16 0, .int .u16 0, .slice none 0 0, .slice none 0 0] 49)) bs5 d5).alloc _ = W1 at hX0 hZ0 hR5 hB1 ⊢
 generalize w.heap.size + 1 + bs5.length = g at *
 refine (byteG _ r (l.take 20) 12 xf hR5 (by rw [HL.out]; omega) (by rw [HL.out]; omega) (by rw [num_in _ _ _ _ (by omega)]; exact Hxf.out)).mono ?_
 rintro e w1 ⟨rfl, hR6, hg6⟩
 have hX6 := hX0.grown hg6 (by simp; omega)
 have hZ6 := hZ0.grown hg6 (by simp; omega)
 have hB6 := hB1.trans (below_of_grown hg6 hB1.size (fun k hk => by injection hk with hk; omega))
 clear hg6 hX0 hZ0 hR5 hB1 hR0 hR1 hR2 hR3 hR4 hB0
 go_wp2_with (first
  | (refine at_op (.build 49 #[]) rfl ?_; refine wpList_build 49 [] rfl rfl (.agg #[.int .u16 0, .int .u16 0, .int .u32 0, .int .u32 0, .int .u8 0, .int .u16 0, .int .u16 0, .int .u16 0, .slice none 0 0, .slice none 0 0]) ?_ ?_; exact run_buildSeg0 _)
  | (refine at_op (.store 49 (.tmp 2) (.tmp 37)) rfl ?_; refine wpList_stA (t := 49) 49 (.tmp 2) (.tmp 37) rfl rfl [.int .u16 0, .int .u16 0, .int .u32 0, .int .u32 0, .int .u8 0, .int .u16 0, .int .u16 0, .int .u16 0, .slice none 0 0, .slice none 0 0] [.int .u16 0, .int .u16 0, .int .u32 0, .int .u32 0, .int .u8 0, .int .u16 0, .int .u16 0, .int .u16 0, .slice none 0 0, .slice none 0 0] rfl (by simp [Value.oneCell']) rfl rfl hZ6 (szSeg _ rfl) ?_; intro w2 hb2 hg2))
 refine bodyPost_agg2 Tryz.results74 rfl rfl hb2.range Tryz.underlying49 rfl (szSeg _ rfl) rfl (RetSeg.zero ?_)
 exact below_grown hB6 hg2 (Nat.le_refl _)
set_option maxHeartbeats 4000000 in
theorem tcpParse_form2 (A : Option Addr) (n c : Nat) (l : List UInt8) (w : World) (hr : Rb w A n c l) (h20 : 20 ≤ n) (hn : n ≤ 2000000) (x0 : Nat) (x1 : Nat) (x2 : Nat) (x3 : Nat) (xf : Nat) (x4 : Nat) (x5 : Nat) (x6 : Nat) (x7 : Nat) (hx0 : num ((l.drop 0).take 2) = x0) (hx1 : num ((l.drop 2).take 2) = x1) (hx2 : num ((l.drop 4).take 4) = x2) (hx3 : num ((l.drop 8).take 4) = x3) (hxf : num ((l.drop 12).take 1) = xf) (hx4 : num ((l.drop 13).take 1) = x4) (hx5 : num ((l.drop 14).take 2) = x5) (hx6 : num ((l.drop 16).take 2) = x6) (hx7 : num ((l.drop 18).take 2) = x7) (hs : 5 ≤ xf / 16) (hm : xf % 16 ≠ 0) :
  Calls Tryz.prog 74 #[.slice A n c] w (RetSeg w 0 0 0 0 0 0 0 0 [] [] (.int .i64 21)) := by
 have hc := hr.cap
 have h20i : (20 : Int) ≤ (n : Int) := by omega
 have hf : xf < 256 := by rw [← hxf]; exact num_lt' l 12 1 256 (by decide)
 have hand := u8_and15 xf hf
 have Hx0 := Lib.hid hx0
 have Hx1 := Lib.hid hx1
 have Hx2 := Lib.hid hx2
 have Hx3 := Lib.hid hx3
 have Hxf := Lib.hid hxf
 have Hx4 := Lib.hid hx4
 have Hx5 := Lib.hid hx5
 have Hx6 := Lib.hid hx6
 have Hx7 := Lib.hid hx7
 clear hx0 hx1 hx2 hx3 hxf hx4 hx5 hx6 hx7
 have t1 : decide (4 * ((xf : Int) / 16) < 20) = false := by simp; omega
 have t2 : (((xf % 16 : Nat) : Int) != 0) = true := by rw [bne_iff_ne]; omega
 go_enter Tryz.func74, Tryz.ntmps74
 go_wp2_with fail
 refine (readK _ _ _ (l.take 20) _ ((hr.take h20).alloc _) (by omega)).mono ?_
 rintro e w1 ⟨r, bs1, d1, rfl, rfl, hr1, hR0⟩
 have HL := Lib.hid (show (l.take 20).length = 20 by rw [List.length_take, hr.1]; omega)
 go_wp2_with fail
 refine (wordK _ _ _ r (l.take 20) 0 x0 hR0 hr1 (by rw [HL.out]; omega) (by rw [HL.out]; omega) (by rw [num_in _ _ _ _ (by omega)]; exact Hx0.out)).mono ?_
 rintro e w1 ⟨bs2, d2, rfl, rfl, hR1, -⟩
 go_wp2_with fail
 refine (wordK _ _ _ r (l.take 20) 2 x1 hR1 hr1 (by rw [HL.out]; omega) (by rw [HL.out]; omega) (by rw [num_in _ _ _ _ (by omega)]; exact Hx1.out)).mono ?_
 rintro e w1 ⟨bs3, d3, rfl, rfl, hR2, -⟩
 go_wp2_with fail
 refine (longK _ _ _ r (l.take 20) 4 x2 hR2 hr1 (by rw [HL.out]; omega) (by rw [HL.out]; omega) (by rw [num_in _ _ _ _ (by omega)]; exact Hx2.out)).mono ?_
 rintro e w1 ⟨bs4, d4, rfl, rfl, hR3, -⟩
 go_wp2_with fail
 refine (longK _ _ _ r (l.take 20) 8 x3 hR3 hr1 (by rw [HL.out]; omega) (by rw [HL.out]; omega) (by rw [num_in _ _ _ _ (by omega)]; exact Hx3.out)).mono ?_
 rintro e w1 ⟨bs5, d5, rfl, rfl, hR4, -⟩
 have hB0 : Below w.heap.size w (plus (w.alloc (.cells #[.int .u16 0, .int .u16 0, .int .u32 0, .int .u32 0, .int .u8 0, .int .u16 0, .int .u16 0, .int .u16 0, .slice none 0 0, .slice none 0 0] 49)) bs5 d5) := belowP ((Below.refl _ _).alloc (Nat.le_refl _) _) _ _
 have hX0 : Bk ((plus (w.alloc (.cells #[.int .u16 0, .int .u16 0, .int .u32 0, .int .u32 0, .int .u8 0, .int .u16 0, .int .u16 0, .int .u16 0, .slice none 0 0, .slice none 0 0] 49)) bs5 d5).alloc (.cells #[.int .u16 (x0 : Nat), .int .u16 (x1 : Nat), .int .u32 (x2 : Nat), .int .u32 (x3 : Nat), .int .u8 0, .int .u16 0, .int .u16 0, .int .u16 0, .slice none 0 0, .slice none 0 0] 49)) (w.heap.size + 1 + bs5.length) 49 [.int .u16 (x0 : Nat), .int .u16 (x1 : Nat), .int .u32 (x2 : Nat), .int .u32 (x3 : Nat), .int .u8 0, .int .u16 0, .int .u16 0, .int .u16 0, .slice none 0 0, .slice none 0 0] := by
  have := Bk.new (plus (w.alloc (.cells #[.int .u16 0, .int .u16 0, .int .u32 0, .int .u32 0, .int .u8 0, .int .u16 0, .int .u16 0, .int .u16 0, .slice none 0 0, .slice none 0 0] 49)) bs5 d5) 49 #[.int .u16 (x0 : Nat), .int .u16 (x1 : Nat), .int .u32 (x2 : Nat), .int .u32 (x3 : Nat), .int .u8 0, .int .u16 0, .int .u16 0, .int .u16 0, .slice none 0 0, .slice none 0 0]
  rw [size_plus, World.size_alloc] at this
  exact this
 have hZ0 : Bk ((plus (w.alloc (.cells #[.int .u16 0, .int .u16 0, .int .u32 0, .int .u32 0, .int .u8 0, .int .u16 0, .int .u16 0, .int .u16 0, .slice none 0 0, .slice none 0 0] 49)) bs5 d5).alloc (.cells #[.int .u16 (x0 : Nat), .int .u16 (x1 : Nat), .int .u32 (x2 : Nat), .int .u32 (x3 : Nat), .int .u8 0, .int .u16 0, .int .u16 0, .int .u16 0, .slice none 0 0, .slice none 0 0] 49)) w.heap.size 49 [.int .u16 0, .int .u16 0, .int .u32 0, .int .u32 0, .int .u8 0, .int .u16 0, .int .u16 0, .int .u16 0, .slice none 0 0, .slice none 0 0] := ((Bk.new w 49 #[.int .u16 0, .int .u16 0, .int .u32 0, .int .u32 0, .int .u8 0, .int .u16 0, .int .u16 0, .int .u16 0, .slice none 0 0, .slice none 0 0]).later (below_plus _ _ _)).alloc _
 have hlt : r < w.heap.size + 1 + bs5.length := by have := hR4.lt; simpa [size_plus] using this
 have hR5 := hR4.later ((Below.refl _ _).alloc (Nat.le_refl _) (.cells #[.int .u16 (x0 : Nat), .int .u16 (x1 : Nat), .int .u32 (x2 : Nat), .int .u32 (x3 : Nat), .int .u8 0, .int .u16 0, .int .u16 0, .int .u16 0, .slice none 0 0, .slice none 0 0] 49))
 have hB1 := hB0.alloc hB0.size (.cells #[.int .u16 (x0 : Nat), .int .u16 (x1 : Nat), .int .u32 (x2 : Nat), .int .u32 (x3 : Nat), .int .u8 0, .int .u16 0, .int .u16 0, .int .u16 0, .slice none 0 0, .slice none 0 0] 49)
 have hr2 : w.heap.size < r := by have := hr1; simp at this; omega
 go_wp2_with fail
 generalize (plus (w.alloc (.cells #[.int .u16 0, .int .u16 0, .int .u32 0, .int .u32 0, .int .u8 0, .int .u16 0, .int .u16 0, .int .u16 0, .slice none 0 0, .slice none 0 0] 49)) bs5 d5).alloc _ = W1 at hX0 hZ0 hR5 hB1 ⊢
 generalize w.heap.size + 1 + bs5.length = g at *
 refine (byteG _ r (l.take 20) 12 xf hR5 (by rw [HL.out]; omega) (by rw [HL.out]; omega) (by rw [num_in _ _ _ _ (by omega)]; exact Hxf.out)).mono ?_
 rintro e w1 ⟨rfl, hR6, hg6⟩
 have hX6 := hX0.grown hg6 (by simp; omega)
 have hZ6 := hZ0.grown hg6 (by simp; omega)
 have hB6 := hB1.trans (below_of_grown hg6 hB1.size (fun k hk => by injection hk with hk; omega))
 clear hg6 hX0 hZ0 hR5 hB1 hR0 hR1 hR2 hR3 hR4 hB0
 go_wp2_with (first
  | (refine at_op (.build 49 #[]) rfl ?_; refine wpList_build 49 [] rfl rfl (.agg #[.int .u16 0, .int .u16 0, .int .u32 0, .int .u32 0, .int .u8 0, .int .u16 0, .int .u16 0, .int .u16 0, .slice none 0 0, .slice none 0 0]) ?_ ?_; exact run_buildSeg0 _)
  | (refine at_op (.store 49 (.tmp 2) (.tmp 37)) rfl ?_; refine wpList_stA (t := 49) 49 (.tmp 2) (.tmp 37) rfl rfl [.int .u16 0, .int .u16 0, .int .u32 0, .int .u32 0, .int .u8 0, .int .u16 0, .int .u16 0, .int .u16 0, .slice none 0 0, .slice none 0 0] [.int .u16 0, .int .u16 0, .int .u32 0, .int .u32 0, .int .u8 0, .int .u16 0, .int .u16 0, .int .u16 0, .slice none 0 0, .slice none 0 0] rfl (by simp [Value.oneCell']) rfl rfl hZ6 (szSeg _ rfl) ?_; intro w2 hb2 hg2))
 refine bodyPost_agg2 Tryz.results74 rfl rfl hb2.range Tryz.underlying49 rfl (szSeg _ rfl) rfl (RetSeg.zero ?_)
 exact below_grown hB6 hg2 (Nat.le_refl _)
set_option maxHeartbeats 4000000 in
theorem tcpParse_short2 (A : Option Addr) (n c : Nat) (l : List UInt8) (w : World) (hr : Rb w A n c l) (h20 : 20 ≤ n) (hn : n ≤ 2000000) (x0 : Nat) (x1 : Nat) (x2 : Nat) (x3 : Nat) (xf : Nat) (x4 : Nat) (x5 : Nat) (x6 : Nat) (x7 : Nat) (hx0 : num ((l.drop 0).take 2) = x0) (hx1 : num ((l.drop 2).take 2) = x1) (hx2 : num ((l.drop 4).take 4) = x2) (hx3 : num ((l.drop 8).take 4) = x3) (hxf : num ((l.drop 12).take 1) = xf) (hx4 : num ((l.drop 13).take 1) = x4) (hx5 : num ((l.drop 14).take 2) = x5) (hx6 : num ((l.drop 16).take 2) = x6) (hx7 : num ((l.drop 18).take 2) = x7) (hs : 5 ≤ xf / 16) (hm : xf % 16 = 0) (hz : n < 4 * (xf / 16)) :
  Calls Tryz.prog 74 #[.slice A n c] w (RetSeg w 0 0 0 0 0 0 0 0 [] [] (.int .i64 20)) := by
 have hc := hr.cap
 have h20i : (20 : Int) ≤ (n : Int) := by omega
 have hf : xf < 256 := by rw [← hxf]; exact num_lt' l 12 1 256 (by decide)
 have hand := u8_and15 xf hf
 have Hx0 := Lib.hid hx0
 have Hx1 := Lib.hid hx1
 have Hx2 := Lib.hid hx2
 have Hx3 := Lib.hid hx3
 have Hxf := Lib.hid hxf
 have Hx4 := Lib.hid hx4
 have Hx5 := Lib.hid hx5
 have Hx6 := Lib.hid hx6
 have Hx7 := Lib.hid hx7
 clear hx0 hx1 hx2 hx3 hxf hx4 hx5 hx6 hx7
 rw [hm] at hand
 clear hm
 have t1 : decide (4 * ((xf : Int) / 16) < 20) = false := by simp; omega
 have t2 : decide ((n : Int) < 4 * ((xf : Int) / 16)) = true := by simp; omega
 go_enter Tryz.func74, Tryz.ntmps74
 go_wp2_with fail
 refine (readK _ _ _ (l.take 20) _ ((hr.take h20).alloc _) (by omega)).mono ?_
 rintro e w1 ⟨r, bs1, d1, rfl, rfl, hr1, hR0⟩
 have HL := Lib.hid (show (l.take 20).length = 20 by rw [List.length_take, hr.1]; omega)
 go_wp2_with fail
 refine (wordK _ _ _ r (l.take 20) 0 x0 hR0 hr1 (by rw [HL.out]; omega) (by rw [HL.out]; omega) (by rw [num_in _ _ _ _ (by omega)]; exact Hx0.out)).mono ?_
 rintro e w1 ⟨bs2, d2, rfl, rfl, hR1, -⟩
 go_wp2_with fail
 refine (wordK _ _ _ r (l.take 20) 2 x1 hR1 hr1 (by rw [HL.out]; omega) (by rw [HL.out]; omega) (by rw [num_in _ _ _ _ (by omega)]; exact Hx1.out)).mono ?_
 rintro e w1 ⟨bs3, d3, rfl, rfl, hR2, -⟩
 go_wp2_with fail
 refine (longK _ _ _ r (l.take 20) 4 x2 hR2 hr1 (by rw [HL.out]; omega) (by rw [HL.out]; omega) (by rw [num_in _ _ _ _ (by omega)]; exact Hx2.out)).mono ?_
 rintro e w1 ⟨bs4, d4, rfl, rfl, hR3, -⟩
 go_wp2_with fail
 refine (longK _ _ _ r (l.take 20) 8 x3 hR3 hr1 (by rw [HL.out]; omega) (by rw [HL.out]; omega) (by rw [num_in _ _ _ _ (by omega)]; exact Hx3.out)).mono ?_
 rintro e w1 ⟨bs5, d5, rfl, rfl, hR4, -⟩
 have hB0 : Below w.heap.size w (plus (w.alloc (.cells #[.int .u16 0, .int .u16 0, .int .u32 0, .int .u32 0, .int .u8 0, .int .u16 0, .int .u16 0, .int .u16 0, .slice none 0 0, .slice none 0 0] 49)) bs5 d5) := belowP ((Below.refl _ _).alloc (Nat.le_refl _) _) _ _
 have hX0 : Bk ((plus (w.alloc (.cells #[.int .u16 0, .int .u16 0, .int .u32 0, .int .u32 0, .int .u8 0, .int .u16 0, .int .u16 0, .int .u16 0, .slice none 0 0, .slice none 0 0] 49)) bs5 d5).alloc (.cells #[.int .u16 (x0 : Nat), .int .u16 (x1 : Nat), .int .u32 (x2 : Nat), .int .u32 (x3 : Nat), .int .u8 0, .int .u16 0, .int .u16 0, .int .u16 0, .slice none 0 0, .slice none 0 0] 49)) (w.heap.size + 1 + bs5.length) 49 [.int .u16 (x0 : Nat), .int .u16 (x1 : Nat), .int .u32 (x2 : Nat), .int .u32 (x3 : Nat), .int .u8 0, .int .u16 0, .int .u16 0, .int .u16 0, .slice none 0 0, .slice none 0 0] := by
  have := Bk.new (plus (w.alloc (.cells #[.int .u16 0, .int .u16 0, .int .u32 0, .int .u32 0, .int .u8 0, .int .u16 0, .int .u16 0, .int .u16 0, .slice none 0 0, .slice none 0 0] 49)) bs5 d5) 49 #[.int .u16 (x0 : Nat), .int .u16 (x1 : Nat), .int .u32 (x2 : Nat), .int .u32 (x3 : Nat), .int .u8 0, .int .u16 0, .int .u16 0, .int .u16 0, .slice none 0 0, .slice none 0 0]
  rw [size_plus, World.size_alloc] at this
  exact this
 have hZ0 : Bk ((plus (w.alloc (.cells #[.int .u16 0, .int .u16 0, .int .u32 0, .int .u32 0, .int .u8 0, .int .u16 0, .int .u16 0, .int .u16 0, .slice none 0 0, .slice none 0 0] 49)) bs5 d5).alloc (.cells #[.int .u16 (x0 : Nat), .int .u16 (x1 : Nat), .int .u32 (x2 : Nat), .int .u32 (x3 : Nat), .int .u8 0, .int .u16 0, .int .u16 0, .int .u16 0, .slice none 0 0, .slice none 0 0] 49)) w.heap.size 49 [.int .u16 0, .int .u16 0, .int .u32 0, .int .u32 0, .int .u8 0, .int .u16 0, .int .u16 0, .int .u16 0, .slice none 0 0, .slice none 0 0] := ((Bk.new w 49 #[.int .u16 0, .int .u16 0, .int .u32 0, .int .u32 0, .int .u8 0, .int .u16 0, .int .u16 0, .int .u16 0, .slice none 0 0, .slice none 0 0]).later (below_plus _ _ _)).alloc _
 have hlt : r < w.heap.size + 1 + bs5.length := by have := hR4.lt; simpa [size_plus] using this
 have hR5 := hR4.later ((Below.refl _ _).alloc (Nat.le_refl _) (.cells #[.int .u16 (x0 : Nat), .int .u16 (x1 : Nat), .int .u32 (x2 : Nat), .int .u32 (x3 : Nat), .int .u8 0, .int .u16 0, .int .u16 0, .int .u16 0, .slice none 0 0, .slice none 0 0] 49))
 have hB1 := hB0.alloc hB0.size (.cells #[.int .u16 (x0 : Nat), .int .u16 (x1 : Nat), .int .u32 (x2 : Nat), .int .u32 (x3 : Nat), .int .u8 0, .int .u16 0, .int .u16 0, .int .u16 0, .slice none 0 0, .slice none 0 0] 49)
 have hr2 : w.heap.size < r := by have := hr1; simp at this; omega
 go_wp2_with fail
 generalize (plus (w.alloc (.cells #[.int .u16 0, .int .u16 0, .int .u32 0, .int .u32 0, .int .u8 0, .int .u16 0, .int .u16 0, .int .u16 0, .slice none 0 0, .slice none 0 0] 49)) bs5 d5).alloc _ = W1 at hX0 hZ0 hR5 hB1 ⊢
 generalize w.heap.size + 1 + bs5.length = g at *
 refine (byteG _ r (l.take 20) 12 xf hR5 (by rw [HL.out]; omega) (by rw [HL.out]; omega) (by rw [num_in _ _ _ _ (by omega)]; exact Hxf.out)).mono ?_
 rintro e w1 ⟨rfl, hR6, hg6⟩
 have hX6 := hX0.grown hg6 (by simp; omega)
 have hZ6 := hZ0.grown hg6 (by simp; omega)
 have hB6 := hB1.trans (below_of_grown hg6 hB1.size (fun k hk => by injection hk with hk; omega))
 clear hg6 hX0 hZ0 hR5 hB1 hR0 hR1 hR2 hR3 hR4 hB0
 go_wp2_with (first
  | (refine at_op (.build 49 #[]) rfl ?_; refine wpList_build 49 [] rfl rfl (.agg #[.int .u16 0, .int .u16 0, .int .u32 0, .int .u32 0, .int .u8 0, .int .u16 0, .int .u16 0, .int .u16 0, .slice none 0 0, .slice none 0 0]) ?_ ?_; exact run_buildSeg0 _)
  | (refine at_op (.store 49 (.tmp 2) (.tmp 42)) rfl ?_; refine wpList_stA (t := 49) 49 (.tmp 2) (.tmp 42) rfl rfl [.int .u16 0, .int .u16 0, .int .u32 0, .int .u32 0, .int .u8 0, .int .u16 0, .int .u16 0, .int .u16 0, .slice none 0 0, .slice none 0 0] [.int .u16 0, .int .u16 0, .int .u32 0, .int .u32 0, .int .u8 0, .int .u16 0, .int .u16 0, .int .u16 0, .slice none 0 0, .slice none 0 0] rfl (by simp [Value.oneCell']) rfl rfl hZ6 (szSeg _ rfl) ?_; intro w2 hb2 hg2))
 refine bodyPost_agg2 Tryz.results74 rfl rfl hb2.range Tryz.underlying49 rfl (szSeg _ rfl) rfl (RetSeg.zero ?_)
 exact below_grown hB6 hg2 (Nat.le_refl _)
set_option maxHeartbeats 4000000 in
theorem tcpParse_okF (A : Option Addr) (n c : Nat) (l : List UInt8) (w : World) (hr : Rb w A n c l) (h20 : 20 ≤ n) (hn : n ≤ 2000000) (x0 : Nat) (x1 : Nat) (x2 : Nat) (x3 : Nat) (xf : Nat) (x4 : Nat) (x5 : Nat) (x6 : Nat) (x7 : Nat) (hx0 : num ((l.drop 0).take 2) = x0) (hx1 : num ((l.drop 2).take 2) = x1) (hx2 : num ((l.drop 4).take 4) = x2) (hx3 : num ((l.drop 8).take 4) = x3) (hxf : num ((l.drop 12).take 1) = xf) (hx4 : num ((l.drop 13).take 1) = x4) (hx5 : num ((l.drop 14).take 2) = x5) (hx6 : num ((l.drop 16).take 2) = x6) (hx7 : num ((l.drop 18).take 2) = x7) (hs : 5 ≤ xf / 16) (hm : xf % 16 = 0) (sz : Nat) (hsz : sz = 4 * (xf / 16)) (hz : sz ≤ n) :
  Calls Tryz.prog 74 #[.slice A n c] w (RetSegF w x0 x1 x2 x3 x4 x5 x6 x7 ((l.drop 20).take (sz - 20)) (l.drop sz) (.int .i64 0)) := by
 have hc := hr.cap
 have h20i : (20 : Int) ≤ (n : Int) := by omega
 have hf : xf < 256 := by rw [← hxf]; exact num_lt' l 12 1 256 (by decide)
 have hand := u8_and15 xf hf
 have Hx0 := Lib.hid hx0
 have Hx1 := Lib.hid hx1
 have Hx2 := Lib.hid hx2
 have Hx3 := Lib.hid hx3
 have Hxf := Lib.hid hxf
 have Hx4 := Lib.hid hx4
 have Hx5 := Lib.hid hx5
 have Hx6 := Lib.hid hx6
 have Hx7 := Lib.hid hx7
 clear hx0 hx1 hx2 hx3 hxf hx4 hx5 hx6 hx7
 rw [hm] at hand
 clear hm
 have esz : 4 * ((xf : Int) / 16) = (sz : Int) := by omega
 have hs2 : 20 ≤ sz := by omega
 have HSZ := Lib.hid hsz
 clear hsz
 have t1 : decide ((sz : Int) < 20) = false := by simp; omega
 go_enter Tryz.func74, Tryz.ntmps74
 go_wp2_with fail
 refine (readK _ _ _ (l.take 20) _ ((hr.take h20).alloc _) (by omega)).mono ?_
 rintro e w1 ⟨r, bs1, d1, rfl, rfl, hr1, hR0⟩
 have HL := Lib.hid (show (l.take 20).length = 20 by rw [List.length_take, hr.1]; omega)
 go_wp2_with fail
 refine (wordK _ _ _ r (l.take 20) 0 x0 hR0 hr1 (by rw [HL.out]; omega) (by rw [HL.out]; omega) (by rw [num_in _ _ _ _ (by omega)]; exact Hx0.out)).mono ?_
 rintro e w1 ⟨bs2, d2, rfl, rfl, hR1, -⟩
 go_wp2_with fail
 refine (wordK _ _ _ r (l.take 20) 2 x1 hR1 hr1 (by rw [HL.out]; omega) (by rw [HL.out]; omega) (by rw [num_in _ _ _ _ (by omega)]; exact Hx1.out)).mono ?_
 rintro e w1 ⟨bs3, d3, rfl, rfl, hR2, -⟩
 go_wp2_with fail
 refine (longK _ _ _ r (l.take 20) 4 x2 hR2 hr1 (by rw [HL.out]; omega) (by rw [HL.out]; omega) (by rw [num_in _ _ _ _ (by omega)]; exact Hx2.out)).mono ?_
 rintro e w1 ⟨bs4, d4, rfl, rfl, hR3, -⟩
 go_wp2_with fail
 refine (longK _ _ _ r (l.take 20) 8 x3 hR3 hr1 (by rw [HL.out]; omega) (by rw [HL.out]; omega) (by rw [num_in _ _ _ _ (by omega)]; exact Hx3.out)).mono ?_
 rintro e w1 ⟨bs5, d5, rfl, rfl, hR4, -⟩
 have hB0 : Below w.heap.size w (plus (w.alloc (.cells #[.int .u16 0, .int .u16 0, .int .u32 0, .int .u32 0, .int .u8 0, .int .u16 0, .int .u16 0, .int .u16 0, .slice none 0 0, .slice none 0 0] 49)) bs5 d5) := belowP ((Below.refl _ _).alloc (Nat.le_refl _) _) _ _
 have hX0 : Bk ((plus (w.alloc (.cells #[.int .u16 0, .int .u16 0, .int .u32 0, .int .u32 0, .int .u8 0, .int .u16 0, .int .u16 0, .int .u16 0, .slice none 0 0, .slice none 0 0] 49)) bs5 d5).alloc (.cells #[.int .u16 (x0 : Nat), .int .u16 (x1 : Nat), .int .u32 (x2 : Nat), .int .u32 (x3 : Nat), .int .u8 0, .int .u16 0, .int .u16 0, .int .u16 0, .slice none 0 0, .slice none 0 0] 49)) (w.heap.size + 1 + bs5.length) 49 [.int .u16 (x0 : Nat), .int .u16 (x1 : Nat), .int .u32 (x2 : Nat), .int .u32 (x3 : Nat), .int .u8 0, .int .u16 0, .int .u16 0, .int .u16 0, .slice none 0 0, .slice none 0 0] := by
  have := Bk.new (plus (w.alloc (.cells #[.int .u16 0, .int .u16 0, .int .u32 0, .int .u32 0, .int .u8 0, .int .u16 0, .int .u16 0, .int .u16 0, .slice none 0 0, .slice none 0 0] 49)) bs5 d5) 49 #[.int .u16 (x0 : Nat), .int .u16 (x1 : Nat), .int .u32 (x2 : Nat), .int .u32 (x3 : Nat), .int .u8 0, .int .u16 0, .int .u16 0, .int .u16 0, .slice none 0 0, .slice none 0 0]
  rw [size_plus, World.size_alloc] at this
  exact this
 have hZ0 : Bk ((plus (w.alloc (.cells #[.int .u16 0, .int .u16 0, .int .u32 0, .int .u32 0, .int .u8 0, .int .u16 0, .int .u16 0, .int .u16 0, .slice none 0 0, .slice none 0 0] 49)) bs5 d5).alloc (.cells #[.int .u16 (x0 : Nat), .int .u16 (x1 : Nat), .int .u32 (x2 : Nat), .int .u32 (x3 : Nat), .int .u8 0, .int .u16 0, .int .u16 0, .int .u16 0, .slice none 0 0, .slice none 0 0] 49)) w.heap.size 49 [.int .u16 0, .int .u16 0, .int .u32 0, .int .u32 0, .int .u8 0, .int .u16 0, .int .u16 0, .int .u16 0, .slice none 0 0, .slice none 0 0] := ((Bk.new w 49 #[.int .u16 0, .int .u16 0, .int .u32 0, .int .u32 0, .int .u8 0, .int .u16 0, .int .u16 0, .int .u16 0, .slice none 0 0, .slice none 0 0]).later (below_plus _ _ _)).alloc _
 have hlt : r < w.heap.size + 1 + bs5.length := by have := hR4.lt; simpa [size_plus] using this
 have hR5 := hR4.later ((Below.refl _ _).alloc (Nat.le_refl _) (.cells #[.int .u16 (x0 : Nat), .int .u16 (x1 : Nat), .int .u32 (x2 : Nat), .int .u32 (x3 : Nat), .int .u8 0, .int .u16 0, .int .u16 0, .int .u16 0, .slice none 0 0, .slice none 0 0] 49))
 have hB1 := hB0.alloc hB0.size (.cells #[.int .u16 (x0 : Nat), .int .u16 (x1 : Nat), .int .u32 (x2 : Nat), .int .u32 (x3 : Nat), .int .u8 0, .int .u16 0, .int .u16 0, .int .u16 0, .slice none 0 0, .slice none 0 0] 49)
 have hr2 : w.heap.size < r := by have := hr1; simp at this; omega
 go_wp2_with fail
 generalize (plus (w.alloc (.cells #[.int .u16 0, .int .u16 0, .int .u32 0, .int .u32 0, .int .u8 0, .int .u16 0, .int .u16 0, .int .u16 0, .slice none 0 0, .slice none 0 0] 49)) bs5 d5).alloc _ = W1 at hX0 hZ0 hR5 hB1 ⊢
 generalize w.heap.size + 1 + bs5.length = g at *
 refine (byteG _ r (l.take 20) 12 xf hR5 (by rw [HL.out]; omega) (by rw [HL.out]; omega) (by rw [num_in _ _ _ _ (by omega)]; exact Hxf.out)).mono ?_
 rintro e w1 ⟨rfl, hR6, hg6⟩
 have hX6 := hX0.grown hg6 (by simp; omega)
 have hZ6 := hZ0.grown hg6 (by simp; omega)
 have hB6 := hB1.trans (below_of_grown hg6 hB1.size (fun k hk => by injection hk with hk; omega))
 clear hg6 hX0 hZ0 hR5 hB1 hR0 hR1 hR2 hR3 hR4 hB0
 go_wp2_with fail
 refine (byteG _ r (l.take 20) 13 x4 hR6 (by rw [HL.out]; omega) (by rw [HL.out]; omega) (by rw [num_in _ _ _ _ (by omega)]; exact Hx4.out)).mono ?_
 clear hR6
 rintro e v0 ⟨rfl, hR6, hg6⟩
 replace hX6 := hX6.grown hg6 (by simp; omega)
 replace hZ6 := hZ6.grown hg6 (by simp; omega)
 replace hB6 := hB6.trans (below_of_grown hg6 hB6.size (fun k hk => by injection hk with hk; omega))
 clear hg6
 have q : v0.cell? ⟨g, 4, none⟩ = some (.int .u8 0) := hX6.cell 4
 have f := hX6.frozen 4
 go_wp2_with fail
 clear q f
 replace hX6 := hX6.set_ 4 (.int .u8 (x4 : Nat))
 simp only [List.set_cons_zero, List.set_cons_succ] at hX6
 replace hR6 := hR6.far (p := ⟨g, 4, none⟩) hlt (.int .u8 (x4 : Nat))
 replace hZ6 := hZ6.far (p := ⟨g, 4, none⟩) (by simp; omega) (.int .u8 (x4 : Nat))
 replace hB6 := hB6.setCell (p := ⟨g, 4, none⟩) (by simp; omega) (.int .u8 (x4 : Nat))
 generalize v0.setCell ⟨g, 4, none⟩ (.int .u8 (x4 : Nat)) = W0 at hX6 hR6 hZ6 hB6 ⊢
 go_wp2_with fail
 refine (wordG _ r (l.take 20) 14 x5 hR6 (by rw [HL.out]; omega) (by rw [HL.out]; omega) (by rw [num_in _ _ _ _ (by omega)]; exact Hx5.out)).mono ?_
 clear hR6
 rintro e v1 ⟨rfl, hR6, hg6⟩
 replace hX6 := hX6.grown hg6 (by simp; omega)
 replace hZ6 := hZ6.grown hg6 (by simp; omega)
 replace hB6 := hB6.trans (below_of_grown hg6 hB6.size (fun k hk => by injection hk with hk; omega))
 clear hg6
 have q : v1.cell? ⟨g, 5, none⟩ = some (.int .u16 0) := hX6.cell 5
 have f := hX6.frozen 5
 go_wp2_with fail
 clear q f
 replace hX6 := hX6.set_ 5 (.int .u16 (x5 : Nat))
 simp only [List.set_cons_zero, List.set_cons_succ] at hX6
 replace hR6 := hR6.far (p := ⟨g, 5, none⟩) hlt (.int .u16 (x5 : Nat))
 replace hZ6 := hZ6.far (p := ⟨g, 5, none⟩) (by simp; omega) (.int .u16 (x5 : Nat))
 replace hB6 := hB6.setCell (p := ⟨g, 5, none⟩) (by simp; omega) (.int .u16 (x5 : Nat))
 generalize v1.setCell ⟨g, 5, none⟩ (.int .u16 (x5 : Nat)) = W1 at hX6 hR6 hZ6 hB6 ⊢
 go_wp2_with fail
 refine (wordG _ r (l.take 20) 16 x6 hR6 (by rw [HL.out]; omega) (by rw [HL.out]; omega) (by rw [num_in _ _ _ _ (by omega)]; exact Hx6.out)).mono ?_
 clear hR6
 rintro e v2 ⟨rfl, hR6, hg6⟩
 replace hX6 := hX6.grown hg6 (by simp; omega)
 replace hZ6 := hZ6.grown hg6 (by simp; omega)
 replace hB6 := hB6.trans (below_of_grown hg6 hB6.size (fun k hk => by injection hk with hk; omega))
 clear hg6
 have q : v2.cell? ⟨g, 6, none⟩ = some (.int .u16 0) := hX6.cell 6
 have f := hX6.frozen 6
 go_wp2_with fail
 clear q f
 replace hX6 := hX6.set_ 6 (.int .u16 (x6 : Nat))
 simp only [List.set_cons_zero, List.set_cons_succ] at hX6
 replace hR6 := hR6.far (p := ⟨g, 6, none⟩) hlt (.int .u16 (x6 : Nat))
 replace hZ6 := hZ6.far (p := ⟨g, 6, none⟩) (by simp; omega) (.int .u16 (x6 : Nat))
 replace hB6 := hB6.setCell (p := ⟨g, 6, none⟩) (by simp; omega) (.int .u16 (x6 : Nat))
 generalize v2.setCell ⟨g, 6, none⟩ (.int .u16 (x6 : Nat)) = W2 at hX6 hR6 hZ6 hB6 ⊢
 go_wp2_with fail
 refine (wordG _ r (l.take 20) 18 x7 hR6 (by rw [HL.out]; omega) (by rw [HL.out]; omega) (by rw [num_in _ _ _ _ (by omega)]; exact Hx7.out)).mono ?_
 clear hR6
 rintro e v3 ⟨rfl, hR6, hg6⟩
 replace hX6 := hX6.grown hg6 (by simp; omega)
 replace hZ6 := hZ6.grown hg6 (by simp; omega)
 replace hB6 := hB6.trans (below_of_grown hg6 hB6.size (fun k hk => by injection hk with hk; omega))
 clear hg6
 have q : v3.cell? ⟨g, 7, none⟩ = some (.int .u16 0) := hX6.cell 7
 have f := hX6.frozen 7
 go_wp2_with fail
 clear q f
 replace hX6 := hX6.set_ 7 (.int .u16 (x7 : Nat))
 simp only [List.set_cons_zero, List.set_cons_succ] at hX6
 replace hR6 := hR6.far (p := ⟨g, 7, none⟩) hlt (.int .u16 (x7 : Nat))
 replace hZ6 := hZ6.far (p := ⟨g, 7, none⟩) (by simp; omega) (.int .u16 (x7 : Nat))
 replace hB6 := hB6.setCell (p := ⟨g, 7, none⟩) (by simp; omega) (.int .u16 (x7 : Nat))
 generalize v3.setCell ⟨g, 7, none⟩ (.int .u16 (x7 : Nat)) = W3 at hX6 hR6 hZ6 hB6 ⊢
 refine (clone_any _ _ _ ((l.drop 20).take (sz - 20)) _ (((hr.cut (k := 20) (by omega)).take (k := sz - 20) (by omega)).later hB6) (by omega)).mono ?_
 rintro e wc ⟨A1, n1, c1, bsA1, dA1, rfl, rfl, ho0⟩
 have q : W3.cell? ⟨g, 8, none⟩ = some (.slice none 0 0) := hX6.cell 8
 have f := hX6.frozen 8
 have hgl0 := hX6.lt
 go_wp2_with fail
 clear q f
 replace ho0 := ho0.swap (W' := W3.setCell ⟨g, 8, none⟩ (.slice A1 n1 c1)) (d' := dA1) (Nat.le_refl _) (by simp)
 obtain ⟨B0, hB0⟩ : ∃ B0, B0 = W3.heap.size := ⟨_, rfl⟩
 rw [← hB0] at ho0 hgl0
 have hwB : w.heap.size < B0 := by omega
 clear hB0
 replace hX6 := (hX6.set_ 8 (.slice A1 n1 c1)).later (below_plus _ bsA1 dA1)
 simp only [List.set_cons_zero, List.set_cons_succ] at hX6
 replace hZ6 := (hZ6.far (p := ⟨g, 8, none⟩) (by simp; omega) (.slice A1 n1 c1)).later (below_plus _ bsA1 dA1)
 replace hB6 := belowP (hB6.setCell (p := ⟨g, 8, none⟩) (by simp; omega) (.slice A1 n1 c1)) bsA1 dA1
 clear hR6
 generalize plus (W3.setCell ⟨g, 8, none⟩ (.slice A1 n1 c1)) bsA1 dA1 = W4 at hX6 hZ6 hB6 ho0 ⊢
 refine (clone_any _ _ _ (l.drop sz) _ ((hr.cut (k := sz) (by omega)).later hB6) (by omega)).mono ?_
 rintro e wc ⟨A2, n2, c2, bsA2, dA2, rfl, rfl, ho1⟩
 have q : W4.cell? ⟨g, 9, none⟩ = some (.slice none 0 0) := hX6.cell 9
 have f := hX6.frozen 9
 have hgl1 := hX6.lt
 go_upto_region 17 with fail
 clear q f
 replace ho1 := (ho1.swap (W' := W4.setCell ⟨g, 9, none⟩ (.slice A2 n2 c2)) (d' := dA2) (Nat.le_refl _) (by simp)).mono (show w.heap.size + 1 ≤ W4.heap.size by omega)
 replace ho0 := (ho0.setCell (p := ⟨g, 9, none⟩) hgl0 (.slice A2 n2 c2)).plus_ bsA2 dA2
 replace hX6 := (hX6.set_ 9 (.slice A2 n2 c2)).later (below_plus _ bsA2 dA2)
 simp only [List.set_cons_zero, List.set_cons_succ] at hX6
 replace hZ6 := (hZ6.far (p := ⟨g, 9, none⟩) (by simp; omega) (.slice A2 n2 c2)).later (below_plus _ bsA2 dA2)
 replace hB6 := belowP (hB6.setCell (p := ⟨g, 9, none⟩) (by simp; omega) (.slice A2 n2 c2)) bsA2 dA2
 generalize plus (W4.setCell ⟨g, 9, none⟩ (.slice A2 n2 c2)) bsA2 dA2 = W5 at hX6 hZ6 hB6 ho0 ho1 ⊢
 go_wp2_with (first
  | (refine at_op (.load 49 (.tmp 5)) rfl ?_; refine wpList_ldA (t := 49) 49 (.tmp 5) rfl rfl [.int .u16 (x0 : Nat), .int .u16 (x1 : Nat), .int .u32 (x2 : Nat), .int .u32 (x3 : Nat), .int .u8 (x4 : Nat), .int .u16 (x5 : Nat), .int .u16 (x6 : Nat), .int .u16 (x7 : Nat), .slice A1 n1 c1, .slice A2 n2 c2] rfl hX6 rfl Tryz.underlying49 rfl (szSeg _ rfl) ?_)
  | (refine at_op (.store 49 (.tmp 2) (.tmp 65)) rfl ?_; refine wpList_stA (t := 49) 49 (.tmp 2) (.tmp 65) rfl rfl [.int .u16 (x0 : Nat), .int .u16 (x1 : Nat), .int .u32 (x2 : Nat), .int .u32 (x3 : Nat), .int .u8 (x4 : Nat), .int .u16 (x5 : Nat), .int .u16 (x6 : Nat), .int .u16 (x7 : Nat), .slice A1 n1 c1, .slice A2 n2 c2] [.int .u16 0, .int .u16 0, .int .u32 0, .int .u32 0, .int .u8 0, .int .u16 0, .int .u16 0, .int .u16 0, .slice none 0 0, .slice none 0 0] rfl (by simp [Value.oneCell']) rfl rfl hZ6 (szSeg _ rfl) ?_; intro w2 hb2 hg2))
 refine bodyPost_agg2 Tryz.results74 rfl rfl hb2.range Tryz.underlying49 rfl (szSeg _ rfl) rfl (RetSegF.mk (ho0.grown hg2 (fun k hk => by have := (ho0.blk k hk).1; simp; omega)) (ho1.grown hg2 (fun k hk => by have := (ho1.blk k hk).1; simp; omega)) (below_grown hB6 hg2 (Nat.le_refl _)) (by omega) (by omega))
end

section
open Go.RowKit
attribute [local go_sem ↓] sliced_cut
attribute [local go_sem] cutA_zero
theorem refTcpParse_short (A : Option Addr) (n c : Nat) (l : List UInt8) (w : World) (hr : Rb w A n c l) (hn : n < 20) : NoC #[.slice A n c] w (RetSeg w 0 0 0 0 0 0 0 0 [] [] (.int .i64 20)) := trivial
theorem refTcpParse_form1 (A : Option Addr) (n c : Nat) (l : List UInt8) (w : World) (hr : Rb w A n c l) (h20 : 20 ≤ n) (hn : n ≤ 2000000) (x0 : Nat) (x1 : Nat) (x2 : Nat) (x3 : Nat) (xf : Nat) (x4 : Nat) (x5 : Nat) (x6 : Nat) (x7 : Nat) (hx0 : num ((l.drop 0).take 2) = x0) (hx1 : num ((l.drop 2).take 2) = x1) (hx2 : num ((l.drop 4).take 4) = x2) (hx3 : num ((l.drop 8).take 4) = x3) (hxf : num ((l.drop 12).take 1) = xf) (hx4 : num ((l.drop 13).take 1) = x4) (hx5 : num ((l.drop 14).take 2) = x5) (hx6 : num ((l.drop 16).take 2) = x6) (hx7 : num ((l.drop 18).take 2) = x7) (hs : xf / 16 < 5) :
  NoC #[.slice A n c] w (RetSeg w 0 0 0 0 0 0 0 0 [] [] (.int .i64 21)) := trivial
theorem refTcpParse_form2 (A : Option Addr) (n c : Nat) (l : List UInt8) (w : World) (hr : Rb w A n c l) (h20 : 20 ≤ n) (hn : n ≤ 2000000) (x0 : Nat) (x1 : Nat) (x2 : Nat) (x3 : Nat) (xf : Nat) (x4 : Nat) (x5 : Nat) (x6 : Nat) (x7 : Nat) (hx0 : num ((l.drop 0).take 2) = x0) (hx1 : num ((l.drop 2).take 2) = x1) (hx2 : num ((l.drop 4).take 4) = x2) (hx3 : num ((l.drop 8).take 4) = x3) (hxf : num ((l.drop 12).take 1) = xf) (hx4 : num ((l.drop 13).take 1) = x4) (hx5 : num ((l.drop 14).take 2) = x5) (hx6 : num ((l.drop 16).take 2) = x6) (hx7 : num ((l.drop 18).take 2) = x7) (hs : 5 ≤ xf / 16) (hm : xf % 16 ≠ 0) :
  NoC #[.slice A n c] w (RetSeg w 0 0 0 0 0 0 0 0 [] [] (.int .i64 21)) := trivial
theorem refTcpParse_short2 (A : Option Addr) (n c : Nat) (l : List UInt8) (w : World) (hr : Rb w A n c l) (h20 : 20 ≤ n) (hn : n ≤ 2000000) (x0 : Nat) (x1 : Nat) (x2 : Nat) (x3 : Nat) (xf : Nat) (x4 : Nat) (x5 : Nat) (x6 : Nat) (x7 : Nat) (hx0 : num ((l.drop 0).take 2) = x0) (hx1 : num ((l.drop 2).take 2) = x1) (hx2 : num ((l.drop 4).take 4) = x2) (hx3 : num ((l.drop 8).take 4) = x3) (hxf : num ((l.drop 12).take 1) = xf) (hx4 : num ((l.drop 13).take 1) = x4) (hx5 : num ((l.drop 14).take 2) = x5) (hx6 : num ((l.drop 16).take 2) = x6) (hx7 : num ((l.drop 18).take 2) = x7) (hs : 5 ≤ xf / 16) (hm : xf % 16 = 0) (hz : n < 4 * (xf / 16)) :
  NoC #[.slice A n c] w (RetSeg w 0 0 0 0 0 0 0 0 [] [] (.int .i64 20)) := trivial
theorem refTcpParse_okF (A : Option Addr) (n c : Nat) (l : List UInt8) (w : World) (hr : Rb w A n c l) (h20 : 20 ≤ n) (hn : n ≤ 2000000) (x0 : Nat) (x1 : Nat) (x2 : Nat) (x3 : Nat) (xf : Nat) (x4 : Nat) (x5 : Nat) (x6 : Nat) (x7 : Nat) (hx0 : num ((l.drop 0).take 2) = x0) (hx1 : num ((l.drop 2).take 2) = x1) (hx2 : num ((l.drop 4).take 4) = x2) (hx3 : num ((l.drop 8).take 4) = x3) (hxf : num ((l.drop 12).take 1) = xf) (hx4 : num ((l.drop 13).take 1) = x4) (hx5 : num ((l.drop 14).take 2) = x5) (hx6 : num ((l.drop 16).take 2) = x6) (hx7 : num ((l.drop 18).take 2) = x7) (hs : 5 ≤ xf / 16) (hm : xf % 16 = 0) (sz : Nat) (hsz : sz = 4 * (xf / 16)) (hz : sz ≤ n) :
  NoC #[.slice A n c] w (RetSegF w x0 x1 x2 x3 x4 x5 x6 x7 ((l.drop 20).take (sz - 20)) (l.drop sz) (.int .i64 0)) := trivial
end

section
open Go.RowKit
attribute [local go_sem ↓] sliced_cut
attribute [local go_sem] cutA_zero
def RetMg (w : World) (x0 x1 x2 x3 : Nat) (l : List UInt8) (v : Value) (e : Ending) (w' : World) : Prop := ∃ A1 n1 c1 bs d, e = .returned (.tuple #[.agg (msgC x0 x1 x2 x3 A1 n1 c1).toArray, v]) ∧ w' = plus w bs d ∧ Rb (plus w bs d) A1 n1 c1 l ∧ ∀ a, A1 = some a → w.heap.size ≤ a.block
theorem RetMg.mk {w w' : World} {x0 x1 x2 x3 : Nat} {l : List UInt8} {v : Value} {A1 : Option Addr} {n1 c1 : Nat} (h : Rb w' A1 n1 c1 l) (hf : ∀ a, A1 = some a → w.heap.size ≤ a.block) (hb : Below w.heap.size w w') : RetMg w x0 x1 x2 x3 l v (.returned (.tuple #[.agg (msgC x0 x1 x2 x3 A1 n1 c1).toArray, v])) w' := by
 obtain ⟨bs, d, rfl⟩ := plus_of hb
 exact ⟨A1, n1, c1, bs, d, rfl, rfl, h, hf⟩
theorem Ob.freshM {w : World} {w0 base : Nat} {A : Option Addr} {n c : Nat} {l : List UInt8} (h : Ob w base A n c l) (hb : w0 ≤ base) : ∀ a, A = some a → w0 ≤ a.block := fun a ha => by
 subst ha
 rcases h.2.2 with ⟨hv, h0⟩ | ⟨g, cap, cur, hv, hg, hr⟩
 ·injection hv with h1; cases h1
 ·injection hv with h1; injection h1 with h1; subst h1; exact Nat.le_trans hb hg
theorem RetMg.mkO {w w' : World} {x0 x1 x2 x3 : Nat} {l : List UInt8} {v : Value} {A1 : Option Addr} {n1 c1 : Nat} (h : Ob w' w.heap.size A1 n1 c1 l) (hb : Below w.heap.size w w') : RetMg w x0 x1 x2 x3 l v (.returned (.tuple #[.agg (msgC x0 x1 x2 x3 A1 n1 c1).toArray, v])) w' := RetMg.mk h.rb (h.freshM (Nat.le_refl _)) hb
theorem icmpParseS (A : Option Addr) (n c : Nat) (l : List UInt8) (w : World) (hr : Rb w A n c l) (hn : n < 8) : Calls Tryz.prog 78 #[.slice A n c] w (RetMg w 0 0 0 0 [] (.int .i64 20)) := by
 go_enter Tryz.func78, Tryz.ntmps78
 go_wp2
 exact bodyPost_ret (v := .tuple #[.agg #[.int .u8 0, .int .u8 0, .int .u16 0, .int .u32 0, .slice none 0 0], .int .i64 20]) (by simp [results, Tryz.results78, go_sem]) rfl (RetMg.mk Rb.nil_ (fun a h => by cases h) ((Below.refl _ _).alloc (Nat.le_refl _) _))
set_option maxHeartbeats 2000000 in
theorem icmpParseX (A : Option Addr) (n c : Nat) (l : List UInt8) (w : World) (hr : Rb w A n c l) (h8 : 8 ≤ n) (hn : n ≤ 2000000) (x0 x1 x2 x3 : Nat) (hx0 : num ((l.drop 0).take 1) = x0) (hx1 : num ((l.drop 1).take 1) = x1) (hx2 : num ((l.drop 2).take 2) = x2) (hx3 : num ((l.drop 4).take 4) = x3) :
  Calls Tryz.prog 78 #[.slice A n c] w (RetMg w x0 x1 x2 x3 (l.drop 8) (.int .i64 0)) := by
 rw [List.drop_zero] at hx0
 have hc := hr.cap
 have h8i : (8 : Int) ≤ (n : Int) := by omega
 go_enter Tryz.func78, Tryz.ntmps78
 go_wp2_with fail
 refine (read_any _ _ _ (l.take 8) _ ((hr.take h8).alloc _) (by omega)).mono ?_
 rintro e w1 ⟨r, bs1, d1, rfl, rfl, hr1, hR1⟩
 have hl8 : (l.take 8).length = 8 := by rw [List.length_take, hr.1]; omega
 have HL := Lib.hid hl8
 clear hl8
 go_wp2_with fail
 refine (byteP _ _ _ r _ false hR1 hr1 (by rw [HL.out]; omega) (by rw [HL.out]; omega)).mono ?_
 rintro e w1 ⟨bs2, d2, rfl, rfl, hR2, -⟩
 go_wp2_with fail
 refine (byteP _ _ _ r _ false hR2 hr1 (by rw [List.length_drop, HL.out]; omega) (by rw [List.length_drop, HL.out]; omega)).mono ?_
 rintro e w1 ⟨bs3, d3, rfl, rfl, hR3, -⟩
 go_wp2_with fail
 refine (wordP _ _ _ r _ false hR3 hr1 (by simp only [List.length_drop, HL.out]; omega) (by simp only [List.length_drop, HL.out]; omega)).mono ?_
 rintro e w1 ⟨bs4, d4, rfl, rfl, hR4, -⟩
 go_wp2_with fail
 refine (longP _ _ _ r _ false hR4 hr1 (by simp only [List.length_drop, HL.out]; omega) (by simp only [List.length_drop, HL.out]; omega)).mono ?_
 rintro e w1 ⟨bs5, d5, rfl, rfl, -, -⟩
 go_wp2_with fail
 refine (clone_any _ _ _ (l.drop 8) _ (((hr.cut h8).alloc _).plus_ _ _ |>.alloc _) (by omega)).mono ?_
 rintro e w1 ⟨A1, n1, c1, bs6, d6, rfl, rfl, ho6⟩
 go_wp2
 refine bodyPost_ret (v := .tuple #[.agg (msgC (num (l.take 1)) (num ((l.drop 1).take 1)) (num ((l.drop 2).take 2)) (num ((l.drop 4).take 4)) A1 n1 c1).toArray, .int .i64 0])
  (by simp [msgC, results, Tryz.results78, go_sem, List.drop_take, List.take_take, ← List.drop_one]) rfl ?_
 rw [hx0, hx1, hx2, hx3]
 refine RetMg.mkO ?_ ?_
 ·exact (ho6.swap (Nat.le_refl _) (by simp [size_plus])).mono (by simp [size_plus]; omega)
 ·exact toPlus ((toPlus ((Below.refl _ _).alloc (Nat.le_refl _) _) (by simp) _ _).alloc (by simp [size_plus]; omega) _) (by simp [size_plus]; omega) _ _
theorem refIcmpS (A : Option Addr) (n c : Nat) (l : List UInt8) (w : World) (hr : Rb w A n c l) (hn : n < 8) : NoC #[.slice A n c] w (RetMg w 0 0 0 0 [] (.bool false)) := trivial
theorem refIcmpX (A : Option Addr) (n c : Nat) (l : List UInt8) (w : World) (hr : Rb w A n c l) (h8 : 8 ≤ n) (hn : n ≤ 2000000) (x0 x1 x2 x3 : Nat) (hx0 : num ((l.drop 0).take 1) = x0) (hx1 : num ((l.drop 1).take 1) = x1) (hx2 : num ((l.drop 2).take 2) = x2) (hx3 : num ((l.drop 4).take 4) = x3) :
  NoC #[.slice A n c] w (RetMg w x0 x1 x2 x3 (l.drop 8) (.bool true)) := trivial
end

section
open Go.RowKit
attribute [local go_sem ↓] sliced_cut
attribute [local go_sem] cutA_zero
def setB (l : List UInt8) (k : Nat) (r : List UInt8) : List UInt8 := l.take k ++ r ++ l.drop (k + r.length)
theorem setB_length (l : List UInt8) (k : Nat) (r : List UInt8) (h : k + r.length ≤ l.length) : (setB l k r).length = l.length := by
 simp [setB]; omega
theorem setB_cells (l : List UInt8) (k : Nat) (r : List UInt8) : splice (bcs l) k (bcs r) = bcs (setB l k r) := by
 simp [splice, setB, bcs_append, bcs_take, bcs_drop, bcs_length]
def RetOE (w : World) (l : List UInt8) (E : Int) (e : Ending) (w' : World) : Prop := ∃ A n c bs d, e = .returned (.tuple #[.slice A n c, .int .i64 E]) ∧ w' = plus w bs d ∧ Ob (plus w bs d) w.heap.size A n c l
theorem RetOE.mk {w w' : World} {l : List UInt8} {E : Int} {A : Option Addr} {n c : Nat} (h : Ob w' w.heap.size A n c l) (hb : Below w.heap.size w w') : RetOE w l E (.returned (.tuple #[.slice A n c, .int .i64 E])) w' := by
 obtain ⟨bs, d, rfl⟩ := plus_of hb
 exact ⟨A, n, c, bs, d, rfl, rfl, h⟩
theorem over_full (l : List UInt8) (n : Nat) (h : l.length = n) : splice (List.replicate n (.int .u8 0)) 0 (bcs l) = bcs l := by
 subst h
 simp [splice, bcs_length]
set_option maxHeartbeats 4000000
set_option maxRecDepth 100000
theorem octSet (A : Option Addr) (n c : Nat) (l : List UInt8) (k v size : Nat) (w : World) (h : Rb w A n c l) (hk : k + size ≤ n) (hs0 : 1 ≤ size) (hs : size ≤ 8) (hv : v < 18446744073709551616) (hm : n ≤ 549755813888) :
  Calls Tryz.prog 93 #[.slice A n c, .int .i64 (k : Int), .int .u64 (v : Int), .int .i64 (size : Int)] w (RetOE w (setB l k (dig v size)) 0) := by
 have d1 : decide (size < 1) = false := by simp; omega
 have d2 : decide (8 < size) = false := by simp; omega
 have d4 : decide (n < size) = false := by simp; omega
 have d5 : decide ((n : Int) - (size : Int) < (k : Int)) = false := by simp; omega
 have hl := h.1
 have hkn : k ≠ n := by omega
 go_enter Tryz.func93, Tryz.ntmps93
 go_wp2_with (first
  | (at_make; refine wpList_mk bt rfl (.tmp 36) rfl _ n rfl rfl (by omega) ?_; intro w1 hb1 hbe1 hs1)
  | (refine at_op (.call { callee := .builtin .copy, args := #[.tmp 38, .tmp 39], argTypes := #[37, 37] }) rfl ?_; refine wpList_cpy 40 rfl bt rfl (.tmp 38) (.tmp 39) rfl rfl rfl w.heap.size 0 _ hb1 (.inr rfl) l (h.later hbe1) (by omega) (by simp) w.heap.size w hbe1 (Nat.le_refl _) ?_; intro w2 hb2 hbe2))
 rw [over_full l n hl] at hb2
 refine wp_rel 6 49 rfl (by kernel_rfl) (by kernel_rfl) (fun i => match i with | 0 => MP.eq (.slice (some ⟨w.heap.size, 0, none⟩) n n) | 1 => MP.eq (.int .i64 (k : Int)) | 2 => MP.eq (.slice (cutA (some ⟨w.heap.size, 0, none⟩) n k 1) (n - k) (n - k)) | 3 => MP.eq (.int .u64 (v : Int)) | 4 => MP.eq (.int .i64 (size : Int)) | 5 => MP.rb (dig v size) | _ => MP.any) ?_ ?_
 ·intro i hi o ho FA x hO hD K hK
  match i, hi, ho, hO, hD, hK with
  | 0, _, ho, hO, hD, hK => 
   obtain rfl := qoi ho
   have ev10 : FA.eval (.tmp 10) = .slice (some ⟨w.heap.size, 0, none⟩) n n := hO 10 (by kernel_rfl)
   have e10 : FA.tmps[10]?.getD undef = .slice (some ⟨w.heap.size, 0, none⟩) n n := by simpa [Act.eval] using ev10
   replace ev10 := Lib.hid ev10
   clear hO hD ho
   go_simp
   exact hK.out _ _ (Ex.refl _) rfl
  | 1, _, ho, hO, hD, hK => 
   obtain rfl := qoi ho
   have ev1 : FA.eval (.tmp 1) = .int .i64 (k : Int) := hO 1 (by kernel_rfl)
   have e1 : FA.tmps[1]?.getD undef = .int .i64 (k : Int) := by simpa [Act.eval] using ev1
   replace ev1 := Lib.hid ev1
   clear hO hD ho
   go_simp
   exact hK.out _ _ (Ex.refl _) rfl
  | 2, _, ho, hO, hD, hK => 
   obtain rfl := qoi ho
   have ev41 : FA.eval (.tmp 41) = .slice (some ⟨w.heap.size, 0, none⟩) n n := hD 0 41 (by kernel_rfl)
   have e41 : FA.tmps[41]?.getD undef = .slice (some ⟨w.heap.size, 0, none⟩) n n := by simpa [Act.eval] using ev41
   replace ev41 := Lib.hid ev41
   have ev42 : FA.eval (.tmp 42) = .int .i64 (k : Int) := hD 1 42 (by kernel_rfl)
   have e42 : FA.tmps[42]?.getD undef = .int .i64 (k : Int) := by simpa [Act.eval] using ev42
   replace ev42 := Lib.hid ev42
   clear hO hD ho
   have hk2 : k ≤ n := by omega
   go_simp
   exact hK.out _ _ (Ex.refl _) rfl
  | 3, _, ho, hO, hD, hK => 
   obtain rfl := qoi ho
   have ev2 : FA.eval (.tmp 2) = .int .u64 (v : Int) := hO 2 (by kernel_rfl)
   have e2 : FA.tmps[2]?.getD undef = .int .u64 (v : Int) := by simpa [Act.eval] using ev2
   replace ev2 := Lib.hid ev2
   clear hO hD ho
   go_simp
   exact hK.out _ _ (Ex.refl _) rfl
  | 4, _, ho, hO, hD, hK => 
   obtain rfl := qoi ho
   have ev3 : FA.eval (.tmp 3) = .int .i64 (size : Int) := hO 3 (by kernel_rfl)
   have e3 : FA.tmps[3]?.getD undef = .int .i64 (size : Int) := by simpa [Act.eval] using ev3
   replace ev3 := Lib.hid ev3
   clear hO hD ho
   go_simp
   exact hK.out _ _ (Ex.refl _) rfl
  | 5, _, ho, hO, hD, hK => 
   obtain rfl := qoi ho
   have ev44 : FA.eval (.tmp 44) = .int .u64 (v : Int) := hD 3 44 (by kernel_rfl)
   have e44 : FA.tmps[44]?.getD undef = .int .u64 (v : Int) := by simpa [Act.eval] using ev44
   replace ev44 := Lib.hid ev44
   have ev45 : FA.eval (.tmp 45) = .int .i64 (size : Int) := hD 4 45 (by kernel_rfl)
   have e45 : FA.tmps[45]?.getD undef = .int .i64 (size : Int) := by simpa [Act.eval] using ev45
   replace ev45 := Lib.hid ev45
   clear hO hD ho
   go_simp
   refine (put_any none 0 0 [] v size _ Rb.nil_ (by omega) hv hs0 hs).mono ?_
   rintro e w3 ⟨A3, n3, c3, bs3, d3, rfl, rfl, ho3⟩
   exact hK.out _ _ (Ex.plus_ _ _ _) ⟨_, _, _, rfl, ho3.rb⟩
  | (k + 6), hi, _, _, _, _ => exact absurd hi (by omega)
 intro vs x hp
 have p0 : vs 0 = .slice (some ⟨w.heap.size, 0, none⟩) n n := hp 0 (by omega)
 have p1 : vs 1 = .int .i64 (k : Int) := hp 1 (by omega)
 have p2 : vs 2 = .slice (cutA (some ⟨w.heap.size, 0, none⟩) n k 1) (n - k) (n - k) := hp 2 (by omega)
 have p3 : vs 3 = .int .u64 (v : Int) := hp 3 (by omega)
 have p4 : vs 4 = .int .i64 (size : Int) := hp 4 (by omega)
 have p5 := hp 5 (by omega)
 clear hp
 simp only [List.take_succ_cons, List.take_zero, List.drop_succ_cons, List.drop_zero, putAll, Nat.zero_add, Nat.reduceAdd, Act.put, qsT, qsZ, qsS, p0, p1, p2, p3, p4]
 clear p0 p1 p2 p3 p4
 generalize vs 5 = y5 at *
 clear vs
 obtain ⟨A3, n3, c3, rfl, h3⟩ := p5
 obtain rfl : n3 = size := by rw [← h3.1, dig_length]
 have hb3 := hb2.later (below_plus _ x.bs x.d)
 have hbe3 := belowP hbe2 x.bs x.d
 generalize plus w2 x.bs x.d = w3 at *
 go_wp2_with (refine at_op (.call { callee := .builtin .copy, args := #[.tmp 43, .tmp 46], argTypes := #[37, 37] }) rfl ?_; refine wpList_cpy 47 rfl bt rfl (.tmp 43) (.tmp 46) rfl rfl rfl w.heap.size k _ hb3 (.inr (by rw [cutA_some _ _ _ _ (by omega)]; simp)) (dig v n3) h3 (by omega) (by rw [bcs_length]; omega) w.heap.size w hbe3 (Nat.le_refl _) ?_; intro w4 hb4 hbe4)
 go_ret2
 rw [setB_cells] at hb4
 exact RetOE.mk (Ob.of_bk hb4 (Nat.le_refl _) (by rw [setB_length _ _ _ (by rw [dig_length]; omega)]; exact hl) (by simp [maxLen]; omega)) hbe4
theorem bcs_set (l : List UInt8) (i : Nat) (b : UInt8) : (bcs l).set i (.int .u8 (b.toNat : Int)) = bcs (l.set i b) := by simp [bcs, List.map_set]
theorem setB_step (l r : List UInt8) (k j : Nat) (hj : j < r.length) (hk : k + r.length ≤ l.length) : (setB l k (r.take j)).set (k + j) r[j] = setB l k (r.take (j + 1)) := by
 have h1 : (l.take k).length = k := by rw [List.length_take]; omega
 have h2 : (r.take j).length = j := by rw [List.length_take]; omega
 have h3 : (r.take (j + 1)).length = j + 1 := by rw [List.length_take]; omega
 unfold setB
 rw [h2, h3, List.set_append_right _ _ (by rw [List.length_append, h1, h2]; omega), List.length_append, h1, h2, Nat.sub_self, List.drop_eq_getElem_cons (by omega), List.set_cons_zero, List.take_succ_eq_append_getElem hj]
 simp only [List.append_assoc, List.cons_append, List.nil_append, Nat.add_assoc]
theorem refSet (A : Option Addr) (n c : Nat) (l : List UInt8) (k : Nat) (A2 : Option Addr) (n2 c2 : Nat) (r : List UInt8) (w : World) (h : Rb w A n c l) (h2 : Rb w A2 n2 c2 r) (hk : k + n2 ≤ n) (hn : 0 < n) (hm : n ≤ 549755813888) :
  Calls Tryz.prog 98 #[.slice A n c, .int .i64 (k : Int), .slice A2 n2 c2] w (RetB w (setB l k r)) := by
 have hl := Lib.hid h.1
 have hr := Lib.hid h2.1
 go_enter Tryz.func98, Tryz.ntmps98
 go_upto_block 0 with (at_builtin; refine wpList_app0 bt rfl (.tmp 9) (.tmp 10) rfl rfl rfl rfl h (by omega) ?_; intro A1 n1 c1 bs1 d1 ho1)
 obtain rfl : n1 = n := by rw [← ho1.1, hl.out]
 obtain ⟨g, cap, hv, hgb, hgl⟩ := ho1.2.form hn
 injection hv with e1 e2 e3
 subst e1 e3
 have hbe1 : Below w.heap.size w (plus w bs1 d1) := below_plus _ _ _
 generalize plus w bs1 d1 = W at *
 go_wp2
 go_loopw [8] (fun i wr => ∃ j : Nat, j ≤ n2 ∧ i = .int .i64 j ∧ Ob wr w.heap.size (some ⟨g, 0, none⟩) n1 c1 (setB l k (r.take j)) ∧ Below w.heap.size w wr) (fun i _ => n2 - (intOf i).toNat)
 case atStart => exact ⟨0, by omega, rfl, by simpa [setB] using ho1, hbe1⟩
 case round =>
  clear ho1 hbe1
  obtain ⟨j, hj, rfl, ho, hb⟩ := hrel
  by_cases hlt : j < n2
  ·obtain ⟨b, off, rfl, hbl, hcell⟩ := h2.2.2.at_ (by rw [bcs_length, hr.out]; omega)
   have hjr : j < r.length := by rw [hr.out]; exact hlt
   have q1 : wr.cell? ⟨b, off + j, none⟩ = some (.int .u8 (r[j].toNat : Int)) := by
    rw [hb.cell (p := ⟨b, off + j, none⟩) hbl]
    exact hcell j _ (bcs_get r j hjr)
   have q2 : wr.cell? ⟨g, k + j, none⟩ = some (.int .u8 ((setB l k (r.take j))[k + j]'(by rw [setB_length _ _ _ (by simp [hl.out]; omega), hl.out]; omega)).toNat) := by
    rw [ho.2.cellAt (k + j) (by omega), bcs_get]
   have q3 := ho.2.frozenAt (k + j)
   have zg := lt_of_cell q2
   have HS := Lib.hid (setB_step l r k j hjr (by rw [hl.out, hr.out]; omega))
   clear hcell
   generalize (setB l k (r.take j))[k + j]'(_) = old at *
   go_wp2
   go_roundw
   case rel =>
    refine ⟨j + 1, by omega, by go_num, ?_, hb.setCell (p := ⟨g, k + j, none⟩) hgb _⟩
    have h5 := (ho.2.stored (k + j) (.int .u8 (r[j].toNat : Int))).1
    rw [bcs_set, HS.out] at h5
    exact ⟨by rw [setB_length _ _ _ (by simp [hl.out]; omega)]; exact hl.out, h5⟩
   case measure => simp [intOf]; omega
  ·obtain rfl : j = n2 := by omega
   go_wp2
   go_ret
   rw [List.take_of_length_le (by rw [hr.out]; omega)] at ho
   exact RetB.mk ho hb
end

section
open Go.RowKit
attribute [local go_sem ↓] sliced_cut
attribute [local go_sem] cutA_zero
def h4C (ts : Nat) (ln : Int) (id : Nat) (st mo : Bool) (fo : Int) (tl pr sm : Nat) (s6 : Bool) (sh sl : Nat) (d6 : Bool) (dh dl : Nat) (A : Option Addr) (n k : Nat) : List Value := [.int .u8 (ts : Int), .int .i64 ln, .int .u16 (id : Int), .bool st, .bool mo, .int .i64 fo, .int .u8 (tl : Int), .int .u8 (pr : Int), .int .u16 (sm : Int), .bool s6, .int .u64 (sh : Int), .int .u64 (sl : Int), .bool d6, .int .u64 (dh : Int), .int .u64 (dl : Int), .slice A n k]
theorem h4C_one (ts : Nat) (ln : Int) (id : Nat) (st mo : Bool) (fo : Int) (tl pr sm : Nat) (s6 : Bool) (sh sl : Nat) (d6 : Bool) (dh dl : Nat) (A : Option Addr) (n k : Nat) : ∀ u ∈ h4C ts ln id st mo fo tl pr sm s6 sh sl d6 dh dl A n k, u.oneCell' = true := by
 intro u hu
 simp only [h4C, List.mem_cons, List.not_mem_nil, or_false] at hu
 rcases hu with rfl | rfl | rfl | rfl | rfl | rfl | rfl | rfl | rfl | rfl | rfl | rfl | rfl | rfl | rfl | rfl <;> rfl
theorem szH4 (ts : Nat) (ln : Int) (id : Nat) (st mo : Bool) (fo : Int) (tl pr sm : Nat) (s6 : Bool) (sh sl : Nat) (d6 : Bool) (dh dl : Nat) (A : Option Addr) (n k : Nat) : (Tryz.prog.info? 99).map (·.size) = some (h4C ts ln id st mo fo tl pr sm s6 sh sl d6 dh dl A n k).length := by kernel_rfl
theorem rowH4 : ∃ d, Tryz.prog.underlying 99 = some d ∧ d.isRow = true := ⟨_, Tryz.underlying99, rfl⟩
theorem szR4 (ts : Nat) (ln : Int) (id : Nat) (st mo : Bool) (fo : Int) (tl pr sm : Nat) (s6 : Bool) (sh sl : Nat) (d6 : Bool) (dh dl : Nat) (A : Option Addr) (n k : Nat) : (Tryz.prog.info? 122).map (·.size) = some (h4C ts ln id st mo fo tl pr sm s6 sh sl d6 dh dl A n k).length := by kernel_rfl
theorem rowR4 : ∃ d, Tryz.prog.underlying 122 = some d ∧ d.isRow = true := ⟨_, Tryz.underlying122, rfl⟩
def ad4 (six : Bool) (h l : Nat) : Bool := !six && (decide (h = 0) && decide (l < 4294967296))
set_option maxRecDepth 100000 in
theorem adrRightF (h l : Nat) (w : World) (h1 : h < 18446744073709551616) (h2 : l < 18446744073709551616) : Calls Tryz.prog 100 #[.agg #[.bool false, .int .u64 (h : Int), .int .u64 (l : Int)]] w (RetV w (.bool (ad4 false h l))) := by
 by_cases c1 : h = 0
 ·subst c1
  by_cases c2 : l < 4294967296
  ·have t1 : decide (l < 4294967296) = true := by simp; omega
   have hz : Hid (ad4 false 0 l = true) := Lib.hid (by simp [ad4]; omega)
   go_enter Tryz.func100, Tryz.ntmps100
   go_wp2
   go_ret
   exact RetV.is_ (by rw [hz.out]; simp; try omega) (Below.allocS (Below.refl _ _) _)
  ·have t1 : decide (l < 4294967296) = false := by simp; omega
   have hz : Hid (ad4 false 0 l = false) := Lib.hid (by simp [ad4]; omega)
   go_enter Tryz.func100, Tryz.ntmps100
   go_wp2
   go_ret
   exact RetV.is_ (by rw [hz.out]; simp; try omega) (Below.allocS (Below.refl _ _) _)
 ·have t1 : ((h : Int) == 0) = false := by rw [beq_eq_false_iff_ne]; omega
  have hz : Hid (ad4 false h l = false) := Lib.hid (by simp [ad4, c1])
  clear c1
  go_enter Tryz.func100, Tryz.ntmps100
  go_wp2
  go_ret
  exact RetV.is_ (by rw [hz.out]; simp; try omega) (Below.allocS (Below.refl _ _) _)
set_option maxRecDepth 100000 in
theorem refAdrRightF (h l : Nat) (w : World) (h1 : h < 18446744073709551616) (h2 : l < 18446744073709551616) : Calls Tryz.prog 16 #[.agg #[.bool false, .int .u64 (h : Int), .int .u64 (l : Int)]] w (RetV w (.bool (ad4 false h l))) := by
 by_cases c1 : h = 0
 ·subst c1
  by_cases c2 : l < 4294967296
  ·have t1 : decide (l ≤ 4294967295) = true := by simp; omega
   have hz : Hid (ad4 false 0 l = true) := Lib.hid (by simp [ad4]; omega)
   go_enter Tryz.func16, Tryz.ntmps16
   go_wp2
   go_ret
   exact RetV.is_ (by rw [hz.out]; simp; try omega) (Below.allocS (Below.refl _ _) _)
  ·have t1 : decide (l ≤ 4294967295) = false := by simp; omega
   have hz : Hid (ad4 false 0 l = false) := Lib.hid (by simp [ad4]; omega)
   go_enter Tryz.func16, Tryz.ntmps16
   go_wp2
   go_ret
   exact RetV.is_ (by rw [hz.out]; simp; try omega) (Below.allocS (Below.refl _ _) _)
 ·have t1 : ((h : Int) == 0) = false := by rw [beq_eq_false_iff_ne]; omega
  have hz : Hid (ad4 false h l = false) := Lib.hid (by simp [ad4, c1])
  clear c1
  go_enter Tryz.func16, Tryz.ntmps16
  go_wp2
  go_ret
  exact RetV.is_ (by rw [hz.out]; simp; try omega) (Below.allocS (Below.refl _ _) _)
theorem valid4 (six : Bool) (h l : Nat) (w : World) (h1 : h < 18446744073709551616) (h2 : l < 18446744073709551616) : Calls Tryz.prog 92 #[.agg (adC six h l).toArray] w (RetV w (.bool (ad4 six h l))) := by
 have HA := Lib.hid (fun w => adrRightF h l w h1 h2)
 unfold adC
 cases six
 ·generalize ad4 false h l = q at *
  go_enter Tryz.func92, Tryz.ntmps92
  go_wp2_with (go_at_call 100; refine (HA.out _).mono ?_; rintro e w1 ⟨bs1, d1, rfl, rfl⟩)
  go_ret
  exact RetV.is_ rfl (belowP (Below.allocS (Below.refl _ _) _) _ _)
 ·go_enter Tryz.func92, Tryz.ntmps92
  go_wp2
  go_ret
  exact RetV.is_ rfl (Below.allocS (Below.refl _ _) _)
set_option maxRecDepth 100000 in
theorem size4 (ts : Nat) (ln : Int) (id : Nat) (st mo : Bool) (fo : Int) (tl pr sm : Nat) (s6 : Bool) (sh sl : Nat) (d6 : Bool) (dh dl : Nat) (A : Option Addr) (n k : Nat) (w : World) (hn : n ≤ 2000000) : Calls Tryz.prog 65 #[.agg (h4C ts ln id st mo fo tl pr sm s6 sh sl d6 dh dl A n k).toArray] w (RetV w (.int .i64 ((20 + n : Nat) : Int))) := by
 unfold h4C
 go_enter Tryz.func65, Tryz.ntmps65
 go_wp2
 go_ret
 exact RetV.is_ (by simp) (Below.allocS (Below.refl _ _) _)
def r4 (n : Nat) (ln fo : Int) (s6 : Bool) (sh sl : Nat) (d6 : Bool) (dh dl : Nat) : Bool := decide (n ≤ 40) && (decide (n % 4 = 0) && (decide (20 + (n : Int) ≤ ln) && (decide (ln ≤ 65535) && (decide (0 ≤ fo) && (decide (fo ≤ 8191) && (ad4 s6 sh sl && ad4 d6 dh dl))))))
set_option maxHeartbeats 4000000 in
set_option maxRecDepth 100000 in
theorem right4 (ts : Nat) (ln : Int) (id : Nat) (st mo : Bool) (fo : Int) (tl pr sm : Nat) (s6 : Bool) (sh sl : Nat) (d6 : Bool) (dh dl : Nat) (A : Option Addr) (n k : Nat) (w : World) (hn : n ≤ 2000000) (hi : -9223372036854775808 ≤ ln ∧ ln ≤ 9223372036854775807) (hf : -9223372036854775808 ≤ fo ∧ fo ≤ 9223372036854775807) (k1 : sh < 18446744073709551616) (k2 : sl < 18446744073709551616) (k3 : dh < 18446744073709551616) (k4 : dl < 18446744073709551616) : Calls Tryz.prog 66 #[.agg (h4C ts ln id st mo fo tl pr sm s6 sh sl d6 dh dl A n k).toArray] w (RetV w (.bool (r4 n ln fo s6 sh sl d6 dh dl))) := by
 obtain ⟨du, u1, u2⟩ := rowH4
 obtain ⟨dv, v1, v2⟩ := rowAd
 have HS := Lib.hid (fun w => size4 ts ln id st mo fo tl pr sm s6 sh sl d6 dh dl A n k w hn)
 have HV1 := Lib.hid (fun w => valid4 s6 sh sl w k1 k2)
 have HV2 := Lib.hid (fun w => valid4 d6 dh dl w k3 k4)
 obtain ⟨z, hz0⟩ : ∃ z : Nat, z = 20 + n := ⟨_, rfl⟩
 rw [← hz0] at HS
 have hb : Bk (w.alloc (.cells (h4C ts ln id st mo fo tl pr sm s6 sh sl d6 dh dl A n k).toArray 99)) w.heap.size 99 (h4C ts ln id st mo fo tl pr sm s6 sh sl d6 dh dl A n k) := Bk.new w 99 (h4C ts ln id st mo fo tl pr sm s6 sh sl d6 dh dl A n k).toArray
 have q1 : (w.alloc (.cells (h4C ts ln id st mo fo tl pr sm s6 sh sl d6 dh dl A n k).toArray 99)).cell? ⟨w.heap.size, 1, none⟩ = some (.int .i64 ln) := hb.cell 1
 have q5 : (w.alloc (.cells (h4C ts ln id st mo fo tl pr sm s6 sh sl d6 dh dl A n k).toArray 99)).cell? ⟨w.heap.size, 5, none⟩ = some (.int .i64 fo) := hb.cell 5
 have q15 : (w.alloc (.cells (h4C ts ln id st mo fo tl pr sm s6 sh sl d6 dh dl A n k).toArray 99)).cell? ⟨w.heap.size, 15, none⟩ = some (.slice A n k) := hb.cell 15
 go_enter Tryz.func66, Tryz.ntmps66
 by_cases c0 : n ≤ 40
 ·skip
  have t00 := Lib.hid (show decide (n ≤ 40) = true from by simp only [decide_eq_true_eq, decide_eq_false_iff_not]; omega)
  have t01 := Lib.hid (show decide (40 < n) = false from by simp only [decide_eq_true_eq, decide_eq_false_iff_not]; omega)
  have t02 := Lib.hid (show decide ((n : Int) ≤ 40) = true from by simp only [decide_eq_true_eq, decide_eq_false_iff_not]; omega)
  have t03 := Lib.hid (show decide (40 < (n : Int)) = false from by simp only [decide_eq_true_eq, decide_eq_false_iff_not]; omega)
  by_cases c1 : n % 4 = 0
  ·skip
   have t10 := Lib.hid (show ((n : Int) % 4 == 0) = true from by rw [beq_iff_eq]; omega)
   by_cases c2 : 20 + (n : Int) ≤ ln
   ·skip
    have t20 := Lib.hid (show decide (20 + (n : Int) ≤ ln) = true from by simp only [decide_eq_true_eq, decide_eq_false_iff_not]; omega)
    have t21 := Lib.hid (show decide (ln < 20 + (n : Int)) = false from by simp only [decide_eq_true_eq, decide_eq_false_iff_not]; omega)
    have t22 := Lib.hid (show decide ((z : Int) ≤ ln) = true from by simp only [decide_eq_true_eq, decide_eq_false_iff_not]; omega)
    by_cases c3 : ln ≤ 65535
    ·skip
     have t30 := Lib.hid (show decide (ln ≤ 65535) = true from by simp only [decide_eq_true_eq, decide_eq_false_iff_not]; omega)
     have t31 := Lib.hid (show decide (65535 < ln) = false from by simp only [decide_eq_true_eq, decide_eq_false_iff_not]; omega)
     by_cases c4 : 0 ≤ fo
     ·skip
      have t40 := Lib.hid (show decide (0 ≤ fo) = true from by simp only [decide_eq_true_eq, decide_eq_false_iff_not]; omega)
      have t41 := Lib.hid (show decide (fo < 0) = false from by simp only [decide_eq_true_eq, decide_eq_false_iff_not]; omega)
      by_cases c5 : fo ≤ 8191
      ·skip
       have t50 := Lib.hid (show decide (fo ≤ 8191) = true from by simp only [decide_eq_true_eq, decide_eq_false_iff_not]; omega)
       have t51 := Lib.hid (show decide (8191 < fo) = false from by simp only [decide_eq_true_eq, decide_eq_false_iff_not]; omega)
       have hz : Hid (r4 n ln fo s6 sh sl d6 dh dl = (ad4 s6 sh sl && ad4 d6 dh dl)) := Lib.hid (by unfold r4; simp only [c0, c1, c2, c3, c4, c5, decide_true, decide_false, Bool.true_and, Bool.false_and, Bool.and_false])
       clear c0 c1 c2 c3 c4 c5
       replace t00 := t00.out
       replace t01 := t01.out
       replace t02 := t02.out
       replace t03 := t03.out
       replace t10 := t10.out
       replace t20 := t20.out
       replace t21 := t21.out
       replace t22 := t22.out
       replace t30 := t30.out
       replace t31 := t31.out
       replace t40 := t40.out
       replace t41 := t41.out
       replace t50 := t50.out
       replace t51 := t51.out
       cases hq : ad4 s6 sh sl
       ·rw [hq] at HV1 hz
        go_wp2
        refine wp_plus (by kernel_rfl) (by kernel_rfl) ?_
        repeat (first
         | (go_big_quiet_want; refine at_opQ (.load 99 (.tmp 1)) rfl ?_; refine quiet_ldA (t := 99) 99 (.tmp 1) rfl (h4C ts ln id st mo fo tl pr sm s6 sh sl d6 dh dl A n k) rfl (fun w' hw' => by obtain ⟨x, rfl⟩ := hw'; exact hb.later (below_plus _ _ _)) (whole_ _) u1 u2 (szH4 _ _ _ _ _ _ _ _ _ _ _ _ _ _ _ _ _ _) ?_; simp only [Act.put, qsT, qsZ, qsS]; go_big_quiet_on)
         | (go_big_quiet_want; refine at_opQ (.load 24 (.tmp 37)) rfl ?_; refine quiet_ldA (t := 99) 24 (.tmp 37) rfl (adC s6 sh sl) rfl (fun w' hw' => by obtain ⟨x, rfl⟩ := hw'; exact hb.later (below_plus _ _ _)) (rfl) v1 v2 (szAd _ _ _) ?_; simp only [Act.put, qsT, qsZ, qsS]; go_big_quiet_on)
         | (go_big_quiet_want; refine at_opQ (.load 24 (.tmp 42)) rfl ?_; refine quiet_ldA (t := 99) 24 (.tmp 42) rfl (adC d6 dh dl) rfl (fun w' hw' => by obtain ⟨x, rfl⟩ := hw'; exact hb.later (below_plus _ _ _)) (rfl) v1 v2 (szAd _ _ _) ?_; simp only [Act.put, qsT, qsZ, qsS]; go_big_quiet_on)
         | go_big_quiet_step (first
          | (go_at_call 65; exact callP (HS.out _))
          | (go_at_call 92; first | with_reducible exact callP (HV1.out _) | with_reducible exact callP (HV2.out _))))
        refine wpQuiet_nil ?_
        rintro _ ⟨x, rfl⟩
        go_wp2
        go_ret
        exact RetV.is_ (by rw [hz.out]; simp) (belowP (Below.allocS (Below.refl _ _) _) _ _)
       ·rw [hq] at HV1 hz
        go_wp2
        refine wp_plus (by kernel_rfl) (by kernel_rfl) ?_
        repeat (first
         | (go_big_quiet_want; refine at_opQ (.load 99 (.tmp 1)) rfl ?_; refine quiet_ldA (t := 99) 99 (.tmp 1) rfl (h4C ts ln id st mo fo tl pr sm s6 sh sl d6 dh dl A n k) rfl (fun w' hw' => by obtain ⟨x, rfl⟩ := hw'; exact hb.later (below_plus _ _ _)) (whole_ _) u1 u2 (szH4 _ _ _ _ _ _ _ _ _ _ _ _ _ _ _ _ _ _) ?_; simp only [Act.put, qsT, qsZ, qsS]; go_big_quiet_on)
         | (go_big_quiet_want; refine at_opQ (.load 24 (.tmp 37)) rfl ?_; refine quiet_ldA (t := 99) 24 (.tmp 37) rfl (adC s6 sh sl) rfl (fun w' hw' => by obtain ⟨x, rfl⟩ := hw'; exact hb.later (below_plus _ _ _)) (rfl) v1 v2 (szAd _ _ _) ?_; simp only [Act.put, qsT, qsZ, qsS]; go_big_quiet_on)
         | (go_big_quiet_want; refine at_opQ (.load 24 (.tmp 42)) rfl ?_; refine quiet_ldA (t := 99) 24 (.tmp 42) rfl (adC d6 dh dl) rfl (fun w' hw' => by obtain ⟨x, rfl⟩ := hw'; exact hb.later (below_plus _ _ _)) (rfl) v1 v2 (szAd _ _ _) ?_; simp only [Act.put, qsT, qsZ, qsS]; go_big_quiet_on)
         | go_big_quiet_step (first
          | (go_at_call 65; exact callP (HS.out _))
          | (go_at_call 92; first | with_reducible exact callP (HV1.out _) | with_reducible exact callP (HV2.out _))))
        refine wpQuiet_nil ?_
        rintro _ ⟨x, rfl⟩
        go_wp2
        go_ret
        exact RetV.is_ (by rw [hz.out]; simp) (belowP (Below.allocS (Below.refl _ _) _) _ _)
      ·skip
       have t50 := Lib.hid (show decide (fo ≤ 8191) = false from by simp only [decide_eq_true_eq, decide_eq_false_iff_not]; omega)
       have t51 := Lib.hid (show decide (8191 < fo) = true from by simp only [decide_eq_true_eq, decide_eq_false_iff_not]; omega)
       have hz : Hid (r4 n ln fo s6 sh sl d6 dh dl = (false)) := Lib.hid (by unfold r4; simp only [c0, c1, c2, c3, c4, c5, decide_true, decide_false, Bool.true_and, Bool.false_and, Bool.and_false])
       clear c0 c1 c2 c3 c4 c5
       replace t00 := t00.out
       replace t01 := t01.out
       replace t02 := t02.out
       replace t03 := t03.out
       replace t10 := t10.out
       replace t20 := t20.out
       replace t21 := t21.out
       replace t22 := t22.out
       replace t30 := t30.out
       replace t31 := t31.out
       replace t40 := t40.out
       replace t41 := t41.out
       replace t50 := t50.out
       replace t51 := t51.out
       go_wp2
       refine wp_plus (by kernel_rfl) (by kernel_rfl) ?_
       repeat (first
        | (go_big_quiet_want; refine at_opQ (.load 99 (.tmp 1)) rfl ?_; refine quiet_ldA (t := 99) 99 (.tmp 1) rfl (h4C ts ln id st mo fo tl pr sm s6 sh sl d6 dh dl A n k) rfl (fun w' hw' => by obtain ⟨x, rfl⟩ := hw'; exact hb.later (below_plus _ _ _)) (whole_ _) u1 u2 (szH4 _ _ _ _ _ _ _ _ _ _ _ _ _ _ _ _ _ _) ?_; simp only [Act.put, qsT, qsZ, qsS]; go_big_quiet_on)
        | (go_big_quiet_want; refine at_opQ (.load 24 (.tmp 37)) rfl ?_; refine quiet_ldA (t := 99) 24 (.tmp 37) rfl (adC s6 sh sl) rfl (fun w' hw' => by obtain ⟨x, rfl⟩ := hw'; exact hb.later (below_plus _ _ _)) (rfl) v1 v2 (szAd _ _ _) ?_; simp only [Act.put, qsT, qsZ, qsS]; go_big_quiet_on)
        | (go_big_quiet_want; refine at_opQ (.load 24 (.tmp 42)) rfl ?_; refine quiet_ldA (t := 99) 24 (.tmp 42) rfl (adC d6 dh dl) rfl (fun w' hw' => by obtain ⟨x, rfl⟩ := hw'; exact hb.later (below_plus _ _ _)) (rfl) v1 v2 (szAd _ _ _) ?_; simp only [Act.put, qsT, qsZ, qsS]; go_big_quiet_on)
        | go_big_quiet_step (first
         | (go_at_call 65; exact callP (HS.out _))
         | (go_at_call 92; first | with_reducible exact callP (HV1.out _) | with_reducible exact callP (HV2.out _))))
       refine wpQuiet_nil ?_
       rintro _ ⟨x, rfl⟩
       go_wp2
       go_ret
       exact RetV.is_ (by rw [hz.out]; simp) (belowP (Below.allocS (Below.refl _ _) _) _ _)
     ·skip
      have t40 := Lib.hid (show decide (0 ≤ fo) = false from by simp only [decide_eq_true_eq, decide_eq_false_iff_not]; omega)
      have t41 := Lib.hid (show decide (fo < 0) = true from by simp only [decide_eq_true_eq, decide_eq_false_iff_not]; omega)
      have hz : Hid (r4 n ln fo s6 sh sl d6 dh dl = (false)) := Lib.hid (by unfold r4; simp only [c0, c1, c2, c3, c4, decide_true, decide_false, Bool.true_and, Bool.false_and, Bool.and_false])
      clear c0 c1 c2 c3 c4
      replace t00 := t00.out
      replace t01 := t01.out
      replace t02 := t02.out
      replace t03 := t03.out
      replace t10 := t10.out
      replace t20 := t20.out
      replace t21 := t21.out
      replace t22 := t22.out
      replace t30 := t30.out
      replace t31 := t31.out
      replace t40 := t40.out
      replace t41 := t41.out
      go_wp2
      refine wp_plus (by kernel_rfl) (by kernel_rfl) ?_
      repeat (first
       | (go_big_quiet_want; refine at_opQ (.load 99 (.tmp 1)) rfl ?_; refine quiet_ldA (t := 99) 99 (.tmp 1) rfl (h4C ts ln id st mo fo tl pr sm s6 sh sl d6 dh dl A n k) rfl (fun w' hw' => by obtain ⟨x, rfl⟩ := hw'; exact hb.later (below_plus _ _ _)) (whole_ _) u1 u2 (szH4 _ _ _ _ _ _ _ _ _ _ _ _ _ _ _ _ _ _) ?_; simp only [Act.put, qsT, qsZ, qsS]; go_big_quiet_on)
       | (go_big_quiet_want; refine at_opQ (.load 24 (.tmp 37)) rfl ?_; refine quiet_ldA (t := 99) 24 (.tmp 37) rfl (adC s6 sh sl) rfl (fun w' hw' => by obtain ⟨x, rfl⟩ := hw'; exact hb.later (below_plus _ _ _)) (rfl) v1 v2 (szAd _ _ _) ?_; simp only [Act.put, qsT, qsZ, qsS]; go_big_quiet_on)
       | (go_big_quiet_want; refine at_opQ (.load 24 (.tmp 42)) rfl ?_; refine quiet_ldA (t := 99) 24 (.tmp 42) rfl (adC d6 dh dl) rfl (fun w' hw' => by obtain ⟨x, rfl⟩ := hw'; exact hb.later (below_plus _ _ _)) (rfl) v1 v2 (szAd _ _ _) ?_; simp only [Act.put, qsT, qsZ, qsS]; go_big_quiet_on)
       | go_big_quiet_step (first
        | (go_at_call 65; exact callP (HS.out _))
        | (go_at_call 92; first | with_reducible exact callP (HV1.out _) | with_reducible exact callP (HV2.out _))))
      refine wpQuiet_nil ?_
      rintro _ ⟨x, rfl⟩
      go_wp2
      go_ret
      exact RetV.is_ (by rw [hz.out]; simp) (belowP (Below.allocS (Below.refl _ _) _) _ _)
    ·skip
     have t30 := Lib.hid (show decide (ln ≤ 65535) = false from by simp only [decide_eq_true_eq, decide_eq_false_iff_not]; omega)
     have t31 := Lib.hid (show decide (65535 < ln) = true from by simp only [decide_eq_true_eq, decide_eq_false_iff_not]; omega)
     have hz : Hid (r4 n ln fo s6 sh sl d6 dh dl = (false)) := Lib.hid (by unfold r4; simp only [c0, c1, c2, c3, decide_true, decide_false, Bool.true_and, Bool.false_and, Bool.and_false])
     clear c0 c1 c2 c3
     replace t00 := t00.out
     replace t01 := t01.out
     replace t02 := t02.out
     replace t03 := t03.out
     replace t10 := t10.out
     replace t20 := t20.out
     replace t21 := t21.out
     replace t22 := t22.out
     replace t30 := t30.out
     replace t31 := t31.out
     go_wp2
     refine wp_plus (by kernel_rfl) (by kernel_rfl) ?_
     repeat (first
      | (go_big_quiet_want; refine at_opQ (.load 99 (.tmp 1)) rfl ?_; refine quiet_ldA (t := 99) 99 (.tmp 1) rfl (h4C ts ln id st mo fo tl pr sm s6 sh sl d6 dh dl A n k) rfl (fun w' hw' => by obtain ⟨x, rfl⟩ := hw'; exact hb.later (below_plus _ _ _)) (whole_ _) u1 u2 (szH4 _ _ _ _ _ _ _ _ _ _ _ _ _ _ _ _ _ _) ?_; simp only [Act.put, qsT, qsZ, qsS]; go_big_quiet_on)
      | (go_big_quiet_want; refine at_opQ (.load 24 (.tmp 37)) rfl ?_; refine quiet_ldA (t := 99) 24 (.tmp 37) rfl (adC s6 sh sl) rfl (fun w' hw' => by obtain ⟨x, rfl⟩ := hw'; exact hb.later (below_plus _ _ _)) (rfl) v1 v2 (szAd _ _ _) ?_; simp only [Act.put, qsT, qsZ, qsS]; go_big_quiet_on)
      | (go_big_quiet_want; refine at_opQ (.load 24 (.tmp 42)) rfl ?_; refine quiet_ldA (t := 99) 24 (.tmp 42) rfl (adC d6 dh dl) rfl (fun w' hw' => by obtain ⟨x, rfl⟩ := hw'; exact hb.later (below_plus _ _ _)) (rfl) v1 v2 (szAd _ _ _) ?_; simp only [Act.put, qsT, qsZ, qsS]; go_big_quiet_on)
      | go_big_quiet_step (first
       | (go_at_call 65; exact callP (HS.out _))
       | (go_at_call 92; first | with_reducible exact callP (HV1.out _) | with_reducible exact callP (HV2.out _))))
     refine wpQuiet_nil ?_
     rintro _ ⟨x, rfl⟩
     go_wp2
     go_ret
     exact RetV.is_ (by rw [hz.out]; simp) (belowP (Below.allocS (Below.refl _ _) _) _ _)
   ·skip
    have t20 := Lib.hid (show decide (20 + (n : Int) ≤ ln) = false from by simp only [decide_eq_true_eq, decide_eq_false_iff_not]; omega)
    have t21 := Lib.hid (show decide (ln < 20 + (n : Int)) = true from by simp only [decide_eq_true_eq, decide_eq_false_iff_not]; omega)
    have t22 := Lib.hid (show decide ((z : Int) ≤ ln) = false from by simp only [decide_eq_true_eq, decide_eq_false_iff_not]; omega)
    have hz : Hid (r4 n ln fo s6 sh sl d6 dh dl = (false)) := Lib.hid (by unfold r4; simp only [c0, c1, c2, decide_true, decide_false, Bool.true_and, Bool.false_and, Bool.and_false])
    clear c0 c1 c2
    replace t00 := t00.out
    replace t01 := t01.out
    replace t02 := t02.out
    replace t03 := t03.out
    replace t10 := t10.out
    replace t20 := t20.out
    replace t21 := t21.out
    replace t22 := t22.out
    go_wp2
    refine wp_plus (by kernel_rfl) (by kernel_rfl) ?_
    repeat (first
     | (go_big_quiet_want; refine at_opQ (.load 99 (.tmp 1)) rfl ?_; refine quiet_ldA (t := 99) 99 (.tmp 1) rfl (h4C ts ln id st mo fo tl pr sm s6 sh sl d6 dh dl A n k) rfl (fun w' hw' => by obtain ⟨x, rfl⟩ := hw'; exact hb.later (below_plus _ _ _)) (whole_ _) u1 u2 (szH4 _ _ _ _ _ _ _ _ _ _ _ _ _ _ _ _ _ _) ?_; simp only [Act.put, qsT, qsZ, qsS]; go_big_quiet_on)
     | (go_big_quiet_want; refine at_opQ (.load 24 (.tmp 37)) rfl ?_; refine quiet_ldA (t := 99) 24 (.tmp 37) rfl (adC s6 sh sl) rfl (fun w' hw' => by obtain ⟨x, rfl⟩ := hw'; exact hb.later (below_plus _ _ _)) (rfl) v1 v2 (szAd _ _ _) ?_; simp only [Act.put, qsT, qsZ, qsS]; go_big_quiet_on)
     | (go_big_quiet_want; refine at_opQ (.load 24 (.tmp 42)) rfl ?_; refine quiet_ldA (t := 99) 24 (.tmp 42) rfl (adC d6 dh dl) rfl (fun w' hw' => by obtain ⟨x, rfl⟩ := hw'; exact hb.later (below_plus _ _ _)) (rfl) v1 v2 (szAd _ _ _) ?_; simp only [Act.put, qsT, qsZ, qsS]; go_big_quiet_on)
     | go_big_quiet_step (first
      | (go_at_call 65; exact callP (HS.out _))
      | (go_at_call 92; first | with_reducible exact callP (HV1.out _) | with_reducible exact callP (HV2.out _))))
    refine wpQuiet_nil ?_
    rintro _ ⟨x, rfl⟩
    go_wp2
    go_ret
    exact RetV.is_ (by rw [hz.out]; simp) (belowP (Below.allocS (Below.refl _ _) _) _ _)
  ·skip
   have t10 := Lib.hid (show ((n : Int) % 4 == 0) = false from by rw [beq_eq_false_iff_ne]; omega)
   have hz : Hid (r4 n ln fo s6 sh sl d6 dh dl = (false)) := Lib.hid (by unfold r4; simp only [c0, c1, decide_true, decide_false, Bool.true_and, Bool.false_and, Bool.and_false])
   clear c0 c1
   replace t00 := t00.out
   replace t01 := t01.out
   replace t02 := t02.out
   replace t03 := t03.out
   replace t10 := t10.out
   go_wp2
   refine wp_plus (by kernel_rfl) (by kernel_rfl) ?_
   repeat (first
    | (go_big_quiet_want; refine at_opQ (.load 99 (.tmp 1)) rfl ?_; refine quiet_ldA (t := 99) 99 (.tmp 1) rfl (h4C ts ln id st mo fo tl pr sm s6 sh sl d6 dh dl A n k) rfl (fun w' hw' => by obtain ⟨x, rfl⟩ := hw'; exact hb.later (below_plus _ _ _)) (whole_ _) u1 u2 (szH4 _ _ _ _ _ _ _ _ _ _ _ _ _ _ _ _ _ _) ?_; simp only [Act.put, qsT, qsZ, qsS]; go_big_quiet_on)
    | (go_big_quiet_want; refine at_opQ (.load 24 (.tmp 37)) rfl ?_; refine quiet_ldA (t := 99) 24 (.tmp 37) rfl (adC s6 sh sl) rfl (fun w' hw' => by obtain ⟨x, rfl⟩ := hw'; exact hb.later (below_plus _ _ _)) (rfl) v1 v2 (szAd _ _ _) ?_; simp only [Act.put, qsT, qsZ, qsS]; go_big_quiet_on)
    | (go_big_quiet_want; refine at_opQ (.load 24 (.tmp 42)) rfl ?_; refine quiet_ldA (t := 99) 24 (.tmp 42) rfl (adC d6 dh dl) rfl (fun w' hw' => by obtain ⟨x, rfl⟩ := hw'; exact hb.later (below_plus _ _ _)) (rfl) v1 v2 (szAd _ _ _) ?_; simp only [Act.put, qsT, qsZ, qsS]; go_big_quiet_on)
    | go_big_quiet_step (first
     | (go_at_call 65; exact callP (HS.out _))
     | (go_at_call 92; first | with_reducible exact callP (HV1.out _) | with_reducible exact callP (HV2.out _))))
   refine wpQuiet_nil ?_
   rintro _ ⟨x, rfl⟩
   go_wp2
   go_ret
   exact RetV.is_ (by rw [hz.out]; simp) (belowP (Below.allocS (Below.refl _ _) _) _ _)
 ·skip
  have t00 := Lib.hid (show decide (n ≤ 40) = false from by simp only [decide_eq_true_eq, decide_eq_false_iff_not]; omega)
  have t01 := Lib.hid (show decide (40 < n) = true from by simp only [decide_eq_true_eq, decide_eq_false_iff_not]; omega)
  have t02 := Lib.hid (show decide ((n : Int) ≤ 40) = false from by simp only [decide_eq_true_eq, decide_eq_false_iff_not]; omega)
  have t03 := Lib.hid (show decide (40 < (n : Int)) = true from by simp only [decide_eq_true_eq, decide_eq_false_iff_not]; omega)
  have hz : Hid (r4 n ln fo s6 sh sl d6 dh dl = (false)) := Lib.hid (by unfold r4; simp only [c0, decide_true, decide_false, Bool.true_and, Bool.false_and, Bool.and_false])
  clear c0
  replace t00 := t00.out
  replace t01 := t01.out
  replace t02 := t02.out
  replace t03 := t03.out
  go_wp2
  refine wp_plus (by kernel_rfl) (by kernel_rfl) ?_
  repeat (first
   | (go_big_quiet_want; refine at_opQ (.load 99 (.tmp 1)) rfl ?_; refine quiet_ldA (t := 99) 99 (.tmp 1) rfl (h4C ts ln id st mo fo tl pr sm s6 sh sl d6 dh dl A n k) rfl (fun w' hw' => by obtain ⟨x, rfl⟩ := hw'; exact hb.later (below_plus _ _ _)) (whole_ _) u1 u2 (szH4 _ _ _ _ _ _ _ _ _ _ _ _ _ _ _ _ _ _) ?_; simp only [Act.put, qsT, qsZ, qsS]; go_big_quiet_on)
   | (go_big_quiet_want; refine at_opQ (.load 24 (.tmp 37)) rfl ?_; refine quiet_ldA (t := 99) 24 (.tmp 37) rfl (adC s6 sh sl) rfl (fun w' hw' => by obtain ⟨x, rfl⟩ := hw'; exact hb.later (below_plus _ _ _)) (rfl) v1 v2 (szAd _ _ _) ?_; simp only [Act.put, qsT, qsZ, qsS]; go_big_quiet_on)
   | (go_big_quiet_want; refine at_opQ (.load 24 (.tmp 42)) rfl ?_; refine quiet_ldA (t := 99) 24 (.tmp 42) rfl (adC d6 dh dl) rfl (fun w' hw' => by obtain ⟨x, rfl⟩ := hw'; exact hb.later (below_plus _ _ _)) (rfl) v1 v2 (szAd _ _ _) ?_; simp only [Act.put, qsT, qsZ, qsS]; go_big_quiet_on)
   | go_big_quiet_step (first
    | (go_at_call 65; exact callP (HS.out _))
    | (go_at_call 92; first | with_reducible exact callP (HV1.out _) | with_reducible exact callP (HV2.out _))))
  refine wpQuiet_nil ?_
  rintro _ ⟨x, rfl⟩
  go_wp2
  go_ret
  exact RetV.is_ (by rw [hz.out]; simp) (belowP (Below.allocS (Below.refl _ _) _) _ _)
end

section
open Go.RowKit
attribute [local go_sem ↓] sliced_cut
attribute [local go_sem] cutA_zero
def pl4 (st mo : Bool) (fo : Nat) : Nat := fo + (if st then 16384 else 0) + (if mo then 8192 else 0)
theorem pl4_lt (st mo : Bool) (fo : Nat) (h : fo ≤ 8191) : pl4 st mo fo < 32768 := by
 unfold pl4
 cases st <;> cases mo <;> simp <;> omega
def ip4B (ts ln id pl tl pr s sl dl : Nat) (o : List UInt8) : List UInt8 := (dig (69 + o.length / 4) 1 ++ dig ts 1 ++ dig ln 2 ++ dig id 2 ++ dig pl 2 ++ dig tl 1 ++ dig pr 1) ++ (dig s 2 ++ (dig sl 4 ++ dig dl 4 ++ o))
theorem ip4B_length (ts ln id pl tl pr s sl dl : Nat) (o : List UInt8) : (ip4B ts ln id pl tl pr s sl dl o).length = 20 + o.length := by simp [ip4B, dig_length]; omega
def ip4K (ts ln id pl tl pr sl dl : Nat) (o : List UInt8) : Nat := 65535 - fd (tot false (ip4B ts ln id pl tl pr 0 sl dl o))
theorem setB_mid (a b c x : List UInt8) (k : Nat) (hk : a.length = k) (hb : b.length = x.length) : setB (a ++ (b ++ c)) k x = a ++ (x ++ c) := by
 subst hk
 unfold setB
 rw [List.take_left' rfl, ← hb, ← List.append_assoc a b c, List.drop_left' (by simp), List.append_assoc]
theorem setB_ip4 (ts ln id pl tl pr s sl dl : Nat) (o : List UInt8) : setB (ip4B ts ln id pl tl pr 0 sl dl o) 10 (dig s 2) = ip4B ts ln id pl tl pr s sl dl o := by
 unfold ip4B
 exact setB_mid _ _ _ _ 10 (by simp [dig_length]) (by simp [dig_length])
theorem or14 (x : Nat) (h : x < 8192) : bits .or .u64 (x : Int) 16384 = ((x + 16384 : Nat) : Int) := by
 have e := u64_or_nat x 16384 (by omega) (by omega)
 rw [Nat.or_comm, nat_join 14 16384 x (by decide) (by omega), Nat.add_comm] at e
 exact e
theorem or13 (x : Nat) (h : x < 8192) : bits .or .u64 (x : Int) 8192 = ((x + 8192 : Nat) : Int) := by
 have e := u64_or_nat x 8192 (by omega) (by omega)
 rw [Nat.or_comm, nat_join 13 8192 x (by decide) (by omega), Nat.add_comm] at e
 exact e
theorem or1413 (x : Nat) (h : x < 8192) : bits .or .u64 ((x + 16384 : Nat) : Int) 8192 = ((x + 16384 + 8192 : Nat) : Int) := by
 have e := u64_or_nat (x + 16384) 8192 (by omega) (by omega)
 have e2 : (x + 16384) ||| 8192 = x + 16384 + 8192 := by
  rw [Nat.add_comm x 16384, ← nat_join 14 16384 x (by decide) (by omega), Nat.or_assoc, Nat.or_comm x 8192, nat_join 13 8192 x (by decide) (by omega), nat_join 14 16384 (8192 + x) (by decide) (by omega), nat_join 14 16384 x (by decide) (by omega)]
  omega
 rw [e2] at e
 exact e
theorem or64 : ∀ q : Fin 16, bits .or .i64 64 (q.val : Int) = ((64 + q.val : Nat) : Int) := by decide +kernel
theorem r4_yes (n ln fo sl dl : Nat) (c1 : n ≤ 40) (c2 : n % 4 = 0) (c3 : 20 + n ≤ ln) (c4 : ln ≤ 65535) (c5 : fo ≤ 8191) (b5 : sl < 4294967296) (b6 : dl < 4294967296) : r4 n (ln : Int) (fo : Int) false 0 sl false 0 dl = true := by
 simp [r4, ad4]
 omega
set_option maxHeartbeats 4000000
set_option maxRecDepth 100000
theorem ip4Bytes_nn (ts ln id : Nat) (fo tl pr sm sl dl : Nat) (A : Option Addr) (n k : Nat) (o : List UInt8) (w : World) (hr : Rb w A n k o) (b1 : ts < 256) (b2 : id < 65536) (b3 : tl < 256) (b4 : pr < 256) (b5 : sl < 4294967296) (b6 : dl < 4294967296) (c1 : n ≤ 40) (c2 : n % 4 = 0) (c3 : 20 + n ≤ ln) (c4 : ln ≤ 65535) (c5 : fo ≤ 8191) : Calls Tryz.prog 67 #[.agg (h4C ts (ln : Int) id false false (fo : Int) tl pr sm false 0 sl false 0 dl A n k).toArray] w (RetB w (ip4B ts ln id (pl4 false false fo) tl pr (ip4K ts ln id (pl4 false false fo) tl pr sl dl o) sl dl o)) := by
 obtain ⟨du, u1, u2⟩ := rowH4
 obtain ⟨dv, v1, v2⟩ := rowAd
 have HR := Lib.hid (fun w => right4 ts (ln : Int) id false false (fo : Int) tl pr sm false 0 sl false 0 dl A n k w (by omega) (by omega) (by omega) (by omega) (by omega) (by omega) (by omega))
 rw [r4_yes n ln fo sl dl c1 c2 c3 c4 c5 b5 b6] at HR
 have HS := Lib.hid (fun w => size4 ts (ln : Int) id false false (fo : Int) tl pr sm false 0 sl false 0 dl A n k w (by omega))
 obtain ⟨z, hz0⟩ : ∃ z : Nat, z = 20 + n := ⟨_, rfl⟩
 rw [← hz0] at HS
 obtain ⟨q, hq⟩ : ∃ q : Nat, q = 5 + n / 4 := ⟨_, rfl⟩
 have g1 : (z : Int).tdiv 4 = (q : Int) := by rw [Int.tdiv_eq_ediv_of_nonneg (by omega)]; omega
 have g2 : IntKind.i64.wrap (q : Int) = (q : Int) := IntWalk.i64_in _ (by omega)
 have g3 := or64 ⟨q, by omega⟩
 obtain ⟨x0, hx0⟩ : ∃ x : Nat, x = 64 + q := ⟨_, rfl⟩
 replace g3 : bits .or .i64 64 (q : Int) = (x0 : Int) := by rw [hx0]; exact g3
 have g4 : IntKind.u64.wrap (x0 : Int) = (x0 : Int) := IntWalk.u64_in _ (by omega)
 have g5 : IntKind.u64.wrap (ts : Int) = (ts : Int) := IntWalk.u64_in _ (by omega)
 have g6 : IntKind.u64.wrap (ln : Int) = (ln : Int) := IntWalk.u64_in _ (by omega)
 have g7 : IntKind.u64.wrap (id : Int) = (id : Int) := IntWalk.u64_in _ (by omega)
 have g8 : IntKind.u64.wrap (tl : Int) = (tl : Int) := IntWalk.u64_in _ (by omega)
 have g9 : IntKind.u64.wrap (pr : Int) = (pr : Int) := IntWalk.u64_in _ (by omega)
 obtain ⟨p, hp⟩ : ∃ p : Nat, p = fo := ⟨_, rfl⟩
 have fp : IntKind.u64.wrap (fo : Int) = (p : Int) := by rw [IntWalk.u64_in _ (by omega)]; omega
 have hpl : pl4 false false fo = p := by simp [pl4]; omega
 have hp6 : p < 65536 := by omega
 have hol := hr.1
 have hx1 : x0 = 69 + o.length / 4 := by omega
 have hb : Bk (w.alloc (.cells (h4C ts (ln : Int) id false false (fo : Int) tl pr sm false 0 sl false 0 dl A n k).toArray 99)) w.heap.size 99 (h4C ts (ln : Int) id false false (fo : Int) tl pr sm false 0 sl false 0 dl A n k) := Bk.new w 99 (h4C ts (ln : Int) id false false (fo : Int) tl pr sm false 0 sl false 0 dl A n k).toArray
 have be : Below w.heap.size w (w.alloc (.cells (h4C ts (ln : Int) id false false (fo : Int) tl pr sm false 0 sl false 0 dl A n k).toArray 99)) := Below.allocS (Below.refl _ _) _
 rw [hpl]
 replace hx1 := Lib.hid hx1
 replace hol := Lib.hid hol
 have hx9 : x0 < 256 := by omega
 clear hpl hx0 hz0 hq hp
 go_enter Tryz.func67, Tryz.ntmps67
 go_upto_region 1 with (fail)
 generalize w.alloc (.cells (h4C ts (ln : Int) id false false (fo : Int) tl pr sm false 0 sl false 0 dl A n k).toArray 99) = W at *
 have hrW := hr.later be
 have y0 : W.cell? ⟨w.heap.size, 0, none⟩ = some (.int .u8 (ts : Int)) := hb.cell 0
 have y1 : W.cell? ⟨w.heap.size, 1, none⟩ = some (.int .i64 (ln : Int)) := hb.cell 1
 have y2 : W.cell? ⟨w.heap.size, 2, none⟩ = some (.int .u16 (id : Int)) := hb.cell 2
 have y3 : W.cell? ⟨w.heap.size, 3, none⟩ = some (.bool false) := hb.cell 3
 have y4 : W.cell? ⟨w.heap.size, 4, none⟩ = some (.bool false) := hb.cell 4
 have y5 : W.cell? ⟨w.heap.size, 5, none⟩ = some (.int .i64 (fo : Int)) := hb.cell 5
 have y6 : W.cell? ⟨w.heap.size, 6, none⟩ = some (.int .u8 (tl : Int)) := hb.cell 6
 have y7 : W.cell? ⟨w.heap.size, 7, none⟩ = some (.int .u8 (pr : Int)) := hb.cell 7
 have y15 : W.cell? ⟨w.heap.size, 15, none⟩ = some (.slice A n k) := hb.cell 15
 have zb := hb.lt
 go_wp2_with (refine at_op (.load 99 (.tmp 1)) rfl ?_; refine wpList_ldA (t := 99) 99 (.tmp 1) rfl rfl (h4C ts (ln : Int) id false false (fo : Int) tl pr sm false 0 sl false 0 dl A n k) rfl (by with_reducible repeat (first | exact hb | refine Bk.later ?_ (below_plus _ _ _) | refine Bk.alloc ?_ _)) (whole_ _) u1 u2 (szH4 _ _ _ _ _ _ _ _ _ _ _ _ _ _ _ _ _ _) ?_)
 refine (HR.out _).mono ?_
 rintro e w1 ⟨bsr, mr, rfl, rfl⟩
 go_wp2_with (refine at_op (.load 99 (.tmp 1)) rfl ?_; refine wpList_ldA (t := 99) 99 (.tmp 1) rfl rfl (h4C ts (ln : Int) id false false (fo : Int) tl pr sm false 0 sl false 0 dl A n k) rfl (by with_reducible repeat (first | exact hb | refine Bk.later ?_ (below_plus _ _ _) | refine Bk.alloc ?_ _)) (whole_ _) u1 u2 (szH4 _ _ _ _ _ _ _ _ _ _ _ _ _ _ _ _ _ _) ?_)
 refine (HS.out _).mono ?_
 rintro e w1 ⟨bs0, m0, rfl, rfl⟩
 go_wp2_with fail
 refine (put_full _ _ _ [] x0 1 _ Rb.nil_ (by omega) (by omega) (by omega) (by omega)).mono ?_
 rintro e w1 ⟨A1, n1, bs1, m1, rfl, rfl, ho1⟩
 have l1 : n1 ≤ 100 := by rw [← ho1.1]; simp [dig_length]
 go_wp2_with fail
 refine (put_full _ _ _ _ ts 1 _ ho1.rb (by omega) (by omega) (by omega) (by omega)).mono ?_
 rintro e w1 ⟨A2, n2, bs2, m2, rfl, rfl, ho2⟩
 have l2 : n2 ≤ 100 := by rw [← ho2.1]; simp [dig_length]
 go_wp2_with fail
 refine (put_full _ _ _ _ ln 2 _ ho2.rb (by omega) (by omega) (by omega) (by omega)).mono ?_
 rintro e w1 ⟨A3, n3, bs3, m3, rfl, rfl, ho3⟩
 have l3 : n3 ≤ 100 := by rw [← ho3.1]; simp [dig_length]
 go_wp2_with fail
 refine (put_full _ _ _ _ id 2 _ ho3.rb (by omega) (by omega) (by omega) (by omega)).mono ?_
 rintro e w1 ⟨A4, n4, bs4, m4, rfl, rfl, ho4⟩
 have l4 : n4 ≤ 100 := by rw [← ho4.1]; simp [dig_length]
 go_wp2_with fail
 refine (put_full _ _ _ _ p 2 _ ho4.rb (by omega) (by omega) (by omega) (by omega)).mono ?_
 rintro e w1 ⟨A5, n5, bs5, m5, rfl, rfl, ho5⟩
 have l5 : n5 ≤ 100 := by rw [← ho5.1]; simp [dig_length]
 go_wp2_with fail
 refine (put_full _ _ _ _ tl 1 _ ho5.rb (by omega) (by omega) (by omega) (by omega)).mono ?_
 rintro e w1 ⟨A6, n6, bs6, m6, rfl, rfl, ho6⟩
 have l6 : n6 ≤ 100 := by rw [← ho6.1]; simp [dig_length]
 go_wp2_with fail
 refine (put_full _ _ _ _ pr 1 _ ho6.rb (by omega) (by omega) (by omega) (by omega)).mono ?_
 rintro e w1 ⟨A7, n7, bs7, m7, rfl, rfl, ho7⟩
 have l7 : n7 ≤ 100 := by rw [← ho7.1]; simp [dig_length]
 go_wp2_with fail
 refine (put_full _ _ _ _ 0 2 _ ho7.rb (by omega) (by omega) (by omega) (by omega)).mono ?_
 rintro e w1 ⟨A8, n8, bs8, m8, rfl, rfl, ho8⟩
 have l8 : n8 ≤ 100 := by rw [← ho8.1]; simp [dig_length]
 go_wp2_with (refine at_op (.load 24 (.tmp 56)) rfl ?_; refine wpList_ldA (t := 99) (cs := h4C ts (ln : Int) id false false (fo : Int) tl pr sm false 0 sl false 0 dl A n k) 24 (.tmp 56) rfl rfl (adC false 0 sl) rfl (by with_reducible repeat (first | exact hb | refine Bk.later ?_ (below_plus _ _ _) | refine Bk.alloc ?_ _)) rfl v1 v2 (szAd _ _ _) ?_)
 refine (adrBytes_any false 0 sl _ (by omega) (by omega)).mono ?_
 rintro e w1 ⟨A9, n9, bs9, m9, rfl, rfl, ho9⟩
 have l9 : n9 ≤ 100 := by rw [← ho9.1]; have := adrB_length false 0 sl; omega
 go_wp2_with (first
  | (at_builtin; refine wpList_appP _ bt rfl (.tmp 55) (.tmp 58) rfl (by exact belowP (below_plus _ bs8 m8) bs9 m9) rfl (ho8.plus_ bs9 m9) rfl (ho9.rb) (by omega) ?_; intro Aa na ka bsa ma hoa hga)
  | (refine at_op (.load 24 (.tmp 61)) rfl ?_; refine wpList_ldA (t := 99) (cs := h4C ts (ln : Int) id false false (fo : Int) tl pr sm false 0 sl false 0 dl A n k) 24 (.tmp 61) rfl rfl (adC false 0 dl) rfl (by with_reducible repeat (first | exact hb | refine Bk.later ?_ (below_plus _ _ _) | refine Bk.alloc ?_ _)) rfl v1 v2 (szAd _ _ _) ?_))
 have la : na ≤ 300 := by rw [← hoa.1]; have := adrB_length false 0 sl; simp [dig_length]; omega
 refine (adrBytes_any false 0 dl _ (by omega) (by omega)).mono ?_
 rintro e w1 ⟨Ab, nb, bsb, mb, rfl, rfl, hob⟩
 have lb : nb ≤ 100 := by rw [← hob.1]; have := adrB_length false 0 dl; omega
 go_wp2_with (first
  | (at_builtin; refine wpList_appP _ bt rfl (.tmp 60) (.tmp 63) rfl (by exact belowP (below_plus _ bsa ma) bsb mb) rfl (hoa.plus_ bsb mb) rfl (hob.rb) (by omega) ?_; intro Ac nc kc bsc mc hoc hgc; have lc : nc ≤ 500 := (by rw [← hoc.1]; have h1 := adrB_length false 0 sl; have h2 := adrB_length false 0 dl; simp [dig_length]; omega))
  | (at_builtin; refine wpList_appP (l2 := o) _ bt rfl (.tmp 65) (.tmp 67) rfl (by exact below_plus _ bsc mc) rfl (hoc) rfl (by with_reducible repeat (first | exact hrW | refine Rb.plus_ ?_ _ _)) (by omega) ?_; intro Ad nd kd bsd md hod hgd))
 have hL : [] ++ dig x0 1 ++ dig ts 1 ++ dig ln 2 ++ dig id 2 ++ dig p 2 ++ dig tl 1 ++ dig pr 1 ++ dig 0 2 ++ adrB false 0 sl ++ adrB false 0 dl ++ o = ip4B ts ln id p tl pr 0 sl dl o := by rw [hx1.out]; simp [ip4B, adrB]
 rw [hL] at hod
 have hset := Lib.hid (fun s => setB_ip4 ts ln id p tl pr s sl dl o)
 have hlen := ip4B_length ts ln id p tl pr 0 sl dl o
 have hK : Hid (ip4K ts ln id p tl pr sl dl o = 65535 - fd (tot false (ip4B ts ln id p tl pr 0 sl dl o))) := Lib.hid rfl
 clear hL
 generalize ip4B ts ln id p tl pr 0 sl dl o = L0 at *
 rw [hol.out] at hlen
 have HO := Lib.hid (fun w A1 c1 (h : RdL w A1 1 [L0]) => sumOf A1 1 c1 _ w h (by omega) (by simp; omega))
 have hs1 : 65535 - fd (tot false L0) ≤ 65535 := Nat.sub_le _ _
 have hfl : ([L0] : List (List UInt8)).flatten = L0 := by simp
 rw [hfl] at HO
 generalize 65535 - fd (tot false L0) = s at *
 have hnd1 : 10 + 2 ≤ nd := by have := hod.1; omega
 have hnd2 : nd ≤ 549755813888 := by have := hod.1; omega
 have hs2 : s < 18446744073709551616 := by omega
 have gs : IntKind.u64.wrap (s : Int) = (s : Int) := IntWalk.u64_in _ (by omega)
 refine (HO.out _ _ _ (RdL.litW [.slice Ad nd kd] [L0] (by simp [size_plus]) (.cons ⟨_, _, _, rfl, hod.rb⟩ .nil))).mono ?_
 rintro e w1 ⟨rfl, rfl⟩
 go_wp2_with fail
 refine (octSet Ad nd kd L0 10 s 2 _ (hod.rb.alloc _) hnd1 (by decide) (by decide) hs2 hnd2).mono ?_
 rintro e w1 ⟨Ae, ne, ke, bse, me, rfl, rfl, hoe⟩
 go_wp2
 go_ret
 rw [hset.out] at hoe
 rw [hK.out]
 refine RetB.mk (hoe.mono ?_) ?_
 ·simp [size_plus]; omega
 ·with_reducible repeat (first | exact be | refine belowP ?_ _ _ | refine Below.allocS ?_ _)
theorem ip4Bytes_ny (ts ln id : Nat) (fo tl pr sm sl dl : Nat) (A : Option Addr) (n k : Nat) (o : List UInt8) (w : World) (hr : Rb w A n k o) (b1 : ts < 256) (b2 : id < 65536) (b3 : tl < 256) (b4 : pr < 256) (b5 : sl < 4294967296) (b6 : dl < 4294967296) (c1 : n ≤ 40) (c2 : n % 4 = 0) (c3 : 20 + n ≤ ln) (c4 : ln ≤ 65535) (c5 : fo ≤ 8191) : Calls Tryz.prog 67 #[.agg (h4C ts (ln : Int) id false true (fo : Int) tl pr sm false 0 sl false 0 dl A n k).toArray] w (RetB w (ip4B ts ln id (pl4 false true fo) tl pr (ip4K ts ln id (pl4 false true fo) tl pr sl dl o) sl dl o)) := by
 obtain ⟨du, u1, u2⟩ := rowH4
 obtain ⟨dv, v1, v2⟩ := rowAd
 have HR := Lib.hid (fun w => right4 ts (ln : Int) id false true (fo : Int) tl pr sm false 0 sl false 0 dl A n k w (by omega) (by omega) (by omega) (by omega) (by omega) (by omega) (by omega))
 rw [r4_yes n ln fo sl dl c1 c2 c3 c4 c5 b5 b6] at HR
 have HS := Lib.hid (fun w => size4 ts (ln : Int) id false true (fo : Int) tl pr sm false 0 sl false 0 dl A n k w (by omega))
 obtain ⟨z, hz0⟩ : ∃ z : Nat, z = 20 + n := ⟨_, rfl⟩
 rw [← hz0] at HS
 obtain ⟨q, hq⟩ : ∃ q : Nat, q = 5 + n / 4 := ⟨_, rfl⟩
 have g1 : (z : Int).tdiv 4 = (q : Int) := by rw [Int.tdiv_eq_ediv_of_nonneg (by omega)]; omega
 have g2 : IntKind.i64.wrap (q : Int) = (q : Int) := IntWalk.i64_in _ (by omega)
 have g3 := or64 ⟨q, by omega⟩
 obtain ⟨x0, hx0⟩ : ∃ x : Nat, x = 64 + q := ⟨_, rfl⟩
 replace g3 : bits .or .i64 64 (q : Int) = (x0 : Int) := by rw [hx0]; exact g3
 have g4 : IntKind.u64.wrap (x0 : Int) = (x0 : Int) := IntWalk.u64_in _ (by omega)
 have g5 : IntKind.u64.wrap (ts : Int) = (ts : Int) := IntWalk.u64_in _ (by omega)
 have g6 : IntKind.u64.wrap (ln : Int) = (ln : Int) := IntWalk.u64_in _ (by omega)
 have g7 : IntKind.u64.wrap (id : Int) = (id : Int) := IntWalk.u64_in _ (by omega)
 have g8 : IntKind.u64.wrap (tl : Int) = (tl : Int) := IntWalk.u64_in _ (by omega)
 have g9 : IntKind.u64.wrap (pr : Int) = (pr : Int) := IntWalk.u64_in _ (by omega)
 have f1 := or13 fo (by omega)
 have fp : IntKind.u64.wrap (fo : Int) = (fo : Int) := IntWalk.u64_in _ (by omega)
 obtain ⟨p, hp⟩ : ∃ p : Nat, p = fo + 8192 := ⟨_, rfl⟩
 rw [← hp] at f1
 have hpl : pl4 false true fo = p := by simp [pl4]; omega
 have hp6 : p < 65536 := by omega
 have hol := hr.1
 have hx1 : x0 = 69 + o.length / 4 := by omega
 have hb : Bk (w.alloc (.cells (h4C ts (ln : Int) id false true (fo : Int) tl pr sm false 0 sl false 0 dl A n k).toArray 99)) w.heap.size 99 (h4C ts (ln : Int) id false true (fo : Int) tl pr sm false 0 sl false 0 dl A n k) := Bk.new w 99 (h4C ts (ln : Int) id false true (fo : Int) tl pr sm false 0 sl false 0 dl A n k).toArray
 have be : Below w.heap.size w (w.alloc (.cells (h4C ts (ln : Int) id false true (fo : Int) tl pr sm false 0 sl false 0 dl A n k).toArray 99)) := Below.allocS (Below.refl _ _) _
 rw [hpl]
 replace hx1 := Lib.hid hx1
 replace hol := Lib.hid hol
 have hx9 : x0 < 256 := by omega
 clear hpl hx0 hz0 hq hp
 go_enter Tryz.func67, Tryz.ntmps67
 go_upto_region 1 with (fail)
 generalize w.alloc (.cells (h4C ts (ln : Int) id false true (fo : Int) tl pr sm false 0 sl false 0 dl A n k).toArray 99) = W at *
 have hrW := hr.later be
 have y0 : W.cell? ⟨w.heap.size, 0, none⟩ = some (.int .u8 (ts : Int)) := hb.cell 0
 have y1 : W.cell? ⟨w.heap.size, 1, none⟩ = some (.int .i64 (ln : Int)) := hb.cell 1
 have y2 : W.cell? ⟨w.heap.size, 2, none⟩ = some (.int .u16 (id : Int)) := hb.cell 2
 have y3 : W.cell? ⟨w.heap.size, 3, none⟩ = some (.bool false) := hb.cell 3
 have y4 : W.cell? ⟨w.heap.size, 4, none⟩ = some (.bool true) := hb.cell 4
 have y5 : W.cell? ⟨w.heap.size, 5, none⟩ = some (.int .i64 (fo : Int)) := hb.cell 5
 have y6 : W.cell? ⟨w.heap.size, 6, none⟩ = some (.int .u8 (tl : Int)) := hb.cell 6
 have y7 : W.cell? ⟨w.heap.size, 7, none⟩ = some (.int .u8 (pr : Int)) := hb.cell 7
 have y15 : W.cell? ⟨w.heap.size, 15, none⟩ = some (.slice A n k) := hb.cell 15
 have zb := hb.lt
 go_wp2_with (refine at_op (.load 99 (.tmp 1)) rfl ?_; refine wpList_ldA (t := 99) 99 (.tmp 1) rfl rfl (h4C ts (ln : Int) id false true (fo : Int) tl pr sm false 0 sl false 0 dl A n k) rfl (by with_reducible repeat (first | exact hb | refine Bk.later ?_ (below_plus _ _ _) | refine Bk.alloc ?_ _)) (whole_ _) u1 u2 (szH4 _ _ _ _ _ _ _ _ _ _ _ _ _ _ _ _ _ _) ?_)
 refine (HR.out _).mono ?_
 rintro e w1 ⟨bsr, mr, rfl, rfl⟩
 go_wp2_with (refine at_op (.load 99 (.tmp 1)) rfl ?_; refine wpList_ldA (t := 99) 99 (.tmp 1) rfl rfl (h4C ts (ln : Int) id false true (fo : Int) tl pr sm false 0 sl false 0 dl A n k) rfl (by with_reducible repeat (first | exact hb | refine Bk.later ?_ (below_plus _ _ _) | refine Bk.alloc ?_ _)) (whole_ _) u1 u2 (szH4 _ _ _ _ _ _ _ _ _ _ _ _ _ _ _ _ _ _) ?_)
 refine (HS.out _).mono ?_
 rintro e w1 ⟨bs0, m0, rfl, rfl⟩
 go_wp2_with fail
 refine (put_full _ _ _ [] x0 1 _ Rb.nil_ (by omega) (by omega) (by omega) (by omega)).mono ?_
 rintro e w1 ⟨A1, n1, bs1, m1, rfl, rfl, ho1⟩
 have l1 : n1 ≤ 100 := by rw [← ho1.1]; simp [dig_length]
 go_wp2_with fail
 refine (put_full _ _ _ _ ts 1 _ ho1.rb (by omega) (by omega) (by omega) (by omega)).mono ?_
 rintro e w1 ⟨A2, n2, bs2, m2, rfl, rfl, ho2⟩
 have l2 : n2 ≤ 100 := by rw [← ho2.1]; simp [dig_length]
 go_wp2_with fail
 refine (put_full _ _ _ _ ln 2 _ ho2.rb (by omega) (by omega) (by omega) (by omega)).mono ?_
 rintro e w1 ⟨A3, n3, bs3, m3, rfl, rfl, ho3⟩
 have l3 : n3 ≤ 100 := by rw [← ho3.1]; simp [dig_length]
 go_wp2_with fail
 refine (put_full _ _ _ _ id 2 _ ho3.rb (by omega) (by omega) (by omega) (by omega)).mono ?_
 rintro e w1 ⟨A4, n4, bs4, m4, rfl, rfl, ho4⟩
 have l4 : n4 ≤ 100 := by rw [← ho4.1]; simp [dig_length]
 go_wp2_with fail
 refine (put_full _ _ _ _ p 2 _ ho4.rb (by omega) (by omega) (by omega) (by omega)).mono ?_
 rintro e w1 ⟨A5, n5, bs5, m5, rfl, rfl, ho5⟩
 have l5 : n5 ≤ 100 := by rw [← ho5.1]; simp [dig_length]
 go_wp2_with fail
 refine (put_full _ _ _ _ tl 1 _ ho5.rb (by omega) (by omega) (by omega) (by omega)).mono ?_
 rintro e w1 ⟨A6, n6, bs6, m6, rfl, rfl, ho6⟩
 have l6 : n6 ≤ 100 := by rw [← ho6.1]; simp [dig_length]
 go_wp2_with fail
 refine (put_full _ _ _ _ pr 1 _ ho6.rb (by omega) (by omega) (by omega) (by omega)).mono ?_
 rintro e w1 ⟨A7, n7, bs7, m7, rfl, rfl, ho7⟩
 have l7 : n7 ≤ 100 := by rw [← ho7.1]; simp [dig_length]
 go_wp2_with fail
 refine (put_full _ _ _ _ 0 2 _ ho7.rb (by omega) (by omega) (by omega) (by omega)).mono ?_
 rintro e w1 ⟨A8, n8, bs8, m8, rfl, rfl, ho8⟩
 have l8 : n8 ≤ 100 := by rw [← ho8.1]; simp [dig_length]
 go_wp2_with (refine at_op (.load 24 (.tmp 56)) rfl ?_; refine wpList_ldA (t := 99) (cs := h4C ts (ln : Int) id false true (fo : Int) tl pr sm false 0 sl false 0 dl A n k) 24 (.tmp 56) rfl rfl (adC false 0 sl) rfl (by with_reducible repeat (first | exact hb | refine Bk.later ?_ (below_plus _ _ _) | refine Bk.alloc ?_ _)) rfl v1 v2 (szAd _ _ _) ?_)
 refine (adrBytes_any false 0 sl _ (by omega) (by omega)).mono ?_
 rintro e w1 ⟨A9, n9, bs9, m9, rfl, rfl, ho9⟩
 have l9 : n9 ≤ 100 := by rw [← ho9.1]; have := adrB_length false 0 sl; omega
 go_wp2_with (first
  | (at_builtin; refine wpList_appP _ bt rfl (.tmp 55) (.tmp 58) rfl (by exact belowP (below_plus _ bs8 m8) bs9 m9) rfl (ho8.plus_ bs9 m9) rfl (ho9.rb) (by omega) ?_; intro Aa na ka bsa ma hoa hga)
  | (refine at_op (.load 24 (.tmp 61)) rfl ?_; refine wpList_ldA (t := 99) (cs := h4C ts (ln : Int) id false true (fo : Int) tl pr sm false 0 sl false 0 dl A n k) 24 (.tmp 61) rfl rfl (adC false 0 dl) rfl (by with_reducible repeat (first | exact hb | refine Bk.later ?_ (below_plus _ _ _) | refine Bk.alloc ?_ _)) rfl v1 v2 (szAd _ _ _) ?_))
 have la : na ≤ 300 := by rw [← hoa.1]; have := adrB_length false 0 sl; simp [dig_length]; omega
 refine (adrBytes_any false 0 dl _ (by omega) (by omega)).mono ?_
 rintro e w1 ⟨Ab, nb, bsb, mb, rfl, rfl, hob⟩
 have lb : nb ≤ 100 := by rw [← hob.1]; have := adrB_length false 0 dl; omega
 go_wp2_with (first
  | (at_builtin; refine wpList_appP _ bt rfl (.tmp 60) (.tmp 63) rfl (by exact belowP (below_plus _ bsa ma) bsb mb) rfl (hoa.plus_ bsb mb) rfl (hob.rb) (by omega) ?_; intro Ac nc kc bsc mc hoc hgc; have lc : nc ≤ 500 := (by rw [← hoc.1]; have h1 := adrB_length false 0 sl; have h2 := adrB_length false 0 dl; simp [dig_length]; omega))
  | (at_builtin; refine wpList_appP (l2 := o) _ bt rfl (.tmp 65) (.tmp 67) rfl (by exact below_plus _ bsc mc) rfl (hoc) rfl (by with_reducible repeat (first | exact hrW | refine Rb.plus_ ?_ _ _)) (by omega) ?_; intro Ad nd kd bsd md hod hgd))
 have hL : [] ++ dig x0 1 ++ dig ts 1 ++ dig ln 2 ++ dig id 2 ++ dig p 2 ++ dig tl 1 ++ dig pr 1 ++ dig 0 2 ++ adrB false 0 sl ++ adrB false 0 dl ++ o = ip4B ts ln id p tl pr 0 sl dl o := by rw [hx1.out]; simp [ip4B, adrB]
 rw [hL] at hod
 have hset := Lib.hid (fun s => setB_ip4 ts ln id p tl pr s sl dl o)
 have hlen := ip4B_length ts ln id p tl pr 0 sl dl o
 have hK : Hid (ip4K ts ln id p tl pr sl dl o = 65535 - fd (tot false (ip4B ts ln id p tl pr 0 sl dl o))) := Lib.hid rfl
 clear hL
 generalize ip4B ts ln id p tl pr 0 sl dl o = L0 at *
 rw [hol.out] at hlen
 have HO := Lib.hid (fun w A1 c1 (h : RdL w A1 1 [L0]) => sumOf A1 1 c1 _ w h (by omega) (by simp; omega))
 have hs1 : 65535 - fd (tot false L0) ≤ 65535 := Nat.sub_le _ _
 have hfl : ([L0] : List (List UInt8)).flatten = L0 := by simp
 rw [hfl] at HO
 generalize 65535 - fd (tot false L0) = s at *
 have hnd1 : 10 + 2 ≤ nd := by have := hod.1; omega
 have hnd2 : nd ≤ 549755813888 := by have := hod.1; omega
 have hs2 : s < 18446744073709551616 := by omega
 have gs : IntKind.u64.wrap (s : Int) = (s : Int) := IntWalk.u64_in _ (by omega)
 refine (HO.out _ _ _ (RdL.litW [.slice Ad nd kd] [L0] (by simp [size_plus]) (.cons ⟨_, _, _, rfl, hod.rb⟩ .nil))).mono ?_
 rintro e w1 ⟨rfl, rfl⟩
 go_wp2_with fail
 refine (octSet Ad nd kd L0 10 s 2 _ (hod.rb.alloc _) hnd1 (by decide) (by decide) hs2 hnd2).mono ?_
 rintro e w1 ⟨Ae, ne, ke, bse, me, rfl, rfl, hoe⟩
 go_wp2
 go_ret
 rw [hset.out] at hoe
 rw [hK.out]
 refine RetB.mk (hoe.mono ?_) ?_
 ·simp [size_plus]; omega
 ·with_reducible repeat (first | exact be | refine belowP ?_ _ _ | refine Below.allocS ?_ _)
theorem ip4Bytes_yn (ts ln id : Nat) (fo tl pr sm sl dl : Nat) (A : Option Addr) (n k : Nat) (o : List UInt8) (w : World) (hr : Rb w A n k o) (b1 : ts < 256) (b2 : id < 65536) (b3 : tl < 256) (b4 : pr < 256) (b5 : sl < 4294967296) (b6 : dl < 4294967296) (c1 : n ≤ 40) (c2 : n % 4 = 0) (c3 : 20 + n ≤ ln) (c4 : ln ≤ 65535) (c5 : fo ≤ 8191) : Calls Tryz.prog 67 #[.agg (h4C ts (ln : Int) id true false (fo : Int) tl pr sm false 0 sl false 0 dl A n k).toArray] w (RetB w (ip4B ts ln id (pl4 true false fo) tl pr (ip4K ts ln id (pl4 true false fo) tl pr sl dl o) sl dl o)) := by
 obtain ⟨du, u1, u2⟩ := rowH4
 obtain ⟨dv, v1, v2⟩ := rowAd
 have HR := Lib.hid (fun w => right4 ts (ln : Int) id true false (fo : Int) tl pr sm false 0 sl false 0 dl A n k w (by omega) (by omega) (by omega) (by omega) (by omega) (by omega) (by omega))
 rw [r4_yes n ln fo sl dl c1 c2 c3 c4 c5 b5 b6] at HR
 have HS := Lib.hid (fun w => size4 ts (ln : Int) id true false (fo : Int) tl pr sm false 0 sl false 0 dl A n k w (by omega))
 obtain ⟨z, hz0⟩ : ∃ z : Nat, z = 20 + n := ⟨_, rfl⟩
 rw [← hz0] at HS
 obtain ⟨q, hq⟩ : ∃ q : Nat, q = 5 + n / 4 := ⟨_, rfl⟩
 have g1 : (z : Int).tdiv 4 = (q : Int) := by rw [Int.tdiv_eq_ediv_of_nonneg (by omega)]; omega
 have g2 : IntKind.i64.wrap (q : Int) = (q : Int) := IntWalk.i64_in _ (by omega)
 have g3 := or64 ⟨q, by omega⟩
 obtain ⟨x0, hx0⟩ : ∃ x : Nat, x = 64 + q := ⟨_, rfl⟩
 replace g3 : bits .or .i64 64 (q : Int) = (x0 : Int) := by rw [hx0]; exact g3
 have g4 : IntKind.u64.wrap (x0 : Int) = (x0 : Int) := IntWalk.u64_in _ (by omega)
 have g5 : IntKind.u64.wrap (ts : Int) = (ts : Int) := IntWalk.u64_in _ (by omega)
 have g6 : IntKind.u64.wrap (ln : Int) = (ln : Int) := IntWalk.u64_in _ (by omega)
 have g7 : IntKind.u64.wrap (id : Int) = (id : Int) := IntWalk.u64_in _ (by omega)
 have g8 : IntKind.u64.wrap (tl : Int) = (tl : Int) := IntWalk.u64_in _ (by omega)
 have g9 : IntKind.u64.wrap (pr : Int) = (pr : Int) := IntWalk.u64_in _ (by omega)
 have f1 := or14 fo (by omega)
 have fp : IntKind.u64.wrap (fo : Int) = (fo : Int) := IntWalk.u64_in _ (by omega)
 obtain ⟨p, hp⟩ : ∃ p : Nat, p = fo + 16384 := ⟨_, rfl⟩
 rw [← hp] at f1
 have hpl : pl4 true false fo = p := by simp [pl4]; omega
 have hp6 : p < 65536 := by omega
 have hol := hr.1
 have hx1 : x0 = 69 + o.length / 4 := by omega
 have hb : Bk (w.alloc (.cells (h4C ts (ln : Int) id true false (fo : Int) tl pr sm false 0 sl false 0 dl A n k).toArray 99)) w.heap.size 99 (h4C ts (ln : Int) id true false (fo : Int) tl pr sm false 0 sl false 0 dl A n k) := Bk.new w 99 (h4C ts (ln : Int) id true false (fo : Int) tl pr sm false 0 sl false 0 dl A n k).toArray
 have be : Below w.heap.size w (w.alloc (.cells (h4C ts (ln : Int) id true false (fo : Int) tl pr sm false 0 sl false 0 dl A n k).toArray 99)) := Below.allocS (Below.refl _ _) _
 rw [hpl]
 replace hx1 := Lib.hid hx1
 replace hol := Lib.hid hol
 have hx9 : x0 < 256 := by omega
 clear hpl hx0 hz0 hq hp
 go_enter Tryz.func67, Tryz.ntmps67
 go_upto_region 1 with (fail)
 generalize w.alloc (.cells (h4C ts (ln : Int) id true false (fo : Int) tl pr sm false 0 sl false 0 dl A n k).toArray 99) = W at *
 have hrW := hr.later be
 have y0 : W.cell? ⟨w.heap.size, 0, none⟩ = some (.int .u8 (ts : Int)) := hb.cell 0
 have y1 : W.cell? ⟨w.heap.size, 1, none⟩ = some (.int .i64 (ln : Int)) := hb.cell 1
 have y2 : W.cell? ⟨w.heap.size, 2, none⟩ = some (.int .u16 (id : Int)) := hb.cell 2
 have y3 : W.cell? ⟨w.heap.size, 3, none⟩ = some (.bool true) := hb.cell 3
 have y4 : W.cell? ⟨w.heap.size, 4, none⟩ = some (.bool false) := hb.cell 4
 have y5 : W.cell? ⟨w.heap.size, 5, none⟩ = some (.int .i64 (fo : Int)) := hb.cell 5
 have y6 : W.cell? ⟨w.heap.size, 6, none⟩ = some (.int .u8 (tl : Int)) := hb.cell 6
 have y7 : W.cell? ⟨w.heap.size, 7, none⟩ = some (.int .u8 (pr : Int)) := hb.cell 7
 have y15 : W.cell? ⟨w.heap.size, 15, none⟩ = some (.slice A n k) := hb.cell 15
 have zb := hb.lt
 go_wp2_with (refine at_op (.load 99 (.tmp 1)) rfl ?_; refine wpList_ldA (t := 99) 99 (.tmp 1) rfl rfl (h4C ts (ln : Int) id true false (fo : Int) tl pr sm false 0 sl false 0 dl A n k) rfl (by with_reducible repeat (first | exact hb | refine Bk.later ?_ (below_plus _ _ _) | refine Bk.alloc ?_ _)) (whole_ _) u1 u2 (szH4 _ _ _ _ _ _ _ _ _ _ _ _ _ _ _ _ _ _) ?_)
 refine (HR.out _).mono ?_
 rintro e w1 ⟨bsr, mr, rfl, rfl⟩
 go_wp2_with (refine at_op (.load 99 (.tmp 1)) rfl ?_; refine wpList_ldA (t := 99) 99 (.tmp 1) rfl rfl (h4C ts (ln : Int) id true false (fo : Int) tl pr sm false 0 sl false 0 dl A n k) rfl (by with_reducible repeat (first | exact hb | refine Bk.later ?_ (below_plus _ _ _) | refine Bk.alloc ?_ _)) (whole_ _) u1 u2 (szH4 _ _ _ _ _ _ _ _ _ _ _ _ _ _ _ _ _ _) ?_)
 refine (HS.out _).mono ?_
 rintro e w1 ⟨bs0, m0, rfl, rfl⟩
 go_wp2_with fail
 refine (put_full _ _ _ [] x0 1 _ Rb.nil_ (by omega) (by omega) (by omega) (by omega)).mono ?_
 rintro e w1 ⟨A1, n1, bs1, m1, rfl, rfl, ho1⟩
 have l1 : n1 ≤ 100 := by rw [← ho1.1]; simp [dig_length]
 go_wp2_with fail
 refine (put_full _ _ _ _ ts 1 _ ho1.rb (by omega) (by omega) (by omega) (by omega)).mono ?_
 rintro e w1 ⟨A2, n2, bs2, m2, rfl, rfl, ho2⟩
 have l2 : n2 ≤ 100 := by rw [← ho2.1]; simp [dig_length]
 go_wp2_with fail
 refine (put_full _ _ _ _ ln 2 _ ho2.rb (by omega) (by omega) (by omega) (by omega)).mono ?_
 rintro e w1 ⟨A3, n3, bs3, m3, rfl, rfl, ho3⟩
 have l3 : n3 ≤ 100 := by rw [← ho3.1]; simp [dig_length]
 go_wp2_with fail
 refine (put_full _ _ _ _ id 2 _ ho3.rb (by omega) (by omega) (by omega) (by omega)).mono ?_
 rintro e w1 ⟨A4, n4, bs4, m4, rfl, rfl, ho4⟩
 have l4 : n4 ≤ 100 := by rw [← ho4.1]; simp [dig_length]
 go_wp2_with fail
 refine (put_full _ _ _ _ p 2 _ ho4.rb (by omega) (by omega) (by omega) (by omega)).mono ?_
 rintro e w1 ⟨A5, n5, bs5, m5, rfl, rfl, ho5⟩
 have l5 : n5 ≤ 100 := by rw [← ho5.1]; simp [dig_length]
 go_wp2_with fail
 refine (put_full _ _ _ _ tl 1 _ ho5.rb (by omega) (by omega) (by omega) (by omega)).mono ?_
 rintro e w1 ⟨A6, n6, bs6, m6, rfl, rfl, ho6⟩
 have l6 : n6 ≤ 100 := by rw [← ho6.1]; simp [dig_length]
 go_wp2_with fail
 refine (put_full _ _ _ _ pr 1 _ ho6.rb (by omega) (by omega) (by omega) (by omega)).mono ?_
 rintro e w1 ⟨A7, n7, bs7, m7, rfl, rfl, ho7⟩
 have l7 : n7 ≤ 100 := by rw [← ho7.1]; simp [dig_length]
 go_wp2_with fail
 refine (put_full _ _ _ _ 0 2 _ ho7.rb (by omega) (by omega) (by omega) (by omega)).mono ?_
 rintro e w1 ⟨A8, n8, bs8, m8, rfl, rfl, ho8⟩
 have l8 : n8 ≤ 100 := by rw [← ho8.1]; simp [dig_length]
 go_wp2_with (refine at_op (.load 24 (.tmp 56)) rfl ?_; refine wpList_ldA (t := 99) (cs := h4C ts (ln : Int) id true false (fo : Int) tl pr sm false 0 sl false 0 dl A n k) 24 (.tmp 56) rfl rfl (adC false 0 sl) rfl (by with_reducible repeat (first | exact hb | refine Bk.later ?_ (below_plus _ _ _) | refine Bk.alloc ?_ _)) rfl v1 v2 (szAd _ _ _) ?_)
 refine (adrBytes_any false 0 sl _ (by omega) (by omega)).mono ?_
 rintro e w1 ⟨A9, n9, bs9, m9, rfl, rfl, ho9⟩
 have l9 : n9 ≤ 100 := by rw [← ho9.1]; have := adrB_length false 0 sl; omega
 go_wp2_with (first
  | (at_builtin; refine wpList_appP _ bt rfl (.tmp 55) (.tmp 58) rfl (by exact belowP (below_plus _ bs8 m8) bs9 m9) rfl (ho8.plus_ bs9 m9) rfl (ho9.rb) (by omega) ?_; intro Aa na ka bsa ma hoa hga)
  | (refine at_op (.load 24 (.tmp 61)) rfl ?_; refine wpList_ldA (t := 99) (cs := h4C ts (ln : Int) id true false (fo : Int) tl pr sm false 0 sl false 0 dl A n k) 24 (.tmp 61) rfl rfl (adC false 0 dl) rfl (by with_reducible repeat (first | exact hb | refine Bk.later ?_ (below_plus _ _ _) | refine Bk.alloc ?_ _)) rfl v1 v2 (szAd _ _ _) ?_))
 have la : na ≤ 300 := by rw [← hoa.1]; have := adrB_length false 0 sl; simp [dig_length]; omega
 refine (adrBytes_any false 0 dl _ (by omega) (by omega)).mono ?_
 rintro e w1 ⟨Ab, nb, bsb, mb, rfl, rfl, hob⟩
 have lb : nb ≤ 100 := by rw [← hob.1]; have := adrB_length false 0 dl; omega
 go_wp2_with (first
  | (at_builtin; refine wpList_appP _ bt rfl (.tmp 60) (.tmp 63) rfl (by exact belowP (below_plus _ bsa ma) bsb mb) rfl (hoa.plus_ bsb mb) rfl (hob.rb) (by omega) ?_; intro Ac nc kc bsc mc hoc hgc; have lc : nc ≤ 500 := (by rw [← hoc.1]; have h1 := adrB_length false 0 sl; have h2 := adrB_length false 0 dl; simp [dig_length]; omega))
  | (at_builtin; refine wpList_appP (l2 := o) _ bt rfl (.tmp 65) (.tmp 67) rfl (by exact below_plus _ bsc mc) rfl (hoc) rfl (by with_reducible repeat (first | exact hrW | refine Rb.plus_ ?_ _ _)) (by omega) ?_; intro Ad nd kd bsd md hod hgd))
 have hL : [] ++ dig x0 1 ++ dig ts 1 ++ dig ln 2 ++ dig id 2 ++ dig p 2 ++ dig tl 1 ++ dig pr 1 ++ dig 0 2 ++ adrB false 0 sl ++ adrB false 0 dl ++ o = ip4B ts ln id p tl pr 0 sl dl o := by rw [hx1.out]; simp [ip4B, adrB]
 rw [hL] at hod
 have hset := Lib.hid (fun s => setB_ip4 ts ln id p tl pr s sl dl o)
 have hlen := ip4B_length ts ln id p tl pr 0 sl dl o
 have hK : Hid (ip4K ts ln id p tl pr sl dl o = 65535 - fd (tot false (ip4B ts ln id p tl pr 0 sl dl o))) := Lib.hid rfl
 clear hL
 generalize ip4B ts ln id p tl pr 0 sl dl o = L0 at *
 rw [hol.out] at hlen
 have HO := Lib.hid (fun w A1 c1 (h : RdL w A1 1 [L0]) => sumOf A1 1 c1 _ w h (by omega) (by simp; omega))
 have hs1 : 65535 - fd (tot false L0) ≤ 65535 := Nat.sub_le _ _
 have hfl : ([L0] : List (List UInt8)).flatten = L0 := by simp
 rw [hfl] at HO
 generalize 65535 - fd (tot false L0) = s at *
 have hnd1 : 10 + 2 ≤ nd := by have := hod.1; omega
 have hnd2 : nd ≤ 549755813888 := by have := hod.1; omega
 have hs2 : s < 18446744073709551616 := by omega
 have gs : IntKind.u64.wrap (s : Int) = (s : Int) := IntWalk.u64_in _ (by omega)
 refine (HO.out _ _ _ (RdL.litW [.slice Ad nd kd] [L0] (by simp [size_plus]) (.cons ⟨_, _, _, rfl, hod.rb⟩ .nil))).mono ?_
 rintro e w1 ⟨rfl, rfl⟩
 go_wp2_with fail
 refine (octSet Ad nd kd L0 10 s 2 _ (hod.rb.alloc _) hnd1 (by decide) (by decide) hs2 hnd2).mono ?_
 rintro e w1 ⟨Ae, ne, ke, bse, me, rfl, rfl, hoe⟩
 go_wp2
 go_ret
 rw [hset.out] at hoe
 rw [hK.out]
 refine RetB.mk (hoe.mono ?_) ?_
 ·simp [size_plus]; omega
 ·with_reducible repeat (first | exact be | refine belowP ?_ _ _ | refine Below.allocS ?_ _)
theorem ip4Bytes_yy (ts ln id : Nat) (fo tl pr sm sl dl : Nat) (A : Option Addr) (n k : Nat) (o : List UInt8) (w : World) (hr : Rb w A n k o) (b1 : ts < 256) (b2 : id < 65536) (b3 : tl < 256) (b4 : pr < 256) (b5 : sl < 4294967296) (b6 : dl < 4294967296) (c1 : n ≤ 40) (c2 : n % 4 = 0) (c3 : 20 + n ≤ ln) (c4 : ln ≤ 65535) (c5 : fo ≤ 8191) : Calls Tryz.prog 67 #[.agg (h4C ts (ln : Int) id true true (fo : Int) tl pr sm false 0 sl false 0 dl A n k).toArray] w (RetB w (ip4B ts ln id (pl4 true true fo) tl pr (ip4K ts ln id (pl4 true true fo) tl pr sl dl o) sl dl o)) := by
 obtain ⟨du, u1, u2⟩ := rowH4
 obtain ⟨dv, v1, v2⟩ := rowAd
 have HR := Lib.hid (fun w => right4 ts (ln : Int) id true true (fo : Int) tl pr sm false 0 sl false 0 dl A n k w (by omega) (by omega) (by omega) (by omega) (by omega) (by omega) (by omega))
 rw [r4_yes n ln fo sl dl c1 c2 c3 c4 c5 b5 b6] at HR
 have HS := Lib.hid (fun w => size4 ts (ln : Int) id true true (fo : Int) tl pr sm false 0 sl false 0 dl A n k w (by omega))
 obtain ⟨z, hz0⟩ : ∃ z : Nat, z = 20 + n := ⟨_, rfl⟩
 rw [← hz0] at HS
 obtain ⟨q, hq⟩ : ∃ q : Nat, q = 5 + n / 4 := ⟨_, rfl⟩
 have g1 : (z : Int).tdiv 4 = (q : Int) := by rw [Int.tdiv_eq_ediv_of_nonneg (by omega)]; omega
 have g2 : IntKind.i64.wrap (q : Int) = (q : Int) := IntWalk.i64_in _ (by omega)
 have g3 := or64 ⟨q, by omega⟩
 obtain ⟨x0, hx0⟩ : ∃ x : Nat, x = 64 + q := ⟨_, rfl⟩
 replace g3 : bits .or .i64 64 (q : Int) = (x0 : Int) := by rw [hx0]; exact g3
 have g4 : IntKind.u64.wrap (x0 : Int) = (x0 : Int) := IntWalk.u64_in _ (by omega)
 have g5 : IntKind.u64.wrap (ts : Int) = (ts : Int) := IntWalk.u64_in _ (by omega)
 have g6 : IntKind.u64.wrap (ln : Int) = (ln : Int) := IntWalk.u64_in _ (by omega)
 have g7 : IntKind.u64.wrap (id : Int) = (id : Int) := IntWalk.u64_in _ (by omega)
 have g8 : IntKind.u64.wrap (tl : Int) = (tl : Int) := IntWalk.u64_in _ (by omega)
 have g9 : IntKind.u64.wrap (pr : Int) = (pr : Int) := IntWalk.u64_in _ (by omega)
 have f1 := or14 fo (by omega)
 have f2 := or1413 fo (by omega)
 have fp : IntKind.u64.wrap (fo : Int) = (fo : Int) := IntWalk.u64_in _ (by omega)
 obtain ⟨p1, hp1⟩ : ∃ p : Nat, p = fo + 16384 := ⟨_, rfl⟩
 rw [← hp1] at f1 f2
 obtain ⟨p, hp⟩ : ∃ p : Nat, p = p1 + 8192 := ⟨_, rfl⟩
 rw [← hp] at f2
 have hpl : pl4 true true fo = p := by simp [pl4]; omega
 have hp6 : p < 65536 := by omega
 have hol := hr.1
 have hx1 : x0 = 69 + o.length / 4 := by omega
 have hb : Bk (w.alloc (.cells (h4C ts (ln : Int) id true true (fo : Int) tl pr sm false 0 sl false 0 dl A n k).toArray 99)) w.heap.size 99 (h4C ts (ln : Int) id true true (fo : Int) tl pr sm false 0 sl false 0 dl A n k) := Bk.new w 99 (h4C ts (ln : Int) id true true (fo : Int) tl pr sm false 0 sl false 0 dl A n k).toArray
 have be : Below w.heap.size w (w.alloc (.cells (h4C ts (ln : Int) id true true (fo : Int) tl pr sm false 0 sl false 0 dl A n k).toArray 99)) := Below.allocS (Below.refl _ _) _
 rw [hpl]
 replace hx1 := Lib.hid hx1
 replace hol := Lib.hid hol
 have hx9 : x0 < 256 := by omega
 clear hpl hx0 hz0 hq hp hp1
 go_enter Tryz.func67, Tryz.ntmps67
 go_upto_region 1 with (fail)
 generalize w.alloc (.cells (h4C ts (ln : Int) id true true (fo : Int) tl pr sm false 0 sl false 0 dl A n k).toArray 99) = W at *
 have hrW := hr.later be
 have y0 : W.cell? ⟨w.heap.size, 0, none⟩ = some (.int .u8 (ts : Int)) := hb.cell 0
 have y1 : W.cell? ⟨w.heap.size, 1, none⟩ = some (.int .i64 (ln : Int)) := hb.cell 1
 have y2 : W.cell? ⟨w.heap.size, 2, none⟩ = some (.int .u16 (id : Int)) := hb.cell 2
 have y3 : W.cell? ⟨w.heap.size, 3, none⟩ = some (.bool true) := hb.cell 3
 have y4 : W.cell? ⟨w.heap.size, 4, none⟩ = some (.bool true) := hb.cell 4
 have y5 : W.cell? ⟨w.heap.size, 5, none⟩ = some (.int .i64 (fo : Int)) := hb.cell 5
 have y6 : W.cell? ⟨w.heap.size, 6, none⟩ = some (.int .u8 (tl : Int)) := hb.cell 6
 have y7 : W.cell? ⟨w.heap.size, 7, none⟩ = some (.int .u8 (pr : Int)) := hb.cell 7
 have y15 : W.cell? ⟨w.heap.size, 15, none⟩ = some (.slice A n k) := hb.cell 15
 have zb := hb.lt
 go_wp2_with (refine at_op (.load 99 (.tmp 1)) rfl ?_; refine wpList_ldA (t := 99) 99 (.tmp 1) rfl rfl (h4C ts (ln : Int) id true true (fo : Int) tl pr sm false 0 sl false 0 dl A n k) rfl (by with_reducible repeat (first | exact hb | refine Bk.later ?_ (below_plus _ _ _) | refine Bk.alloc ?_ _)) (whole_ _) u1 u2 (szH4 _ _ _ _ _ _ _ _ _ _ _ _ _ _ _ _ _ _) ?_)
 refine (HR.out _).mono ?_
 rintro e w1 ⟨bsr, mr, rfl, rfl⟩
 go_wp2_with (refine at_op (.load 99 (.tmp 1)) rfl ?_; refine wpList_ldA (t := 99) 99 (.tmp 1) rfl rfl (h4C ts (ln : Int) id true true (fo : Int) tl pr sm false 0 sl false 0 dl A n k) rfl (by with_reducible repeat (first | exact hb | refine Bk.later ?_ (below_plus _ _ _) | refine Bk.alloc ?_ _)) (whole_ _) u1 u2 (szH4 _ _ _ _ _ _ _ _ _ _ _ _ _ _ _ _ _ _) ?_)
 refine (HS.out _).mono ?_
 rintro e w1 ⟨bs0, m0, rfl, rfl⟩
 go_wp2_with fail
 refine (put_full _ _ _ [] x0 1 _ Rb.nil_ (by omega) (by omega) (by omega) (by omega)).mono ?_
 rintro e w1 ⟨A1, n1, bs1, m1, rfl, rfl, ho1⟩
 have l1 : n1 ≤ 100 := by rw [← ho1.1]; simp [dig_length]
 go_wp2_with fail
 refine (put_full _ _ _ _ ts 1 _ ho1.rb (by omega) (by omega) (by omega) (by omega)).mono ?_
 rintro e w1 ⟨A2, n2, bs2, m2, rfl, rfl, ho2⟩
 have l2 : n2 ≤ 100 := by rw [← ho2.1]; simp [dig_length]
 go_wp2_with fail
 refine (put_full _ _ _ _ ln 2 _ ho2.rb (by omega) (by omega) (by omega) (by omega)).mono ?_
 rintro e w1 ⟨A3, n3, bs3, m3, rfl, rfl, ho3⟩
 have l3 : n3 ≤ 100 := by rw [← ho3.1]; simp [dig_length]
 go_wp2_with fail
 refine (put_full _ _ _ _ id 2 _ ho3.rb (by omega) (by omega) (by omega) (by omega)).mono ?_
 rintro e w1 ⟨A4, n4, bs4, m4, rfl, rfl, ho4⟩
 have l4 : n4 ≤ 100 := by rw [← ho4.1]; simp [dig_length]
 go_wp2_with fail
 refine (put_full _ _ _ _ p 2 _ ho4.rb (by omega) (by omega) (by omega) (by omega)).mono ?_
 rintro e w1 ⟨A5, n5, bs5, m5, rfl, rfl, ho5⟩
 have l5 : n5 ≤ 100 := by rw [← ho5.1]; simp [dig_length]
 go_wp2_with fail
 refine (put_full _ _ _ _ tl 1 _ ho5.rb (by omega) (by omega) (by omega) (by omega)).mono ?_
 rintro e w1 ⟨A6, n6, bs6, m6, rfl, rfl, ho6⟩
 have l6 : n6 ≤ 100 := by rw [← ho6.1]; simp [dig_length]
 go_wp2_with fail
 refine (put_full _ _ _ _ pr 1 _ ho6.rb (by omega) (by omega) (by omega) (by omega)).mono ?_
 rintro e w1 ⟨A7, n7, bs7, m7, rfl, rfl, ho7⟩
 have l7 : n7 ≤ 100 := by rw [← ho7.1]; simp [dig_length]
 go_wp2_with fail
 refine (put_full _ _ _ _ 0 2 _ ho7.rb (by omega) (by omega) (by omega) (by omega)).mono ?_
 rintro e w1 ⟨A8, n8, bs8, m8, rfl, rfl, ho8⟩
 have l8 : n8 ≤ 100 := by rw [← ho8.1]; simp [dig_length]
 go_wp2_with (refine at_op (.load 24 (.tmp 56)) rfl ?_; refine wpList_ldA (t := 99) (cs := h4C ts (ln : Int) id true true (fo : Int) tl pr sm false 0 sl false 0 dl A n k) 24 (.tmp 56) rfl rfl (adC false 0 sl) rfl (by with_reducible repeat (first | exact hb | refine Bk.later ?_ (below_plus _ _ _) | refine Bk.alloc ?_ _)) rfl v1 v2 (szAd _ _ _) ?_)
 refine (adrBytes_any false 0 sl _ (by omega) (by omega)).mono ?_
 rintro e w1 ⟨A9, n9, bs9, m9, rfl, rfl, ho9⟩
 have l9 : n9 ≤ 100 := by rw [← ho9.1]; have := adrB_length false 0 sl; omega
 go_wp2_with (first
  | (at_builtin; refine wpList_appP _ bt rfl (.tmp 55) (.tmp 58) rfl (by exact belowP (below_plus _ bs8 m8) bs9 m9) rfl (ho8.plus_ bs9 m9) rfl (ho9.rb) (by omega) ?_; intro Aa na ka bsa ma hoa hga)
  | (refine at_op (.load 24 (.tmp 61)) rfl ?_; refine wpList_ldA (t := 99) (cs := h4C ts (ln : Int) id true true (fo : Int) tl pr sm false 0 sl false 0 dl A n k) 24 (.tmp 61) rfl rfl (adC false 0 dl) rfl (by with_reducible repeat (first | exact hb | refine Bk.later ?_ (below_plus _ _ _) | refine Bk.alloc ?_ _)) rfl v1 v2 (szAd _ _ _) ?_))
 have la : na ≤ 300 := by rw [← hoa.1]; have := adrB_length false 0 sl; simp [dig_length]; omega
 refine (adrBytes_any false 0 dl _ (by omega) (by omega)).mono ?_
 rintro e w1 ⟨Ab, nb, bsb, mb, rfl, rfl, hob⟩
 have lb : nb ≤ 100 := by rw [← hob.1]; have := adrB_length false 0 dl; omega
 go_wp2_with (first
  | (at_builtin; refine wpList_appP _ bt rfl (.tmp 60) (.tmp 63) rfl (by exact belowP (below_plus _ bsa ma) bsb mb) rfl (hoa.plus_ bsb mb) rfl (hob.rb) (by omega) ?_; intro Ac nc kc bsc mc hoc hgc; have lc : nc ≤ 500 := (by rw [← hoc.1]; have h1 := adrB_length false 0 sl; have h2 := adrB_length false 0 dl; simp [dig_length]; omega))
  | (at_builtin; refine wpList_appP (l2 := o) _ bt rfl (.tmp 65) (.tmp 67) rfl (by exact below_plus _ bsc mc) rfl (hoc) rfl (by with_reducible repeat (first | exact hrW | refine Rb.plus_ ?_ _ _)) (by omega) ?_; intro Ad nd kd bsd md hod hgd))
 have hL : [] ++ dig x0 1 ++ dig ts 1 ++ dig ln 2 ++ dig id 2 ++ dig p 2 ++ dig tl 1 ++ dig pr 1 ++ dig 0 2 ++ adrB false 0 sl ++ adrB false 0 dl ++ o = ip4B ts ln id p tl pr 0 sl dl o := by rw [hx1.out]; simp [ip4B, adrB]
 rw [hL] at hod
 have hset := Lib.hid (fun s => setB_ip4 ts ln id p tl pr s sl dl o)
 have hlen := ip4B_length ts ln id p tl pr 0 sl dl o
 have hK : Hid (ip4K ts ln id p tl pr sl dl o = 65535 - fd (tot false (ip4B ts ln id p tl pr 0 sl dl o))) := Lib.hid rfl
 clear hL
 generalize ip4B ts ln id p tl pr 0 sl dl o = L0 at *
 rw [hol.out] at hlen
 have HO := Lib.hid (fun w A1 c1 (h : RdL w A1 1 [L0]) => sumOf A1 1 c1 _ w h (by omega) (by simp; omega))
 have hs1 : 65535 - fd (tot false L0) ≤ 65535 := Nat.sub_le _ _
 have hfl : ([L0] : List (List UInt8)).flatten = L0 := by simp
 rw [hfl] at HO
 generalize 65535 - fd (tot false L0) = s at *
 have hnd1 : 10 + 2 ≤ nd := by have := hod.1; omega
 have hnd2 : nd ≤ 549755813888 := by have := hod.1; omega
 have hs2 : s < 18446744073709551616 := by omega
 have gs : IntKind.u64.wrap (s : Int) = (s : Int) := IntWalk.u64_in _ (by omega)
 refine (HO.out _ _ _ (RdL.litW [.slice Ad nd kd] [L0] (by simp [size_plus]) (.cons ⟨_, _, _, rfl, hod.rb⟩ .nil))).mono ?_
 rintro e w1 ⟨rfl, rfl⟩
 go_wp2_with fail
 refine (octSet Ad nd kd L0 10 s 2 _ (hod.rb.alloc _) hnd1 (by decide) (by decide) hs2 hnd2).mono ?_
 rintro e w1 ⟨Ae, ne, ke, bse, me, rfl, rfl, hoe⟩
 go_wp2
 go_ret
 rw [hset.out] at hoe
 rw [hK.out]
 refine RetB.mk (hoe.mono ?_) ?_
 ·simp [size_plus]; omega
 ·with_reducible repeat (first | exact be | refine belowP ?_ _ _ | refine Below.allocS ?_ _)
theorem ip4Bytes_yes (ts ln id : Nat) (st mo : Bool) (fo tl pr sm sl dl : Nat) (A : Option Addr) (n k : Nat) (o : List UInt8) (w : World) (hr : Rb w A n k o) (b1 : ts < 256) (b2 : id < 65536) (b3 : tl < 256) (b4 : pr < 256) (b5 : sl < 4294967296) (b6 : dl < 4294967296) (c1 : n ≤ 40) (c2 : n % 4 = 0) (c3 : 20 + n ≤ ln) (c4 : ln ≤ 65535) (c5 : fo ≤ 8191) : Calls Tryz.prog 67 #[.agg (h4C ts (ln : Int) id st mo (fo : Int) tl pr sm false 0 sl false 0 dl A n k).toArray] w (RetB w (ip4B ts ln id (pl4 st mo fo) tl pr (ip4K ts ln id (pl4 st mo fo) tl pr sl dl o) sl dl o)) := by
 cases st
 ·cases mo
  ·exact ip4Bytes_nn ts ln id fo tl pr sm sl dl A n k o w hr b1 b2 b3 b4 b5 b6 c1 c2 c3 c4 c5
  ·exact ip4Bytes_ny ts ln id fo tl pr sm sl dl A n k o w hr b1 b2 b3 b4 b5 b6 c1 c2 c3 c4 c5
 ·cases mo
  ·exact ip4Bytes_yn ts ln id fo tl pr sm sl dl A n k o w hr b1 b2 b3 b4 b5 b6 c1 c2 c3 c4 c5
  ·exact ip4Bytes_yy ts ln id fo tl pr sm sl dl A n k o w hr b1 b2 b3 b4 b5 b6 c1 c2 c3 c4 c5
end

section
open Go.RowKit
attribute [local go_sem ↓] sliced_cut
attribute [local go_sem] cutA_zero
set_option maxHeartbeats 4000000
set_option maxRecDepth 100000
theorem hdr4_short (A : Option Addr) (n c : Nat) (l : List UInt8) (w : World) (h : Rb w A n c l) (hm9 : n ≤ 2000000) (hn : n < 20) : Calls Tryz.prog 64 #[.slice A n c] w (RetV w (.tuple #[.agg (h4C 0 0 0 false false 0 0 0 0 false 0 0 false 0 0 none 0 0).toArray, .int .i64 0, .int .i64 20])) := by
 obtain ⟨du, u1, u2⟩ := rowH4
 have d20 : decide ((n : Int) < 20) = true := by simp only [decide_eq_true_eq]; omega
 have b2 : Bk (w.alloc (.cells #[.int .u8 0, .int .i64 0, .int .u16 0, .bool false, .bool false, .int .i64 0, .int .u8 0, .int .u8 0, .int .u16 0, .bool false, .int .u64 0, .int .u64 0, .bool false, .int .u64 0, .int .u64 0, .slice none 0 0] 99)) w.heap.size 99 (h4C 0 0 0 false false 0 0 0 0 false 0 0 false 0 0 none 0 0) := Bk.new w 99 #[.int .u8 0, .int .i64 0, .int .u16 0, .bool false, .bool false, .int .i64 0, .int .u8 0, .int .u8 0, .int .u16 0, .bool false, .int .u64 0, .int .u64 0, .bool false, .int .u64 0, .int .u64 0, .slice none 0 0]
 have be : Below w.heap.size w (w.alloc (.cells #[.int .u8 0, .int .i64 0, .int .u16 0, .bool false, .bool false, .int .i64 0, .int .u8 0, .int .u8 0, .int .u16 0, .bool false, .int .u64 0, .int .u64 0, .bool false, .int .u64 0, .int .u64 0, .slice none 0 0] 99)) := Below.allocS (Below.refl _ _) _
 go_enter Tryz.func64, Tryz.ntmps64
 go_wp2_with (refine at_op (.store 99 (.tmp 2) (.tmp 13)) rfl ?_; refine wpList_stA (t := 99) 99 (.tmp 2) (.tmp 13) rfl rfl (h4C 0 0 0 false false 0 0 0 0 false 0 0 false 0 0 none 0 0) (h4C 0 0 0 false false 0 0 0 0 false 0 0 false 0 0 none 0 0) rfl (h4C_one _ _ _ _ _ _ _ _ _ _ _ _ _ _ _ _ _ _) rfl rfl b2 (szH4 _ _ _ _ _ _ _ _ _ _ _ _ _ _ _ _ _ _) ?_; intro W9 h9 g9)
 refine bodyPost_agg3 Tryz.results64 rfl rfl rfl h9.range u1 u2 (szH4 _ _ _ _ _ _ _ _ _ _ _ _ _ _ _ _ _ _) rfl (RetV.mk ?_)
 exact below_grown be g9 (by omega)
theorem and_bit (x i : Nat) : x &&& 2 ^ i = x / 2 ^ i % 2 * 2 ^ i := by
 have hb : x.testBit i = decide (x / 2 ^ i % 2 = 1) := Nat.testBit_eq_decide_div_mod_eq
 apply Nat.eq_of_testBit_eq
 intro j
 rw [Nat.testBit_and, Nat.testBit_two_pow]
 by_cases h1 : x / 2 ^ i % 2 = 1
 ·rw [h1, Nat.one_mul, Nat.testBit_two_pow]
  by_cases hj : i = j
  ·subst hj
   rw [hb]
   simp [h1]
  ·simp [hj]
 ·have h0 : x / 2 ^ i % 2 = 0 := by omega
  rw [h0, Nat.zero_mul, Nat.zero_testBit]
  by_cases hj : i = j
  ·subst hj
   rw [hb]
   simp [h0]
  ·simp [hj]
theorem and_2k (x i : Nat) (h : x < 65536) (hi : i < 16) : bits .and .u16 (x : Int) ((2 ^ i : Nat) : Int) = (((x / 2 ^ i % 2) * 2 ^ i : Nat) : Int) := by
 rw [u16_and_nat x (2 ^ i) h (Nat.lt_of_lt_of_le (Nat.pow_lt_pow_right (by decide) hi) (by decide)), and_bit]
theorem and15 (x : Nat) (h : x < 65536) : bits .and .u16 (x : Int) 32768 = ((x / 32768 % 2 * 32768 : Nat) : Int) := and_2k x 15 h (by decide)
theorem and14 (x : Nat) (h : x < 65536) : bits .and .u16 (x : Int) 16384 = ((x / 16384 % 2 * 16384 : Nat) : Int) := and_2k x 14 h (by decide)
theorem and13 (x : Nat) (h : x < 65536) : bits .and .u16 (x : Int) 8192 = ((x / 8192 % 2 * 8192 : Nat) : Int) := and_2k x 13 h (by decide)
theorem and8191 (x : Nat) (h : x < 65536) : bits .and .u16 (x : Int) 8191 = ((x % 8192 : Nat) : Int) := by
 have := u16_and_nat x 8191 h (by decide)
 rw [show (8191 : Nat) = 2 ^ 13 - 1 from rfl, Nat.and_two_pow_sub_one_eq_mod] at this
 exact this
theorem hdr4_f1 (A : Option Addr) (n c : Nat) (l : List UInt8) (w : World) (h : Rb w A n c l) (hm9 : n ≤ 2000000) (f ts ln id pl : Nat) (x0 : num ((l.drop 0).take 1) = f) (x1 : num ((l.drop 1).take 1) = ts) (x2 : num ((l.drop 2).take 2) = ln) (x3 : num ((l.drop 4).take 2) = id) (x4 : num ((l.drop 6).take 2) = pl) (hn : 20 ≤ n) (hb : f / 16 ≠ 4) : Calls Tryz.prog 64 #[.slice A n c] w (RetV w (.tuple #[.agg (h4C 0 0 0 false false 0 0 0 0 false 0 0 false 0 0 none 0 0).toArray, .int .i64 0, .int .i64 21])) := by
 obtain ⟨du, u1, u2⟩ := rowH4
 have hc := h.2.1
 have hl := h.1
 have h20n : (20 : Int) ≤ (n : Int) := by omega
 have h20c : (20 : Int) ≤ (c : Int) := by omega
 have d20 : decide ((n : Int) < 20) = false := by simp only [decide_eq_false_iff_not]; omega
 have ht20 : Rb w A 20 c (l.take 20) := h.take (by omega)
 have hf8 : f < 256 := by rw [← x0]; exact num_lt' l 0 1 256 (by decide)
 have hpl : pl < 65536 := by rw [← x4]; exact num_lt' l 6 2 65536 (by decide)
 have hln : ln < 65536 := by rw [← x2]; exact num_lt' l 2 2 65536 (by decide)
 replace x0 : Hid (num (((l.take 20).drop 0).take 1) = f) := Lib.hid (by rw [num_in l 20 0 1 (by decide)]; exact x0)
 replace x1 : Hid (num (((l.take 20).drop 1).take 1) = ts) := Lib.hid (by rw [num_in l 20 1 1 (by decide)]; exact x1)
 replace x2 : Hid (num (((l.take 20).drop 2).take 2) = ln) := Lib.hid (by rw [num_in l 20 2 2 (by decide)]; exact x2)
 replace x3 : Hid (num (((l.take 20).drop 4).take 2) = id) := Lib.hid (by rw [num_in l 20 4 2 (by decide)]; exact x3)
 replace x4 : Hid (num (((l.take 20).drop 6).take 2) = pl) := Lib.hid (by rw [num_in l 20 6 2 (by decide)]; exact x4)
 have hB : (l.take 20).length = 20 := by rw [List.length_take]; omega
 have HR := Lib.hid (fun W (h : Rb W A 20 c (l.take 20)) => readK A 20 c (l.take 20) W h (by decide))
 generalize l.take 20 = B at *
 have hB1 : B.length ≤ 20 := by omega
 have hB2 : 20 ≤ B.length := by omega
 clear hB
 obtain ⟨m, hm⟩ : ∃ m : Nat, m = f % 16 := ⟨_, rfl⟩
 have e1 := u8_and15 f hf8
 rw [← hm] at e1
 obtain ⟨sz, hsz⟩ : ∃ s : Nat, s = 4 * m := ⟨_, rfl⟩
 have e2 : IntKind.i64.wrap (4 * (m : Int)) = (sz : Int) := by rw [IntWalk.i64_in _ (by omega)]; omega
 have e3 : IntKind.i64.wrap (m : Int) = (m : Int) := IntWalk.i64_in _ (by omega)
 have e4 : IntKind.i64.wrap (ln : Int) = (ln : Int) := IntWalk.i64_in _ (by omega)
 have hb1n : ((f : Int) / 16 != 4) = true := by rw [bne_iff_ne]; omega
 clear hm hsz
 have b2 : Bk (w.alloc (.cells #[.int .u8 0, .int .i64 0, .int .u16 0, .bool false, .bool false, .int .i64 0, .int .u8 0, .int .u8 0, .int .u16 0, .bool false, .int .u64 0, .int .u64 0, .bool false, .int .u64 0, .int .u64 0, .slice none 0 0] 99)) w.heap.size 99 (h4C 0 0 0 false false 0 0 0 0 false 0 0 false 0 0 none 0 0) := Bk.new w 99 #[.int .u8 0, .int .i64 0, .int .u16 0, .bool false, .bool false, .int .i64 0, .int .u8 0, .int .u8 0, .int .u16 0, .bool false, .int .u64 0, .int .u64 0, .bool false, .int .u64 0, .int .u64 0, .slice none 0 0]
 have be : Below w.heap.size w (w.alloc (.cells #[.int .u8 0, .int .i64 0, .int .u16 0, .bool false, .bool false, .int .i64 0, .int .u8 0, .int .u8 0, .int .u16 0, .bool false, .int .u64 0, .int .u64 0, .bool false, .int .u64 0, .int .u64 0, .slice none 0 0] 99)) := Below.allocS (Below.refl _ _) _
 go_enter Tryz.func64, Tryz.ntmps64
 go_wp2_with fail
 refine (HR.out _ (ht20.alloc _)).mono ?_
 rintro e w1 ⟨r, bs1, d1, rfl, rfl, hr1, hR⟩
 replace b2 := b2.later (below_plus _ bs1 d1)
 replace be := belowP be bs1 d1
 have hr2 : w.heap.size < r := by simp at hr1; omega
 generalize plus (w.alloc (.cells #[.int .u8 0, .int .i64 0, .int .u16 0, .bool false, .bool false, .int .i64 0, .int .u8 0, .int .u8 0, .int .u16 0, .bool false, .int .u64 0, .int .u64 0, .bool false, .int .u64 0, .int .u64 0, .slice none 0 0] 99)) bs1 d1 = W0 at *
 clear hr1
 go_wp2_with fail
 refine (byteG W0 r B 0 f hR (by omega) (by omega) x0.out).mono ?_
 clear x0
 rintro e W1 ⟨rfl, hR1, hg⟩
 replace b2 := b2.grown hg (by simp; omega)
 replace be := below_grown be hg (by omega)
 clear hR hg
 have hR := hR1
 clear hR1
 go_wp2_with fail
 refine (byteG W1 r B 1 ts hR (by omega) (by omega) x1.out).mono ?_
 clear x1
 rintro e W2 ⟨rfl, hR1, hg⟩
 replace b2 := b2.grown hg (by simp; omega)
 replace be := below_grown be hg (by omega)
 clear hR hg
 have hR := hR1
 clear hR1
 go_wp2_with fail
 refine (wordG W2 r B 2 ln hR (by omega) (by omega) x2.out).mono ?_
 clear x2
 rintro e W3 ⟨rfl, hR1, hg⟩
 replace b2 := b2.grown hg (by simp; omega)
 replace be := below_grown be hg (by omega)
 clear hR hg
 have hR := hR1
 clear hR1
 go_wp2_with fail
 refine (wordG W3 r B 4 id hR (by omega) (by omega) x3.out).mono ?_
 clear x3
 rintro e W4 ⟨rfl, hR1, hg⟩
 replace b2 := b2.grown hg (by simp; omega)
 replace be := below_grown be hg (by omega)
 clear hR hg
 have hR := hR1
 clear hR1
 have zr := hR.lt
 go_wp2_with fail
 have b8 : Bk (W4.alloc (.cells #[.int .u8 (ts : Int), .int .i64 (ln : Int), .int .u16 (id : Int), .bool false, .bool false, .int .i64 0, .int .u8 0, .int .u8 0, .int .u16 0, .bool false, .int .u64 0, .int .u64 0, .bool false, .int .u64 0, .int .u64 0, .slice none 0 0] 99)) W4.heap.size 99 [.int .u8 (ts : Int), .int .i64 (ln : Int), .int .u16 (id : Int), .bool false, .bool false, .int .i64 0, .int .u8 0, .int .u8 0, .int .u16 0, .bool false, .int .u64 0, .int .u64 0, .bool false, .int .u64 0, .int .u64 0, .slice none 0 0] := Bk.new W4 99 #[.int .u8 (ts : Int), .int .i64 (ln : Int), .int .u16 (id : Int), .bool false, .bool false, .int .i64 0, .int .u8 0, .int .u8 0, .int .u16 0, .bool false, .int .u64 0, .int .u64 0, .bool false, .int .u64 0, .int .u64 0, .slice none 0 0]
 replace b2 := b2.alloc (.cells #[.int .u8 (ts : Int), .int .i64 (ln : Int), .int .u16 (id : Int), .bool false, .bool false, .int .i64 0, .int .u8 0, .int .u8 0, .int .u16 0, .bool false, .int .u64 0, .int .u64 0, .bool false, .int .u64 0, .int .u64 0, .slice none 0 0] 99)
 replace be := Below.allocS be (.cells #[.int .u8 (ts : Int), .int .i64 (ln : Int), .int .u16 (id : Int), .bool false, .bool false, .int .i64 0, .int .u8 0, .int .u8 0, .int .u16 0, .bool false, .int .u64 0, .int .u64 0, .bool false, .int .u64 0, .int .u64 0, .slice none 0 0] 99)
 replace hR := hR.later ((Below.refl _ _).alloc (Nat.le_refl _) (.cells #[.int .u8 (ts : Int), .int .i64 (ln : Int), .int .u16 (id : Int), .bool false, .bool false, .int .i64 0, .int .u8 0, .int .u8 0, .int .u16 0, .bool false, .int .u64 0, .int .u64 0, .bool false, .int .u64 0, .int .u64 0, .slice none 0 0] 99))
 have zb := be.size
 generalize W4.alloc (.cells #[.int .u8 (ts : Int), .int .i64 (ln : Int), .int .u16 (id : Int), .bool false, .bool false, .int .i64 0, .int .u8 0, .int .u8 0, .int .u16 0, .bool false, .int .u64 0, .int .u64 0, .bool false, .int .u64 0, .int .u64 0, .slice none 0 0] 99) = V0 at *
 have zg : w.heap.size < W4.heap.size := by omega
 generalize W4.heap.size = g8 at *
 refine (wordG V0 r B 6 pl hR (by omega) (by omega) x4.out).mono ?_
 clear x4
 rintro e W5 ⟨rfl, hR1, hg⟩
 replace b2 := b2.grown hg (by simp; omega)
 replace b8 := b8.grown hg (by simp; omega)
 replace be := below_grown be hg (by omega)
 clear hR hg
 have hR := hR1
 clear hR1
 have y1 : W5.cell? ⟨g8, 1, none⟩ = some (.int .i64 (ln : Int)) := b8.cell 1
 have z8 := b8.lt
 clear zb
 go_wp2_with (refine at_op (.store 99 (.tmp 2) (.tmp 51)) rfl ?_; refine wpList_stA (t := 99) 99 (.tmp 2) (.tmp 51) rfl rfl (h4C 0 0 0 false false 0 0 0 0 false 0 0 false 0 0 none 0 0) (h4C 0 0 0 false false 0 0 0 0 false 0 0 false 0 0 none 0 0) rfl (h4C_one _ _ _ _ _ _ _ _ _ _ _ _ _ _ _ _ _ _) rfl rfl b2 (szH4 _ _ _ _ _ _ _ _ _ _ _ _ _ _ _ _ _ _) ?_; intro W9 h9 g9)
 refine bodyPost_agg3 Tryz.results64 rfl rfl rfl h9.range u1 u2 (szH4 _ _ _ _ _ _ _ _ _ _ _ _ _ _ _ _ _ _) rfl (RetV.mk ?_)
 exact below_grown be g9 (by omega)
theorem hdr4_f2 (A : Option Addr) (n c : Nat) (l : List UInt8) (w : World) (h : Rb w A n c l) (hm9 : n ≤ 2000000) (f ts ln id pl : Nat) (x0 : num ((l.drop 0).take 1) = f) (x1 : num ((l.drop 1).take 1) = ts) (x2 : num ((l.drop 2).take 2) = ln) (x3 : num ((l.drop 4).take 2) = id) (x4 : num ((l.drop 6).take 2) = pl) (hn : 20 ≤ n) (hb : f / 16 = 4) (hs : 4 * (f % 16) < 20) : Calls Tryz.prog 64 #[.slice A n c] w (RetV w (.tuple #[.agg (h4C 0 0 0 false false 0 0 0 0 false 0 0 false 0 0 none 0 0).toArray, .int .i64 0, .int .i64 21])) := by
 obtain ⟨du, u1, u2⟩ := rowH4
 have hc := h.2.1
 have hl := h.1
 have h20n : (20 : Int) ≤ (n : Int) := by omega
 have h20c : (20 : Int) ≤ (c : Int) := by omega
 have d20 : decide ((n : Int) < 20) = false := by simp only [decide_eq_false_iff_not]; omega
 have ht20 : Rb w A 20 c (l.take 20) := h.take (by omega)
 have hf8 : f < 256 := by rw [← x0]; exact num_lt' l 0 1 256 (by decide)
 have hpl : pl < 65536 := by rw [← x4]; exact num_lt' l 6 2 65536 (by decide)
 have hln : ln < 65536 := by rw [← x2]; exact num_lt' l 2 2 65536 (by decide)
 replace x0 : Hid (num (((l.take 20).drop 0).take 1) = f) := Lib.hid (by rw [num_in l 20 0 1 (by decide)]; exact x0)
 replace x1 : Hid (num (((l.take 20).drop 1).take 1) = ts) := Lib.hid (by rw [num_in l 20 1 1 (by decide)]; exact x1)
 replace x2 : Hid (num (((l.take 20).drop 2).take 2) = ln) := Lib.hid (by rw [num_in l 20 2 2 (by decide)]; exact x2)
 replace x3 : Hid (num (((l.take 20).drop 4).take 2) = id) := Lib.hid (by rw [num_in l 20 4 2 (by decide)]; exact x3)
 replace x4 : Hid (num (((l.take 20).drop 6).take 2) = pl) := Lib.hid (by rw [num_in l 20 6 2 (by decide)]; exact x4)
 have hB : (l.take 20).length = 20 := by rw [List.length_take]; omega
 have HR := Lib.hid (fun W (h : Rb W A 20 c (l.take 20)) => readK A 20 c (l.take 20) W h (by decide))
 generalize l.take 20 = B at *
 have hB1 : B.length ≤ 20 := by omega
 have hB2 : 20 ≤ B.length := by omega
 clear hB
 obtain ⟨m, hm⟩ : ∃ m : Nat, m = f % 16 := ⟨_, rfl⟩
 have e1 := u8_and15 f hf8
 rw [← hm] at e1
 obtain ⟨sz, hsz⟩ : ∃ s : Nat, s = 4 * m := ⟨_, rfl⟩
 have e2 : IntKind.i64.wrap (4 * (m : Int)) = (sz : Int) := by rw [IntWalk.i64_in _ (by omega)]; omega
 have e3 : IntKind.i64.wrap (m : Int) = (m : Int) := IntWalk.i64_in _ (by omega)
 have e4 : IntKind.i64.wrap (ln : Int) = (ln : Int) := IntWalk.i64_in _ (by omega)
 have hb1 : (f : Int) / 16 = 4 := by omega
 have hb1n : ((f : Int) / 16 != 4) = false := by rw [hb1]; rfl
 have qd0 : decide ((sz : Int) < 20) = true := by simp only [decide_eq_true_eq]; omega
 have qd1 : decide (sz < 20) = true := by simp only [decide_eq_true_eq]; omega
 clear hb1
 clear hm hsz
 have b2 : Bk (w.alloc (.cells #[.int .u8 0, .int .i64 0, .int .u16 0, .bool false, .bool false, .int .i64 0, .int .u8 0, .int .u8 0, .int .u16 0, .bool false, .int .u64 0, .int .u64 0, .bool false, .int .u64 0, .int .u64 0, .slice none 0 0] 99)) w.heap.size 99 (h4C 0 0 0 false false 0 0 0 0 false 0 0 false 0 0 none 0 0) := Bk.new w 99 #[.int .u8 0, .int .i64 0, .int .u16 0, .bool false, .bool false, .int .i64 0, .int .u8 0, .int .u8 0, .int .u16 0, .bool false, .int .u64 0, .int .u64 0, .bool false, .int .u64 0, .int .u64 0, .slice none 0 0]
 have be : Below w.heap.size w (w.alloc (.cells #[.int .u8 0, .int .i64 0, .int .u16 0, .bool false, .bool false, .int .i64 0, .int .u8 0, .int .u8 0, .int .u16 0, .bool false, .int .u64 0, .int .u64 0, .bool false, .int .u64 0, .int .u64 0, .slice none 0 0] 99)) := Below.allocS (Below.refl _ _) _
 go_enter Tryz.func64, Tryz.ntmps64
 go_wp2_with fail
 refine (HR.out _ (ht20.alloc _)).mono ?_
 rintro e w1 ⟨r, bs1, d1, rfl, rfl, hr1, hR⟩
 replace b2 := b2.later (below_plus _ bs1 d1)
 replace be := belowP be bs1 d1
 have hr2 : w.heap.size < r := by simp at hr1; omega
 generalize plus (w.alloc (.cells #[.int .u8 0, .int .i64 0, .int .u16 0, .bool false, .bool false, .int .i64 0, .int .u8 0, .int .u8 0, .int .u16 0, .bool false, .int .u64 0, .int .u64 0, .bool false, .int .u64 0, .int .u64 0, .slice none 0 0] 99)) bs1 d1 = W0 at *
 clear hr1
 go_wp2_with fail
 refine (byteG W0 r B 0 f hR (by omega) (by omega) x0.out).mono ?_
 clear x0
 rintro e W1 ⟨rfl, hR1, hg⟩
 replace b2 := b2.grown hg (by simp; omega)
 replace be := below_grown be hg (by omega)
 clear hR hg
 have hR := hR1
 clear hR1
 go_wp2_with fail
 refine (byteG W1 r B 1 ts hR (by omega) (by omega) x1.out).mono ?_
 clear x1
 rintro e W2 ⟨rfl, hR1, hg⟩
 replace b2 := b2.grown hg (by simp; omega)
 replace be := below_grown be hg (by omega)
 clear hR hg
 have hR := hR1
 clear hR1
 go_wp2_with fail
 refine (wordG W2 r B 2 ln hR (by omega) (by omega) x2.out).mono ?_
 clear x2
 rintro e W3 ⟨rfl, hR1, hg⟩
 replace b2 := b2.grown hg (by simp; omega)
 replace be := below_grown be hg (by omega)
 clear hR hg
 have hR := hR1
 clear hR1
 go_wp2_with fail
 refine (wordG W3 r B 4 id hR (by omega) (by omega) x3.out).mono ?_
 clear x3
 rintro e W4 ⟨rfl, hR1, hg⟩
 replace b2 := b2.grown hg (by simp; omega)
 replace be := below_grown be hg (by omega)
 clear hR hg
 have hR := hR1
 clear hR1
 have zr := hR.lt
 go_wp2_with fail
 have b8 : Bk (W4.alloc (.cells #[.int .u8 (ts : Int), .int .i64 (ln : Int), .int .u16 (id : Int), .bool false, .bool false, .int .i64 0, .int .u8 0, .int .u8 0, .int .u16 0, .bool false, .int .u64 0, .int .u64 0, .bool false, .int .u64 0, .int .u64 0, .slice none 0 0] 99)) W4.heap.size 99 [.int .u8 (ts : Int), .int .i64 (ln : Int), .int .u16 (id : Int), .bool false, .bool false, .int .i64 0, .int .u8 0, .int .u8 0, .int .u16 0, .bool false, .int .u64 0, .int .u64 0, .bool false, .int .u64 0, .int .u64 0, .slice none 0 0] := Bk.new W4 99 #[.int .u8 (ts : Int), .int .i64 (ln : Int), .int .u16 (id : Int), .bool false, .bool false, .int .i64 0, .int .u8 0, .int .u8 0, .int .u16 0, .bool false, .int .u64 0, .int .u64 0, .bool false, .int .u64 0, .int .u64 0, .slice none 0 0]
 replace b2 := b2.alloc (.cells #[.int .u8 (ts : Int), .int .i64 (ln : Int), .int .u16 (id : Int), .bool false, .bool false, .int .i64 0, .int .u8 0, .int .u8 0, .int .u16 0, .bool false, .int .u64 0, .int .u64 0, .bool false, .int .u64 0, .int .u64 0, .slice none 0 0] 99)
 replace be := Below.allocS be (.cells #[.int .u8 (ts : Int), .int .i64 (ln : Int), .int .u16 (id : Int), .bool false, .bool false, .int .i64 0, .int .u8 0, .int .u8 0, .int .u16 0, .bool false, .int .u64 0, .int .u64 0, .bool false, .int .u64 0, .int .u64 0, .slice none 0 0] 99)
 replace hR := hR.later ((Below.refl _ _).alloc (Nat.le_refl _) (.cells #[.int .u8 (ts : Int), .int .i64 (ln : Int), .int .u16 (id : Int), .bool false, .bool false, .int .i64 0, .int .u8 0, .int .u8 0, .int .u16 0, .bool false, .int .u64 0, .int .u64 0, .bool false, .int .u64 0, .int .u64 0, .slice none 0 0] 99))
 have zb := be.size
 generalize W4.alloc (.cells #[.int .u8 (ts : Int), .int .i64 (ln : Int), .int .u16 (id : Int), .bool false, .bool false, .int .i64 0, .int .u8 0, .int .u8 0, .int .u16 0, .bool false, .int .u64 0, .int .u64 0, .bool false, .int .u64 0, .int .u64 0, .slice none 0 0] 99) = V0 at *
 have zg : w.heap.size < W4.heap.size := by omega
 generalize W4.heap.size = g8 at *
 refine (wordG V0 r B 6 pl hR (by omega) (by omega) x4.out).mono ?_
 clear x4
 rintro e W5 ⟨rfl, hR1, hg⟩
 replace b2 := b2.grown hg (by simp; omega)
 replace b8 := b8.grown hg (by simp; omega)
 replace be := below_grown be hg (by omega)
 clear hR hg
 have hR := hR1
 clear hR1
 have y1 : W5.cell? ⟨g8, 1, none⟩ = some (.int .i64 (ln : Int)) := b8.cell 1
 have z8 := b8.lt
 clear zb
 go_wp2_with (refine at_op (.store 99 (.tmp 2) (.tmp 51)) rfl ?_; refine wpList_stA (t := 99) 99 (.tmp 2) (.tmp 51) rfl rfl (h4C 0 0 0 false false 0 0 0 0 false 0 0 false 0 0 none 0 0) (h4C 0 0 0 false false 0 0 0 0 false 0 0 false 0 0 none 0 0) rfl (h4C_one _ _ _ _ _ _ _ _ _ _ _ _ _ _ _ _ _ _) rfl rfl b2 (szH4 _ _ _ _ _ _ _ _ _ _ _ _ _ _ _ _ _ _) ?_; intro W9 h9 g9)
 refine bodyPost_agg3 Tryz.results64 rfl rfl rfl h9.range u1 u2 (szH4 _ _ _ _ _ _ _ _ _ _ _ _ _ _ _ _ _ _) rfl (RetV.mk ?_)
 exact below_grown be g9 (by omega)
theorem hdr4_f3 (A : Option Addr) (n c : Nat) (l : List UInt8) (w : World) (h : Rb w A n c l) (hm9 : n ≤ 2000000) (f ts ln id pl : Nat) (x0 : num ((l.drop 0).take 1) = f) (x1 : num ((l.drop 1).take 1) = ts) (x2 : num ((l.drop 2).take 2) = ln) (x3 : num ((l.drop 4).take 2) = id) (x4 : num ((l.drop 6).take 2) = pl) (hn : 20 ≤ n) (hb : f / 16 = 4) (hs : 20 ≤ 4 * (f % 16)) (hp9 : 32768 ≤ pl) : Calls Tryz.prog 64 #[.slice A n c] w (RetV w (.tuple #[.agg (h4C 0 0 0 false false 0 0 0 0 false 0 0 false 0 0 none 0 0).toArray, .int .i64 0, .int .i64 21])) := by
 obtain ⟨du, u1, u2⟩ := rowH4
 have hc := h.2.1
 have hl := h.1
 have h20n : (20 : Int) ≤ (n : Int) := by omega
 have h20c : (20 : Int) ≤ (c : Int) := by omega
 have d20 : decide ((n : Int) < 20) = false := by simp only [decide_eq_false_iff_not]; omega
 have ht20 : Rb w A 20 c (l.take 20) := h.take (by omega)
 have hf8 : f < 256 := by rw [← x0]; exact num_lt' l 0 1 256 (by decide)
 have hpl : pl < 65536 := by rw [← x4]; exact num_lt' l 6 2 65536 (by decide)
 have hln : ln < 65536 := by rw [← x2]; exact num_lt' l 2 2 65536 (by decide)
 replace x0 : Hid (num (((l.take 20).drop 0).take 1) = f) := Lib.hid (by rw [num_in l 20 0 1 (by decide)]; exact x0)
 replace x1 : Hid (num (((l.take 20).drop 1).take 1) = ts) := Lib.hid (by rw [num_in l 20 1 1 (by decide)]; exact x1)
 replace x2 : Hid (num (((l.take 20).drop 2).take 2) = ln) := Lib.hid (by rw [num_in l 20 2 2 (by decide)]; exact x2)
 replace x3 : Hid (num (((l.take 20).drop 4).take 2) = id) := Lib.hid (by rw [num_in l 20 4 2 (by decide)]; exact x3)
 replace x4 : Hid (num (((l.take 20).drop 6).take 2) = pl) := Lib.hid (by rw [num_in l 20 6 2 (by decide)]; exact x4)
 have hB : (l.take 20).length = 20 := by rw [List.length_take]; omega
 have HR := Lib.hid (fun W (h : Rb W A 20 c (l.take 20)) => readK A 20 c (l.take 20) W h (by decide))
 generalize l.take 20 = B at *
 have hB1 : B.length ≤ 20 := by omega
 have hB2 : 20 ≤ B.length := by omega
 clear hB
 obtain ⟨m, hm⟩ : ∃ m : Nat, m = f % 16 := ⟨_, rfl⟩
 have e1 := u8_and15 f hf8
 rw [← hm] at e1
 obtain ⟨sz, hsz⟩ : ∃ s : Nat, s = 4 * m := ⟨_, rfl⟩
 have e2 : IntKind.i64.wrap (4 * (m : Int)) = (sz : Int) := by rw [IntWalk.i64_in _ (by omega)]; omega
 have e3 : IntKind.i64.wrap (m : Int) = (m : Int) := IntWalk.i64_in _ (by omega)
 have e4 : IntKind.i64.wrap (ln : Int) = (ln : Int) := IntWalk.i64_in _ (by omega)
 have hb1 : (f : Int) / 16 = 4 := by omega
 have hb1n : ((f : Int) / 16 != 4) = false := by rw [hb1]; rfl
 have qd2 : decide ((sz : Int) < 20) = false := by simp only [decide_eq_false_iff_not]; omega
 have qd3 : decide (sz < 20) = false := by simp only [decide_eq_false_iff_not]; omega
 have hp0 : pl / 32768 % 2 = 1 := by omega
 have hp : bits .and .u16 (pl : Int) 32768 = 32768 := by rw [and15 pl hpl, hp0]; rfl
 clear hp0
 clear hb1
 clear hm hsz
 have b2 : Bk (w.alloc (.cells #[.int .u8 0, .int .i64 0, .int .u16 0, .bool false, .bool false, .int .i64 0, .int .u8 0, .int .u8 0, .int .u16 0, .bool false, .int .u64 0, .int .u64 0, .bool false, .int .u64 0, .int .u64 0, .slice none 0 0] 99)) w.heap.size 99 (h4C 0 0 0 false false 0 0 0 0 false 0 0 false 0 0 none 0 0) := Bk.new w 99 #[.int .u8 0, .int .i64 0, .int .u16 0, .bool false, .bool false, .int .i64 0, .int .u8 0, .int .u8 0, .int .u16 0, .bool false, .int .u64 0, .int .u64 0, .bool false, .int .u64 0, .int .u64 0, .slice none 0 0]
 have be : Below w.heap.size w (w.alloc (.cells #[.int .u8 0, .int .i64 0, .int .u16 0, .bool false, .bool false, .int .i64 0, .int .u8 0, .int .u8 0, .int .u16 0, .bool false, .int .u64 0, .int .u64 0, .bool false, .int .u64 0, .int .u64 0, .slice none 0 0] 99)) := Below.allocS (Below.refl _ _) _
 go_enter Tryz.func64, Tryz.ntmps64
 go_wp2_with fail
 refine (HR.out _ (ht20.alloc _)).mono ?_
 rintro e w1 ⟨r, bs1, d1, rfl, rfl, hr1, hR⟩
 replace b2 := b2.later (below_plus _ bs1 d1)
 replace be := belowP be bs1 d1
 have hr2 : w.heap.size < r := by simp at hr1; omega
 generalize plus (w.alloc (.cells #[.int .u8 0, .int .i64 0, .int .u16 0, .bool false, .bool false, .int .i64 0, .int .u8 0, .int .u8 0, .int .u16 0, .bool false, .int .u64 0, .int .u64 0, .bool false, .int .u64 0, .int .u64 0, .slice none 0 0] 99)) bs1 d1 = W0 at *
 clear hr1
 go_wp2_with fail
 refine (byteG W0 r B 0 f hR (by omega) (by omega) x0.out).mono ?_
 clear x0
 rintro e W1 ⟨rfl, hR1, hg⟩
 replace b2 := b2.grown hg (by simp; omega)
 replace be := below_grown be hg (by omega)
 clear hR hg
 have hR := hR1
 clear hR1
 go_wp2_with fail
 refine (byteG W1 r B 1 ts hR (by omega) (by omega) x1.out).mono ?_
 clear x1
 rintro e W2 ⟨rfl, hR1, hg⟩
 replace b2 := b2.grown hg (by simp; omega)
 replace be := below_grown be hg (by omega)
 clear hR hg
 have hR := hR1
 clear hR1
 go_wp2_with fail
 refine (wordG W2 r B 2 ln hR (by omega) (by omega) x2.out).mono ?_
 clear x2
 rintro e W3 ⟨rfl, hR1, hg⟩
 replace b2 := b2.grown hg (by simp; omega)
 replace be := below_grown be hg (by omega)
 clear hR hg
 have hR := hR1
 clear hR1
 go_wp2_with fail
 refine (wordG W3 r B 4 id hR (by omega) (by omega) x3.out).mono ?_
 clear x3
 rintro e W4 ⟨rfl, hR1, hg⟩
 replace b2 := b2.grown hg (by simp; omega)
 replace be := below_grown be hg (by omega)
 clear hR hg
 have hR := hR1
 clear hR1
 have zr := hR.lt
 go_wp2_with fail
 have b8 : Bk (W4.alloc (.cells #[.int .u8 (ts : Int), .int .i64 (ln : Int), .int .u16 (id : Int), .bool false, .bool false, .int .i64 0, .int .u8 0, .int .u8 0, .int .u16 0, .bool false, .int .u64 0, .int .u64 0, .bool false, .int .u64 0, .int .u64 0, .slice none 0 0] 99)) W4.heap.size 99 [.int .u8 (ts : Int), .int .i64 (ln : Int), .int .u16 (id : Int), .bool false, .bool false, .int .i64 0, .int .u8 0, .int .u8 0, .int .u16 0, .bool false, .int .u64 0, .int .u64 0, .bool false, .int .u64 0, .int .u64 0, .slice none 0 0] := Bk.new W4 99 #[.int .u8 (ts : Int), .int .i64 (ln : Int), .int .u16 (id : Int), .bool false, .bool false, .int .i64 0, .int .u8 0, .int .u8 0, .int .u16 0, .bool false, .int .u64 0, .int .u64 0, .bool false, .int .u64 0, .int .u64 0, .slice none 0 0]
 replace b2 := b2.alloc (.cells #[.int .u8 (ts : Int), .int .i64 (ln : Int), .int .u16 (id : Int), .bool false, .bool false, .int .i64 0, .int .u8 0, .int .u8 0, .int .u16 0, .bool false, .int .u64 0, .int .u64 0, .bool false, .int .u64 0, .int .u64 0, .slice none 0 0] 99)
 replace be := Below.allocS be (.cells #[.int .u8 (ts : Int), .int .i64 (ln : Int), .int .u16 (id : Int), .bool false, .bool false, .int .i64 0, .int .u8 0, .int .u8 0, .int .u16 0, .bool false, .int .u64 0, .int .u64 0, .bool false, .int .u64 0, .int .u64 0, .slice none 0 0] 99)
 replace hR := hR.later ((Below.refl _ _).alloc (Nat.le_refl _) (.cells #[.int .u8 (ts : Int), .int .i64 (ln : Int), .int .u16 (id : Int), .bool false, .bool false, .int .i64 0, .int .u8 0, .int .u8 0, .int .u16 0, .bool false, .int .u64 0, .int .u64 0, .bool false, .int .u64 0, .int .u64 0, .slice none 0 0] 99))
 have zb := be.size
 generalize W4.alloc (.cells #[.int .u8 (ts : Int), .int .i64 (ln : Int), .int .u16 (id : Int), .bool false, .bool false, .int .i64 0, .int .u8 0, .int .u8 0, .int .u16 0, .bool false, .int .u64 0, .int .u64 0, .bool false, .int .u64 0, .int .u64 0, .slice none 0 0] 99) = V0 at *
 have zg : w.heap.size < W4.heap.size := by omega
 generalize W4.heap.size = g8 at *
 refine (wordG V0 r B 6 pl hR (by omega) (by omega) x4.out).mono ?_
 clear x4
 rintro e W5 ⟨rfl, hR1, hg⟩
 replace b2 := b2.grown hg (by simp; omega)
 replace b8 := b8.grown hg (by simp; omega)
 replace be := below_grown be hg (by omega)
 clear hR hg
 have hR := hR1
 clear hR1
 have y1 : W5.cell? ⟨g8, 1, none⟩ = some (.int .i64 (ln : Int)) := b8.cell 1
 have z8 := b8.lt
 clear zb
 go_wp2_with (refine at_op (.store 99 (.tmp 2) (.tmp 51)) rfl ?_; refine wpList_stA (t := 99) 99 (.tmp 2) (.tmp 51) rfl rfl (h4C 0 0 0 false false 0 0 0 0 false 0 0 false 0 0 none 0 0) (h4C 0 0 0 false false 0 0 0 0 false 0 0 false 0 0 none 0 0) rfl (h4C_one _ _ _ _ _ _ _ _ _ _ _ _ _ _ _ _ _ _) rfl rfl b2 (szH4 _ _ _ _ _ _ _ _ _ _ _ _ _ _ _ _ _ _) ?_; intro W9 h9 g9)
 refine bodyPost_agg3 Tryz.results64 rfl rfl rfl h9.range u1 u2 (szH4 _ _ _ _ _ _ _ _ _ _ _ _ _ _ _ _ _ _) rfl (RetV.mk ?_)
 exact below_grown be g9 (by omega)
theorem hdr4_f4 (A : Option Addr) (n c : Nat) (l : List UInt8) (w : World) (h : Rb w A n c l) (hm9 : n ≤ 2000000) (f ts ln id pl : Nat) (x0 : num ((l.drop 0).take 1) = f) (x1 : num ((l.drop 1).take 1) = ts) (x2 : num ((l.drop 2).take 2) = ln) (x3 : num ((l.drop 4).take 2) = id) (x4 : num ((l.drop 6).take 2) = pl) (hn : 20 ≤ n) (hb : f / 16 = 4) (hs : 20 ≤ 4 * (f % 16)) (hp9 : pl < 32768) (hl9 : ln < 4 * (f % 16)) : Calls Tryz.prog 64 #[.slice A n c] w (RetV w (.tuple #[.agg (h4C 0 0 0 false false 0 0 0 0 false 0 0 false 0 0 none 0 0).toArray, .int .i64 0, .int .i64 21])) := by
 obtain ⟨du, u1, u2⟩ := rowH4
 have hc := h.2.1
 have hl := h.1
 have h20n : (20 : Int) ≤ (n : Int) := by omega
 have h20c : (20 : Int) ≤ (c : Int) := by omega
 have d20 : decide ((n : Int) < 20) = false := by simp only [decide_eq_false_iff_not]; omega
 have ht20 : Rb w A 20 c (l.take 20) := h.take (by omega)
 have hf8 : f < 256 := by rw [← x0]; exact num_lt' l 0 1 256 (by decide)
 have hpl : pl < 65536 := by rw [← x4]; exact num_lt' l 6 2 65536 (by decide)
 have hln : ln < 65536 := by rw [← x2]; exact num_lt' l 2 2 65536 (by decide)
 replace x0 : Hid (num (((l.take 20).drop 0).take 1) = f) := Lib.hid (by rw [num_in l 20 0 1 (by decide)]; exact x0)
 replace x1 : Hid (num (((l.take 20).drop 1).take 1) = ts) := Lib.hid (by rw [num_in l 20 1 1 (by decide)]; exact x1)
 replace x2 : Hid (num (((l.take 20).drop 2).take 2) = ln) := Lib.hid (by rw [num_in l 20 2 2 (by decide)]; exact x2)
 replace x3 : Hid (num (((l.take 20).drop 4).take 2) = id) := Lib.hid (by rw [num_in l 20 4 2 (by decide)]; exact x3)
 replace x4 : Hid (num (((l.take 20).drop 6).take 2) = pl) := Lib.hid (by rw [num_in l 20 6 2 (by decide)]; exact x4)
 have hB : (l.take 20).length = 20 := by rw [List.length_take]; omega
 have HR := Lib.hid (fun W (h : Rb W A 20 c (l.take 20)) => readK A 20 c (l.take 20) W h (by decide))
 generalize l.take 20 = B at *
 have hB1 : B.length ≤ 20 := by omega
 have hB2 : 20 ≤ B.length := by omega
 clear hB
 obtain ⟨m, hm⟩ : ∃ m : Nat, m = f % 16 := ⟨_, rfl⟩
 have e1 := u8_and15 f hf8
 rw [← hm] at e1
 obtain ⟨sz, hsz⟩ : ∃ s : Nat, s = 4 * m := ⟨_, rfl⟩
 have e2 : IntKind.i64.wrap (4 * (m : Int)) = (sz : Int) := by rw [IntWalk.i64_in _ (by omega)]; omega
 have e3 : IntKind.i64.wrap (m : Int) = (m : Int) := IntWalk.i64_in _ (by omega)
 have e4 : IntKind.i64.wrap (ln : Int) = (ln : Int) := IntWalk.i64_in _ (by omega)
 have hb1 : (f : Int) / 16 = 4 := by omega
 have hb1n : ((f : Int) / 16 != 4) = false := by rw [hb1]; rfl
 have qd4 : decide ((sz : Int) < 20) = false := by simp only [decide_eq_false_iff_not]; omega
 have qd5 : decide (sz < 20) = false := by simp only [decide_eq_false_iff_not]; omega
 have hp0 : pl / 32768 % 2 = 0 := by omega
 have hp : bits .and .u16 (pl : Int) 32768 = 0 := by rw [and15 pl hpl, hp0]; rfl
 clear hp0
 have qd6 : decide ((ln : Int) < (sz : Int)) = true := by simp only [decide_eq_true_eq]; omega
 have qd7 : decide (ln < sz) = true := by simp only [decide_eq_true_eq]; omega
 clear hb1
 clear hm hsz
 have b2 : Bk (w.alloc (.cells #[.int .u8 0, .int .i64 0, .int .u16 0, .bool false, .bool false, .int .i64 0, .int .u8 0, .int .u8 0, .int .u16 0, .bool false, .int .u64 0, .int .u64 0, .bool false, .int .u64 0, .int .u64 0, .slice none 0 0] 99)) w.heap.size 99 (h4C 0 0 0 false false 0 0 0 0 false 0 0 false 0 0 none 0 0) := Bk.new w 99 #[.int .u8 0, .int .i64 0, .int .u16 0, .bool false, .bool false, .int .i64 0, .int .u8 0, .int .u8 0, .int .u16 0, .bool false, .int .u64 0, .int .u64 0, .bool false, .int .u64 0, .int .u64 0, .slice none 0 0]
 have be : Below w.heap.size w (w.alloc (.cells #[.int .u8 0, .int .i64 0, .int .u16 0, .bool false, .bool false, .int .i64 0, .int .u8 0, .int .u8 0, .int .u16 0, .bool false, .int .u64 0, .int .u64 0, .bool false, .int .u64 0, .int .u64 0, .slice none 0 0] 99)) := Below.allocS (Below.refl _ _) _
 go_enter Tryz.func64, Tryz.ntmps64
 go_wp2_with fail
 refine (HR.out _ (ht20.alloc _)).mono ?_
 rintro e w1 ⟨r, bs1, d1, rfl, rfl, hr1, hR⟩
 replace b2 := b2.later (below_plus _ bs1 d1)
 replace be := belowP be bs1 d1
 have hr2 : w.heap.size < r := by simp at hr1; omega
 generalize plus (w.alloc (.cells #[.int .u8 0, .int .i64 0, .int .u16 0, .bool false, .bool false, .int .i64 0, .int .u8 0, .int .u8 0, .int .u16 0, .bool false, .int .u64 0, .int .u64 0, .bool false, .int .u64 0, .int .u64 0, .slice none 0 0] 99)) bs1 d1 = W0 at *
 clear hr1
 go_wp2_with fail
 refine (byteG W0 r B 0 f hR (by omega) (by omega) x0.out).mono ?_
 clear x0
 rintro e W1 ⟨rfl, hR1, hg⟩
 replace b2 := b2.grown hg (by simp; omega)
 replace be := below_grown be hg (by omega)
 clear hR hg
 have hR := hR1
 clear hR1
 go_wp2_with fail
 refine (byteG W1 r B 1 ts hR (by omega) (by omega) x1.out).mono ?_
 clear x1
 rintro e W2 ⟨rfl, hR1, hg⟩
 replace b2 := b2.grown hg (by simp; omega)
 replace be := below_grown be hg (by omega)
 clear hR hg
 have hR := hR1
 clear hR1
 go_wp2_with fail
 refine (wordG W2 r B 2 ln hR (by omega) (by omega) x2.out).mono ?_
 clear x2
 rintro e W3 ⟨rfl, hR1, hg⟩
 replace b2 := b2.grown hg (by simp; omega)
 replace be := below_grown be hg (by omega)
 clear hR hg
 have hR := hR1
 clear hR1
 go_wp2_with fail
 refine (wordG W3 r B 4 id hR (by omega) (by omega) x3.out).mono ?_
 clear x3
 rintro e W4 ⟨rfl, hR1, hg⟩
 replace b2 := b2.grown hg (by simp; omega)
 replace be := below_grown be hg (by omega)
 clear hR hg
 have hR := hR1
 clear hR1
 have zr := hR.lt
 go_wp2_with fail
 have b8 : Bk (W4.alloc (.cells #[.int .u8 (ts : Int), .int .i64 (ln : Int), .int .u16 (id : Int), .bool false, .bool false, .int .i64 0, .int .u8 0, .int .u8 0, .int .u16 0, .bool false, .int .u64 0, .int .u64 0, .bool false, .int .u64 0, .int .u64 0, .slice none 0 0] 99)) W4.heap.size 99 [.int .u8 (ts : Int), .int .i64 (ln : Int), .int .u16 (id : Int), .bool false, .bool false, .int .i64 0, .int .u8 0, .int .u8 0, .int .u16 0, .bool false, .int .u64 0, .int .u64 0, .bool false, .int .u64 0, .int .u64 0, .slice none 0 0] := Bk.new W4 99 #[.int .u8 (ts : Int), .int .i64 (ln : Int), .int .u16 (id : Int), .bool false, .bool false, .int .i64 0, .int .u8 0, .int .u8 0, .int .u16 0, .bool false, .int .u64 0, .int .u64 0, .bool false, .int .u64 0, .int .u64 0, .slice none 0 0]
 replace b2 := b2.alloc (.cells #[.int .u8 (ts : Int), .int .i64 (ln : Int), .int .u16 (id : Int), .bool false, .bool false, .int .i64 0, .int .u8 0, .int .u8 0, .int .u16 0, .bool false, .int .u64 0, .int .u64 0, .bool false, .int .u64 0, .int .u64 0, .slice none 0 0] 99)
 replace be := Below.allocS be (.cells #[.int .u8 (ts : Int), .int .i64 (ln : Int), .int .u16 (id : Int), .bool false, .bool false, .int .i64 0, .int .u8 0, .int .u8 0, .int .u16 0, .bool false, .int .u64 0, .int .u64 0, .bool false, .int .u64 0, .int .u64 0, .slice none 0 0] 99)
 replace hR := hR.later ((Below.refl _ _).alloc (Nat.le_refl _) (.cells #[.int .u8 (ts : Int), .int .i64 (ln : Int), .int .u16 (id : Int), .bool false, .bool false, .int .i64 0, .int .u8 0, .int .u8 0, .int .u16 0, .bool false, .int .u64 0, .int .u64 0, .bool false, .int .u64 0, .int .u64 0, .slice none 0 0] 99))
 have zb := be.size
 generalize W4.alloc (.cells #[.int .u8 (ts : Int), .int .i64 (ln : Int), .int .u16 (id : Int), .bool false, .bool false, .int .i64 0, .int .u8 0, .int .u8 0, .int .u16 0, .bool false, .int .u64 0, .int .u64 0, .bool false, .int .u64 0, .int .u64 0, .slice none 0 0] 99) = V0 at *
 have zg : w.heap.size < W4.heap.size := by omega
 generalize W4.heap.size = g8 at *
 refine (wordG V0 r B 6 pl hR (by omega) (by omega) x4.out).mono ?_
 clear x4
 rintro e W5 ⟨rfl, hR1, hg⟩
 replace b2 := b2.grown hg (by simp; omega)
 replace b8 := b8.grown hg (by simp; omega)
 replace be := below_grown be hg (by omega)
 clear hR hg
 have hR := hR1
 clear hR1
 have y1 : W5.cell? ⟨g8, 1, none⟩ = some (.int .i64 (ln : Int)) := b8.cell 1
 have z8 := b8.lt
 clear zb
 go_wp2_with (refine at_op (.store 99 (.tmp 2) (.tmp 51)) rfl ?_; refine wpList_stA (t := 99) 99 (.tmp 2) (.tmp 51) rfl rfl (h4C 0 0 0 false false 0 0 0 0 false 0 0 false 0 0 none 0 0) (h4C 0 0 0 false false 0 0 0 0 false 0 0 false 0 0 none 0 0) rfl (h4C_one _ _ _ _ _ _ _ _ _ _ _ _ _ _ _ _ _ _) rfl rfl b2 (szH4 _ _ _ _ _ _ _ _ _ _ _ _ _ _ _ _ _ _) ?_; intro W9 h9 g9)
 refine bodyPost_agg3 Tryz.results64 rfl rfl rfl h9.range u1 u2 (szH4 _ _ _ _ _ _ _ _ _ _ _ _ _ _ _ _ _ _) rfl (RetV.mk ?_)
 exact below_grown be g9 (by omega)
end

end Go.Proofs.YtlpbahleaeieoaaGreat
