/- Texts of the law OptionClamps, part 2. -/
import Derived.Test.YtknoenceccpkhaaZOptionClamps1
/- The Internet checksum: sum.fold, sum.Of, sum.Right, and the reference. -/
namespace Go.Proofs.Ytknoenceccpkhaa
open Go.RowKit
set_option linter.unusedVariables false
set_option linter.unusedSimpArgs false
attribute [local go_sem ↓] sliced_cut

attribute [local go_sem] cutA_zero

/-- the sum of the words of bytes; low: the first byte is a low one -/
def tot : Bool → List UInt8 → Nat
  | _, [] => 0
  | low, b :: r => (if low then b.toNat else b.toNat * 256) + tot (!low) r
/-- folded -/
def fd (n : Nat) : Nat := if n = 0 then 0 else (n - 1) % 65535 + 1
theorem fd_le (n : Nat) : fd n ≤ 65535 := by
  unfold fd
  split
  · omega
  · have := Nat.mod_lt (n - 1) (show 65535 > 0 by decide)
    omega
theorem fd_small (n : Nat) (h : n ≤ 65535) : fd n = n := by
  unfold fd
  split
  · omega
  · rw [Nat.mod_eq_of_lt (by omega)]
    omega
theorem fd_step (n : Nat) (h : 65535 < n) : fd (n % 65536 + n / 65536) = fd n := by
  unfold fd
  rw [if_neg (by omega), if_neg (by omega)]
  omega
theorem fd_add (a b : Nat) : fd (fd a + b) = fd (a + b) := by
  unfold fd
  by_cases ha : a = 0
  · subst ha; simp
  · rw [if_neg ha, if_neg (by omega), if_neg (by omega)]
    omega
theorem fd_plus (a b : Nat) (ha : a ≤ 65535) (hb : b ≤ 65535) : fd (a + b) = if 65535 < a + b then a + b - 65535 else a + b := by
  split
  · unfold fd
    rw [if_neg (by omega)]
    omega
  · exact fd_small _ (by omega)
theorem tot_append (low : Bool) (a b : List UInt8) : tot low (a ++ b) = tot low a + tot (if a.length % 2 = 0 then low else !low) b := by
  induction a generalizing low with
  | nil => simp [tot]
  | cons x r ih =>
    simp only [List.cons_append, tot, ih]
    have : (if r.length % 2 = 0 then !low else !!low) = (if (x :: r).length % 2 = 0 then low else !low) := by
      simp only [List.length_cons]
      by_cases h : r.length % 2 = 0
      · rw [if_pos h, if_neg (by omega)]
      · rw [if_neg h, if_pos (by omega)]
        simp
    rw [this]
    omega
theorem tot_le (low : Bool) (l : List UInt8) : tot low l ≤ 65280 * l.length := by
  induction l generalizing low with
  | nil => simp [tot]
  | cons x r ih =>
    have := ih (!low)
    have hx := x.toNat_lt
    simp only [tot, List.length_cons]
    split <;> omega
theorem low16 (n : Nat) (hn : n < 18446744073709551616) : bits .and .u64 (n : Int) 65535 = ((n % 65536 : Nat) : Int) := by
  have := u64_and_nat n 65535 hn (by decide)
  rw [show (65535 : Nat) = 2 ^ 16 - 1 from rfl, Nat.and_two_pow_sub_one_eq_mod] at this
  exact this
set_option maxHeartbeats 1000000 in
theorem fold_sum (n : Nat) (w : World) (hn : n < 18446744073709551616) : Calls Try.prog 101 #[.int .u64 n] w fun e w' => e = .returned (.int .u16 (fd n : Nat)) ∧ w = w' := by
  go_enter Try.func101, Try.ntmps101
  go_wp2
  go_loop [0] (fun x => ∃ k : Nat, k < 18446744073709551616 ∧ x = .int .u64 k ∧ fd k = fd n) (fun x => (intOf x).toNat)
  case atStart => exact ⟨n, hn, rfl, rfl⟩
  case round =>
    obtain ⟨k, hk, rfl, hf⟩ := hrel
    have HF := Lib.hid hf
    clear hf
    by_cases hb : 65535 < k
    · have h1 := low16 k hk
      have hs := Lib.hid (fd_step k hb)
      go_wp2
      go_round
      case rel => exact ⟨k % 65536 + k / 65536, by omega, by go_num, by rw [hs.out]; exact HF.out⟩
      case measure => simp [intOf]; omega
    · have h0 : k ≤ 65535 := by omega
      go_wp2
      go_ret
      rw [← HF.out, fd_small k h0]
      exact ⟨rfl, rfl⟩
theorem plus_any (a b : Nat) (w : World) (ha : a ≤ 65535) (hb : b ≤ 65535) : Calls Try.prog 102 #[.int .u32 a, .int .u32 b] w fun e w' => e = .returned (.int .u32 (fd (a + b) : Nat)) ∧ w = w' := by
  have e := Lib.hid (fd_plus a b ha hb)
  by_cases hc : 65535 < a + b
  · rw [if_pos hc] at e
    go_enter Try.func102, Try.ntmps102
    go_wp2
    go_ret
    rw [e.out]
    exact ⟨by simp; omega, rfl⟩
  · rw [if_neg hc] at e
    go_enter Try.func102, Try.ntmps102
    go_wp2
    go_ret
    rw [e.out]
    exact ⟨by simp, rfl⟩
theorem tot_one1 (p : List UInt8) (x : UInt8) : tot false (p ++ [x]) = tot false p + (if p.length % 2 = 0 then x.toNat * 256 else x.toNat) := by
  rw [tot_append]
  by_cases h : p.length % 2 = 0 <;> simp [h, tot]
theorem take_snoc_ (l : List UInt8) (i : Nat) (h : i < l.length) (p : List UInt8) : p ++ l.take (i + 1) = (p ++ l.take i) ++ [l[i]] := by
  rw [List.take_succ_eq_append_getElem h, List.append_assoc]
theorem xor_ones16 (b : Nat) (hb : b < 2 ^ 16) : (2 ^ 16 - 1) ^^^ b = 2 ^ 16 - 1 - b := by
  apply Nat.eq_of_testBit_eq
  intro i
  rw [Nat.testBit_xor, Nat.testBit_two_pow_sub_one, show 2 ^ 16 - 1 - b = 2 ^ 16 - (b + 1) by omega, Nat.testBit_two_pow_sub_succ hb]
  by_cases h : i < 16
  · simp [h]
  · have : b.testBit i = false := Nat.testBit_lt_two_pow (Nat.lt_of_lt_of_le hb (Nat.pow_le_pow_right (by decide) (by omega)))
    simp [h, this]
theorem not16 (x : Nat) (h : x ≤ 65535) : bits .xor .u16 IntKind.u16.max (x : Int) = ((65535 - x : Nat) : Int) := by
  have := u16_xor_nat 65535 x (by decide) (by omega)
  have e := xor_ones16 x (by omega)
  simp only [Nat.reducePow, Nat.reduceSub] at e
  rw [e] at this
  exact this
/-- the byte that comes next is a low one -/
def LowB (l : List UInt8) (v : Value) : Prop := (l.length % 2 = 0 ∧ v = .bool false) ∨ (l.length % 2 = 1 ∧ v = .bool true)
set_option maxHeartbeats 2000000 in
theorem sumOf (A : Option Addr) (m c : Nat) (L : List (List UInt8)) (w : World) (h : RdL w A m L) (hm : m ≤ 1000000) (ht : L.flatten.length ≤ 1000000) : Calls Try.prog 56 #[.slice A m c] w fun e w' => e = .returned (.int .u16 (65535 - fd (tot false L.flatten) : Nat)) ∧ w = w' := by
  obtain ⟨cs, h1, h2, hrd, hel⟩ := h
  have H1 := Lib.hid h1
  have H2 := Lib.hid h2
  have HE := Lib.hid hel
  clear h1 h2 hel
  go_enter Try.func56, Try.ntmps56
  go_wp2
  go_loop [3, 4, 11] (fun x y i => ∃ j : Nat, j ≤ m ∧ i = .int .i64 j ∧ x = .int .u64 (tot false (L.take j).flatten : Nat) ∧ LowB (L.take j).flatten y) (fun _ _ i => m - (intOf i).toNat)
  case atStart => exact ⟨0, Nat.zero_le _, rfl, rfl, .inl ⟨rfl, rfl⟩⟩
  case round =>
    obtain ⟨j, hj, rfl, rfl, hlow⟩ := hrel
    by_cases hlt : j < m
    · obtain ⟨b, off, rfl, hbl, hcell⟩ := hrd.at_ (by rw [H1.out]; omega)
      have hjc : j < cs.length := by rw [H1.out]; exact hlt
      obtain ⟨A2, n2, c2, he, l, hl, hr2⟩ := HE.out j _ (List.getElem?_eq_getElem hjc)
      have hcj : w.cell? ⟨b, off + j, none⟩ = some (.slice A2 n2 c2) := by
        rw [← he]
        exact hcell j _ (List.getElem?_eq_getElem hjc)
      have HS := Lib.hid (take_flatten_succ L j l hl)
      have hsz : (L.take j).flatten.length + l.length ≤ 1000000 := by
        have e2 := total_take L (j + 1)
        rw [HS.out, List.length_append] at e2
        omega
      have HL := Lib.hid hr2.1
      have hrd2 := hr2.2.2
      have hn2 : n2 ≤ 1000000 := by have := HL.out; omega
      clear hcell hrd hl he hr2
      generalize (L.take j).flatten = p at *
      have HLO := Lib.hid hlow
      have htp : tot false p ≤ 65280 * 1000000 := Nat.le_trans (tot_le false p) (Nat.mul_le_mul_left _ (by omega))
      clear hlow
      go_wp2
      go_loop [3, 4, 17] (fun x y i => ∃ k : Nat, k ≤ n2 ∧ i = .int .i64 k ∧ x = .int .u64 (tot false (p ++ l.take k) : Nat) ∧ LowB (p ++ l.take k) y) (fun _ _ i => n2 - (intOf i).toNat)
      case atStart => exact ⟨0, Nat.zero_le _, rfl, by simp, by simpa using HLO.out⟩
      case round =>
        obtain ⟨k, hk, rfl, rfl, hlow⟩ := hrel
        by_cases hlt2 : k < n2
        · obtain ⟨b2, off2, rfl, hbl2, hcell2⟩ := hrd2.at_ (by rw [bcs_length, HL.out]; omega)
          have hkl : k < l.length := by rw [HL.out]; omega
          have hck : w.cell? ⟨b2, off2 + k, none⟩ = some (.int .u8 (l[k].toNat : Int)) := hcell2 k _ (bcs_get _ _ hkl)
          have hx2 : l[k].toNat < 256 := l[k].toNat_lt
          have htq : tot false (p ++ l.take k) ≤ 65280 * 1000000 := Nat.le_trans (tot_le false _) (Nat.mul_le_mul_left _ (by rw [List.length_append, List.length_take]; omega))
          have HT := Lib.hid (tot_one1 (p ++ l.take k) l[k])
          have HN := Lib.hid (take_snoc_ l k hkl p)
          have HP := Lib.hid hlow
          clear hcell2 hrd2 hlow
          generalize p ++ l.take k = q at *
          rcases HP.out with ⟨h0, rfl⟩ | ⟨h0, rfl⟩
          · have HZ := Lib.hid h0
            clear h0 HP
            go_wp2
            go_round
            case rel =>
              refine ⟨k + 1, by omega, by go_num, ?_, ?_⟩
              · rw [HN.out, HT.out, if_pos HZ.out]; simp
              · rw [HN.out]; right; exact ⟨by rw [List.length_append]; have := HZ.out; simp; omega, rfl⟩
            case measure => simp [intOf]; omega
          · have HZ := Lib.hid h0
            clear h0 HP
            go_wp2
            go_round
            case rel =>
              refine ⟨k + 1, by omega, by go_num, ?_, ?_⟩
              · rw [HN.out, HT.out, if_neg (by have := HZ.out; omega)]; simp
              · rw [HN.out]; left; exact ⟨by rw [List.length_append]; have := HZ.out; simp; omega, rfl⟩
            case measure => simp [intOf]; omega
        · have hkk : l.take k = l := List.take_of_length_le (by rw [HL.out]; omega)
          rw [hkk] at hlow
          have HK := Lib.hid hkk
          have HLW := Lib.hid hlow
          clear hkk hlow
          go_wp2
          go_round
          case rel => exact ⟨j + 1, by omega, by go_num, by rw [HS.out, HK.out], by rw [HS.out]; exact HLW.out⟩
          case measure => simp [intOf]; omega
    · have hjj : L.take j = L := List.take_of_length_le (by rw [H2.out]; omega)
      rw [hjj]
      have htq : tot false L.flatten ≤ 65280 * 1000000 := Nat.le_trans (tot_le false _) (Nat.mul_le_mul_left _ (by omega))
      clear hjj hlow
      generalize hq : tot false L.flatten = t at *
      have HQ := Lib.hid hq
      clear hq
      have hf := fd_le t
      have hx := not16 (fd t) hf
      go_wp2_with (go_at_call 101; refine (fold_sum t _ (by omega)).mono ?_; rintro e w1 ⟨rfl, rfl⟩)
      go_ret
      refine ⟨?_, rfl⟩
      rw [HQ.out]
      rfl
theorem sumRight (A : Option Addr) (m c : Nat) (L : List (List UInt8)) (w : World) (h : RdL w A m L) (hm : m ≤ 1000000) (ht : L.flatten.length ≤ 1000000) : Calls Try.prog 52 #[.slice A m c] w fun e w' => e = .returned (.bool (65535 - fd (tot false L.flatten) == 0)) ∧ w = w' := by
  have HO := Lib.hid (sumOf A m c L w h hm ht)
  generalize 65535 - fd (tot false L.flatten) = z at *
  go_enter Try.func52, Try.ntmps52
  go_wp2_with (go_at_call 56; refine HO.out.mono ?_; rintro e w1 ⟨rfl, rfl⟩)
  go_ret
  refine ⟨?_, rfl⟩
  show Ending.returned (.bool ((z : Int) == 0)) = _
  congr 2
  rw [Bool.eq_iff_iff]
  simp only [beq_iff_eq]
  omega
end Go.Proofs.Ytknoenceccpkhaa

/- ip4.header of well-formed bytes. -/
namespace Go.Proofs.Ytknoenceccpkhaa
open Go.RowKit
set_option linter.unusedVariables false
set_option linter.unusedSimpArgs false
attribute [local go_sem ↓] sliced_cut

attribute [local go_sem] cutA_zero

/-- a header with its options, and its size -/
def RetHd (w : World) (ts ln id : Nat) (st mo : Bool) (fo tl pr sm sa da sz : Nat) (o : List UInt8) (e : Ending) (w' : World) : Prop := ∃ A n k bs d, e = .returned (.tuple #[.agg (h4C ts (ln : Int) id st mo (fo : Int) tl pr sm false 0 sa false 0 da A n k).toArray, .int .i64 (sz : Int), .int .i64 0]) ∧ w' = plus w bs d ∧ Ob (plus w bs d) w.heap.size A n k o
theorem RetHd.mk {w w' : World} {ts ln id : Nat} {st mo : Bool} {fo tl pr sm sa da sz : Nat} {o : List UInt8} {A : Option Addr} {n k : Nat} (h : Ob w' w.heap.size A n k o) (hb : Below w.heap.size w w') : RetHd w ts ln id st mo fo tl pr sm sa da sz o (.returned (.tuple #[.agg (h4C ts (ln : Int) id st mo (fo : Int) tl pr sm false 0 sa false 0 da A n k).toArray, .int .i64 (sz : Int), .int .i64 0])) w' := by
  obtain ⟨bs, d, rfl⟩ := plus_of hb
  exact ⟨A, n, k, bs, d, rfl, rfl, h⟩
end Go.Proofs.Ytknoenceccpkhaa

/- The pseudo-header: ip6.Pseudo and counterfoilref05.Pseudo. -/
namespace Go.Proofs.Ytknoenceccpkhaa
open Go.RowKit
set_option linter.unusedVariables false
set_option linter.unusedSimpArgs false
attribute [local go_sem ↓] sliced_cut

attribute [local go_sem] cutA_zero

/-- the bytes of a pseudo-header -/
def psdB (s6 : Bool) (sh sl : Nat) (d6 : Bool) (dh dl pr sz : Nat) : List UInt8 := adrB s6 sh sl ++ adrB d6 dh dl ++ (if s6 then dig sz 4 ++ dig pr 4 else dig pr 2 ++ dig sz 2)
theorem psdB_length (s6 : Bool) (sh sl : Nat) (d6 : Bool) (dh dl pr sz : Nat) : (psdB s6 sh sl d6 dh dl pr sz).length ≤ 40 := by
  have z1 := adrB_length s6 sh sl
  have z2 := adrB_length d6 dh dl
  cases s6 <;> simp [psdB, dig_length] <;> omega
theorem psdB_even (s6 : Bool) (sh sl : Nat) (d6 : Bool) (dh dl pr sz : Nat) : (psdB s6 sh sl d6 dh dl pr sz).length % 2 = 0 := by
  cases s6 <;> cases d6 <;> simp [psdB, adrB, dig_length]
set_option maxHeartbeats 1000000 in
set_option maxRecDepth 100000 in
theorem pseudo_any (s6 : Bool) (sh sl : Nat) (d6 : Bool) (dh dl pr sz : Nat) (w : World) (h1 : sh < 18446744073709551616) (h2 : sl < 18446744073709551616) (h3 : dh < 18446744073709551616) (h4 : dl < 18446744073709551616) (h5 : pr < 256) (h6 : sz < 65536) : Calls Try.prog 53 #[.agg #[.bool s6, .int .u64 (sh : Int), .int .u64 (sl : Int)], .agg #[.bool d6, .int .u64 (dh : Int), .int .u64 (dl : Int)], .int .u8 (pr : Int), .int .i64 (sz : Int)] w (RetF w (psdB s6 sh sl d6 dh dl pr sz)) := by
  have z1 := adrB_length s6 sh sl
  have z2 := adrB_length d6 dh dl
  go_enter Try.func53, Try.ntmps53
  go_wp2
  refine wp_rel 6 33 rfl (by kernel_rfl) (by kernel_rfl) (fun i => match i with | 0 => MP.eq (.agg #[.bool s6, .int .u64 (sh : Int), .int .u64 (sl : Int)]) | 1 => MP.of w.heap.size (adrB s6 sh sl) | 2 => MP.eq (.agg #[.bool d6, .int .u64 (dh : Int), .int .u64 (dl : Int)]) | 3 => MP.of w.heap.size (adrB d6 dh dl) | 4 => MP.rb (adrB s6 sh sl ++ adrB d6 dh dl) | 5 => MP.rb (adrB s6 sh sl ++ adrB d6 dh dl) | _ => MP.any) ?_ ?_
  · intro i hi o ho FA x hO hD K hK
    match i, hi, ho, hO, hD, hK with
    | 0, _, ho, hO, hD, hK => 
      obtain rfl := Option.some.inj ho.symm
      clear ho
      have ev4 : FA.eval (.tmp 4) = .pointer (some ⟨w.heap.size, 0, none⟩) := hO 4 (by kernel_rfl)
      have e4 : FA.tmps[4]?.getD undef = .pointer (some ⟨w.heap.size, 0, none⟩) := by simpa [Act.eval] using ev4
      replace ev4 := Lib.hid ev4
      clear hO hD
      go_simp
      exact hK.out _ _ (Ex.refl _) rfl
    | 1, _, ho, hO, hD, hK => 
      obtain rfl := Option.some.inj ho.symm
      clear ho
      have ev10 : FA.eval (.tmp 10) = .agg #[.bool s6, .int .u64 (sh : Int), .int .u64 (sl : Int)] := hD 0 10 (by kernel_rfl)
      have e10 : FA.tmps[10]?.getD undef = .agg #[.bool s6, .int .u64 (sh : Int), .int .u64 (sl : Int)] := by simpa [Act.eval] using ev10
      replace ev10 := Lib.hid ev10
      clear hO hD
      go_simp
      refine (adrBytes_any s6 sh sl _ h1 h2).mono ?_
      rintro e w1 ⟨A2, n2, bs2, d2, rfl, rfl, ho2⟩
      exact hK.out _ _ (Ex.plus_ _ _ _) ⟨_, _, rfl, ho2.mono (base' := w.heap.size) (by simp [size_plus]; omega)⟩
    | 2, _, ho, hO, hD, hK => 
      obtain rfl := Option.some.inj ho.symm
      clear ho
      have ev5 : FA.eval (.tmp 5) = .pointer (some ⟨w.heap.size + 1, 0, none⟩) := hO 5 (by kernel_rfl)
      have e5 : FA.tmps[5]?.getD undef = .pointer (some ⟨w.heap.size + 1, 0, none⟩) := by simpa [Act.eval] using ev5
      replace ev5 := Lib.hid ev5
      clear hO hD
      go_simp
      exact hK.out _ _ (Ex.refl _) rfl
    | 3, _, ho, hO, hD, hK => 
      obtain rfl := Option.some.inj ho.symm
      clear ho
      have ev12 : FA.eval (.tmp 12) = .agg #[.bool d6, .int .u64 (dh : Int), .int .u64 (dl : Int)] := hD 2 12 (by kernel_rfl)
      have e12 : FA.tmps[12]?.getD undef = .agg #[.bool d6, .int .u64 (dh : Int), .int .u64 (dl : Int)] := by simpa [Act.eval] using ev12
      replace ev12 := Lib.hid ev12
      clear hO hD
      go_simp
      refine (adrBytes_any d6 dh dl _ h3 h4).mono ?_
      rintro e w1 ⟨A2, n2, bs2, d2, rfl, rfl, ho2⟩
      exact hK.out _ _ (Ex.plus_ _ _ _) ⟨_, _, rfl, ho2.mono (base' := w.heap.size) (by simp [size_plus]; omega)⟩
    | 4, _, ho, hO, hD, hK => 
      obtain rfl := Option.some.inj ho.symm
      clear ho
      have f11 := hD 1 11 (by kernel_rfl)
      generalize eu11 : FA.eval (.tmp 11) = u11 at f11
      have e11 : FA.tmps[11]?.getD undef = u11 := by rw [← eu11]; simp [Act.eval]
      have ev11 := Lib.hid eu11
      clear eu11
      have f13 := hD 3 13 (by kernel_rfl)
      generalize eu13 : FA.eval (.tmp 13) = u13 at f13
      have e13 : FA.tmps[13]?.getD undef = u13 := by rw [← eu13]; simp [Act.eval]
      have ev13 := Lib.hid eu13
      clear eu13
      clear hO hD
      obtain ⟨A1, n1, rfl, hr1⟩ := f11
      obtain ⟨A2, n2, rfl, hr2⟩ := f13
      have hn1 : n1 ≤ 100 := by rw [← hr1.1]; omega
      have hn2 : n2 ≤ 100 := by rw [← hr2.1]; omega
      refine wanted_if rfl ?_
      refine rel_app bt (.tmp 11) (.tmp 13) rfl ev11.out hr1.rb ev13.out hr2.rb (by omega) ?_
      intro A3 n3 c3 w3 hex hr3
      exact hK.out _ _ hex ⟨_, _, _, rfl, hr3⟩
    | 5, _, ho, hO, hD, hK => 
      obtain rfl := Option.some.inj ho.symm
      clear ho
      have f14 := hD 4 14 (by kernel_rfl)
      generalize eu14 : FA.eval (.tmp 14) = u14 at f14
      have e14 : FA.tmps[14]?.getD undef = u14 := by rw [← eu14]; simp [Act.eval]
      have ev14 := Lib.hid eu14
      clear eu14
      clear hO hD
      go_simp
      exact hK.out _ _ (Ex.refl _) f14
    | (k + 6), hi, _, _, _, _ => exact absurd hi (by omega)
  intro vs x hp
  have p0 : vs 0 = .agg #[.bool s6, .int .u64 (sh : Int), .int .u64 (sl : Int)] := hp 0 (by omega)
  have p1 := hp 1 (by omega)
  have p2 : vs 2 = .agg #[.bool d6, .int .u64 (dh : Int), .int .u64 (dl : Int)] := hp 2 (by omega)
  have p3 := hp 3 (by omega)
  have p4 := hp 4 (by omega)
  have p5 := hp 5 (by omega)
  clear hp
  simp only [List.take_succ_cons, List.take_zero, List.drop_succ_cons, List.drop_zero, putAll, Nat.zero_add, Nat.reduceAdd, Act.put, List.setIfInBounds_toArray, List.set_cons_zero, List.set_cons_succ, p0, p2]
  clear p0 p2
  generalize vs 1 = y1 at *
  generalize vs 3 = y3 at *
  generalize vs 4 = y4 at *
  generalize vs 5 = y5 at *
  clear vs
  obtain ⟨A5, n5, c5, rfl, hr5⟩ := p5
  have l5 : n5 ≤ 100 := by rw [← hr5.1]; simp; omega
  cases s6
  · go_wp2_with fail
    refine (put_full _ _ _ _ pr 2 _ hr5 (by omega) (by omega) (by omega) (by omega)).mono ?_
    rintro e w1 ⟨A6, n6, bs6, m6, rfl, rfl, ho6⟩
    have l6 : n6 ≤ 200 := by rw [← ho6.1]; simp [dig_length]; omega
    go_wp2_with fail
    refine (put_full _ _ _ _ sz 2 _ ho6.rb (by omega) (by omega) (by omega) (by omega)).mono ?_
    rintro e w1 ⟨A7, n7, bs7, m7, rfl, rfl, ho7⟩
    go_wp2
    go_ret
    refine RetF.mk ?_ (belowP (belowP (belowP (Below.allocS (Below.allocS (Below.refl _ _) _) _) _ _) _ _) _ _)
    have := ho7.mono (base' := w.heap.size) (by simp [size_plus]; omega)
    simpa [psdB, List.append_assoc] using this
  · go_wp2_with fail
    refine (put_full _ _ _ _ sz 4 _ hr5 (by omega) (by omega) (by omega) (by omega)).mono ?_
    rintro e w1 ⟨A6, n6, bs6, m6, rfl, rfl, ho6⟩
    have l6 : n6 ≤ 200 := by rw [← ho6.1]; simp [dig_length]; omega
    go_wp2_with fail
    refine (put_full _ _ _ _ pr 4 _ ho6.rb (by omega) (by omega) (by omega) (by omega)).mono ?_
    rintro e w1 ⟨A7, n7, bs7, m7, rfl, rfl, ho7⟩
    go_wp2
    go_ret
    refine RetF.mk ?_ (belowP (belowP (belowP (Below.allocS (Below.allocS (Below.refl _ _) _) _) _ _) _ _) _ _)
    have := ho7.mono (base' := w.heap.size) (by simp [size_plus]; omega)
    simpa [psdB, List.append_assoc] using this
end Go.Proofs.Ytknoenceccpkhaa

/- ip4.Parse. -/
namespace Go.Proofs.Ytknoenceccpkhaa
open Go.RowKit
set_option linter.unusedVariables false
set_option linter.unusedSimpArgs false
attribute [local go_sem ↓] sliced_cut

attribute [local go_sem] cutA_zero

/-- a header, the bytes behind it, no error -/
def RetP4 (w : World) (ts ln id : Nat) (st mo : Bool) (fo tl pr sm sa da : Nat) (o load : List UInt8) (e : Ending) (w' : World) : Prop := ∃ A n k A2 n2 k2 bs d, e = .returned (.tuple #[.agg (h4C ts (ln : Int) id st mo (fo : Int) tl pr sm false 0 sa false 0 da A n k).toArray, .slice A2 n2 k2, .int .i64 0]) ∧ w' = plus w bs d ∧ Rb (plus w bs d) A n k o ∧ Rb (plus w bs d) A2 n2 k2 load ∧ ∀ a, A2 = some a → w.heap.size ≤ a.block
theorem RetP4.mk {w w' : World} {ts ln id : Nat} {st mo : Bool} {fo tl pr sm sa da : Nat} {o load : List UInt8} {A : Option Addr} {n k : Nat} {A2 : Option Addr} {n2 k2 : Nat} (h : Rb w' A n k o) (h2 : Rb w' A2 n2 k2 load) (hf : ∀ a, A2 = some a → w.heap.size ≤ a.block) (hb : Below w.heap.size w w') : RetP4 w ts ln id st mo fo tl pr sm sa da o load (.returned (.tuple #[.agg (h4C ts (ln : Int) id st mo (fo : Int) tl pr sm false 0 sa false 0 da A n k).toArray, .slice A2 n2 k2, .int .i64 0])) w' := by
  obtain ⟨bs, d, rfl⟩ := plus_of hb
  exact ⟨A, n, k, A2, n2, k2, bs, d, rfl, rfl, h, h2, hf⟩
end Go.Proofs.Ytknoenceccpkhaa

/- Contracts of tcp.Parse. -/
namespace Go.Proofs.Ytknoenceccpkhaa
open Go.RowKit
set_option linter.unusedVariables false
set_option linter.unusedSimpArgs false
attribute [local go_sem ↓] sliced_cut

attribute [local go_sem] cutA_zero

/-- a segment in new memory, and a second result -/
def RetSeg (w : World) (x0 x1 x2 x3 x4 x5 x6 x7 : Nat) (l l2 : List UInt8) (v : Value) (e : Ending) (w' : World) : Prop :=
  ∃ A n c A2 n2 c2 bs d, e = .returned (.tuple #[.agg #[.int .u16 x0, .int .u16 x1, .int .u32 x2, .int .u32 x3, .int .u8 x4, .int .u16 x5, .int .u16 x6, .int .u16 x7, .slice A n c, .slice A2 n2 c2], v]) ∧ w' = plus w bs d ∧ Rb (plus w bs d) A n c l ∧ Rb (plus w bs d) A2 n2 c2 l2
theorem RetSeg.mk {w w' : World} {x0 x1 x2 x3 x4 x5 x6 x7 : Nat} {l l2 : List UInt8} {A : Option Addr} {n c : Nat} {A2 : Option Addr} {n2 c2 : Nat} {v : Value} (h1 : Rb w' A n c l) (h2 : Rb w' A2 n2 c2 l2) (hb : Below w.heap.size w w') :
    RetSeg w x0 x1 x2 x3 x4 x5 x6 x7 l l2 v (.returned (.tuple #[.agg #[.int .u16 x0, .int .u16 x1, .int .u32 x2, .int .u32 x3, .int .u8 x4, .int .u16 x5, .int .u16 x6, .int .u16 x7, .slice A n c, .slice A2 n2 c2], v])) w' := by
  obtain ⟨bs, d, rfl⟩ := plus_of hb
  exact ⟨A, n, c, A2, n2, c2, bs, d, rfl, rfl, h1, h2⟩
/-- the same, the rows in new blocks -/
def RetSegF (w : World) (x0 x1 x2 x3 x4 x5 x6 x7 : Nat) (l l2 : List UInt8) (v : Value) (e : Ending) (w' : World) : Prop :=
  ∃ A n c A2 n2 c2 bs d, e = .returned (.tuple #[.agg #[.int .u16 x0, .int .u16 x1, .int .u32 x2, .int .u32 x3, .int .u8 x4, .int .u16 x5, .int .u16 x6, .int .u16 x7, .slice A n c, .slice A2 n2 c2], v]) ∧ w' = plus w bs d ∧ Rb (plus w bs d) A n c l ∧ Rb (plus w bs d) A2 n2 c2 l2 ∧ (∀ a, A = some a → w.heap.size ≤ a.block) ∧ ∀ a, A2 = some a → w.heap.size ≤ a.block
theorem Ob.freshT {w : World} {w0 base : Nat} {A : Option Addr} {n c : Nat} {l : List UInt8} (h : Ob w base A n c l) (hb : w0 ≤ base) : ∀ a, A = some a → w0 ≤ a.block := fun a ha => by
  subst ha
  have := (h.blk a.block rfl).1
  omega
theorem RetSegF.mk {w w' : World} {x0 x1 x2 x3 x4 x5 x6 x7 : Nat} {l l2 : List UInt8} {A : Option Addr} {n c : Nat} {A2 : Option Addr} {n2 c2 : Nat} {v : Value} {b1 b2 : Nat} (h1 : Ob w' b1 A n c l) (h2 : Ob w' b2 A2 n2 c2 l2) (hb : Below w.heap.size w w') (f1 : w.heap.size ≤ b1) (f2 : w.heap.size ≤ b2) :
    RetSegF w x0 x1 x2 x3 x4 x5 x6 x7 l l2 v (.returned (.tuple #[.agg #[.int .u16 x0, .int .u16 x1, .int .u32 x2, .int .u32 x3, .int .u8 x4, .int .u16 x5, .int .u16 x6, .int .u16 x7, .slice A n c, .slice A2 n2 c2], v])) w' := by
  obtain ⟨bs, d, rfl⟩ := plus_of hb
  exact ⟨A, n, c, A2, n2, c2, bs, d, rfl, rfl, h1.rb, h2.rb, h1.freshT f1, h2.freshT f2⟩
theorem RetSeg.zero {w w' : World} {v : Value} (hb : Below w.heap.size w w') : RetSeg w 0 0 0 0 0 0 0 0 [] [] v (.returned (.tuple #[.agg #[.int .u16 0, .int .u16 0, .int .u32 0, .int .u32 0, .int .u8 0, .int .u16 0, .int .u16 0, .int .u16 0, .slice none 0 0, .slice none 0 0], v])) w' := RetSeg.mk Rb.nil_ Rb.nil_ hb

end Go.Proofs.Ytknoenceccpkhaa

/- sum.Update; ip4.Older of a written packet. -/
namespace Go.Proofs.Ytknoenceccpkhaa
open Go.RowKit
set_option linter.unusedVariables false
set_option linter.unusedSimpArgs false
attribute [local go_sem ↓] sliced_cut

attribute [local go_sem] cutA_zero

set_option maxRecDepth 100000 in
theorem sumUpdate (s a b : Nat) (w : World) (hs : s < 65536) (ha : a < 65536) (hb : b < 65536) : Calls Try.prog 44 #[.int .u16 (s : Int), .int .u16 (a : Int), .int .u16 (b : Int)] w fun e w' => e = .returned (.int .u16 ((65535 - fd ((65535 - s) + (65535 - a) + b) : Nat) : Int)) ∧ w = w' := by
  have f1 := not16 s (by omega)
  have f2 := not16 a (by omega)
  obtain ⟨s', hs'⟩ : ∃ x : Nat, x = 65535 - s := ⟨_, rfl⟩
  obtain ⟨a', ha'⟩ : ∃ x : Nat, x = 65535 - a := ⟨_, rfl⟩
  rw [← hs'] at f1
  rw [← ha'] at f2
  rw [← hs', ← ha']
  have g1 : IntKind.u64.wrap (s' : Int) = (s' : Int) := IntWalk.u64_in _ (by omega)
  have g2 : IntKind.u64.wrap (a' : Int) = (a' : Int) := IntWalk.u64_in _ (by omega)
  have g3 : IntKind.u64.wrap (b : Int) = (b : Int) := IntWalk.u64_in _ (by omega)
  obtain ⟨p, hp⟩ : ∃ x : Nat, x = s' + a' := ⟨_, rfl⟩
  have g4 : IntKind.u64.wrap ((s' : Int) + (a' : Int)) = (p : Int) := by rw [IntWalk.u64_in _ (by omega)]; omega
  obtain ⟨q, hq⟩ : ∃ x : Nat, x = p + b := ⟨_, rfl⟩
  have g5 : IntKind.u64.wrap ((p : Int) + (b : Int)) = (q : Int) := by rw [IntWalk.u64_in _ (by omega)]; omega
  rw [← hp, ← hq]
  have hq2 : q < 18446744073709551616 := by omega
  have hf := fd_le q
  have f3 := not16 (fd q) hf
  have HF := Lib.hid (fun w => fold_sum q w hq2)
  generalize fd q = z at *
  clear hs' ha' hp hq
  go_enter Try.func44, Try.ntmps44
  go_wp2_with fail
  refine (HF.out _).mono ?_
  rintro e w1 ⟨rfl, rfl⟩
  go_wp2
  go_ret
  exact ⟨rfl, rfl⟩
end Go.Proofs.Ytknoenceccpkhaa

/- Turned words, the reference's Update, what Clamp makes (chapter 44). -/
namespace Go.Proofs.Ytknoenceccpkhaa
open Go.RowKit
set_option linter.unusedVariables false
set_option linter.unusedSimpArgs false
attribute [local go_sem ↓] sliced_cut

attribute [local go_sem] cutA_zero

/-- two bytes exchanged -/
def trn (n : Nat) : Nat := n % 256 * 256 + n / 256
theorem trn_lt (n : Nat) (h : n < 65536) : trn n < 65536 := by unfold trn; omega
theorem turn_bits (n : Nat) (h : n < 65536) : bits .or .u16 (IntKind.u16.wrap ((n : Int) * 256)) ((n : Int) / 256) = ((trn n : Nat) : Int) := by
  have e1 : IntKind.u16.wrap ((n : Int) * 256) = ((n % 256 * 256 : Nat) : Int) := by
    rw [show ((n : Int) * 256) = ((n % 256 * 256 : Nat) : Int) + ((n / 256 : Nat) : Int) * 65536 by omega]
    have hw : ∀ x : Int, IntKind.u16.wrap x = x % 65536 := fun x => rfl
    rw [hw]
    omega
  have e2 : (n : Int) / 256 = ((n / 256 : Nat) : Int) := rfl
  rw [e1, e2, u16_or_nat _ _ (by omega) (by omega), nat_join 8 _ _ (by omega) (by omega)]
  rfl
/-- a checksum, one word of what it covers changed -/
def updS (s a b : Nat) : Nat := 65535 - fd ((65535 - s) + (65535 - a) + b)
theorem updS_lt (s a b : Nat) : updS s a b < 65536 := by unfold updS; omega
theorem sumUpdateV (s a b : Nat) (w : World) (hs : s < 65536) (ha : a < 65536) (hb : b < 65536) : Calls Try.prog 44 #[.int .u16 (s : Int), .int .u16 (a : Int), .int .u16 (b : Int)] w (RetV w (.int .u16 (updS s a b : Nat))) :=
  (sumUpdate s a b w hs ha hb).mono fun _ _ ⟨h1, h2⟩ => by subst h1 h2; exact RetV.mk (Below.refl _ _)
set_option maxHeartbeats 4000000 in
set_option maxRecDepth 100000 in
theorem turned_any (n : Nat) (w : World) (h : n < 65536) : Calls Try.prog 43 #[.int .u16 (n : Int)] w (RetV w (.int .u16 (trn n : Nat))) := by
  have ht := Lib.hid (turn_bits n h)
  go_enter Try.func43, Try.ntmps43
  go_wp2
  go_ret
  rw [ht.out]
  exact RetV.mk (Below.refl _ _)
set_option maxHeartbeats 4000000 in
set_option maxRecDepth 100000 in
theorem refTurned_any (n : Nat) (w : World) (h : n < 65536) : Calls Try.prog 51 #[.int .u16 (n : Int)] w (RetV w (.int .u16 (trn n : Nat))) := by
  have h1 : Int.tmod (n : Int) 256 = ((n % 256 : Nat) : Int) := rfl
  have h2 : Int.tdiv (n : Int) 256 = ((n / 256 : Nat) : Int) := rfl
  have w1 : IntKind.u16.wrap (((n % 256 : Nat) : Int) * 256) = ((n % 256 * 256 : Nat) : Int) := by rw [IntWalk.u16_in _ (by omega)]; omega
  go_enter Try.func51, Try.ntmps51
  go_wp2
  go_ret
  rw [show (n : Int) % 256 * 256 + (n : Int) / 256 = ((trn n : Nat) : Int) by unfold trn; omega]
  exact RetV.mk (Below.refl _ _)
set_option maxHeartbeats 4000000 in
set_option maxRecDepth 100000 in
theorem refUpdate_any (s a b : Nat) (w : World) (hs : s < 65536) (ha : a < 65536) (hb : b < 65536) : Calls Try.prog 50 #[.int .u16 (s : Int), .int .u16 (a : Int), .int .u16 (b : Int)] w (RetV w (.int .u16 (updS s a b : Nat))) := by
  obtain ⟨s', hs'⟩ : ∃ x : Nat, x = 65535 - s := ⟨_, rfl⟩
  obtain ⟨a', ha'⟩ : ∃ x : Nat, x = 65535 - a := ⟨_, rfl⟩
  have g1 : IntKind.u32.wrap (s : Int) = (s : Int) := IntWalk.u32_in _ (by omega)
  have g2 : IntKind.u32.wrap (a : Int) = (a : Int) := IntWalk.u32_in _ (by omega)
  have g3 : IntKind.u32.wrap (b : Int) = (b : Int) := IntWalk.u32_in _ (by omega)
  have g4 : (65535 : Int) - (s : Int) = (s' : Int) := by omega
  have g5 : (65535 : Int) - (a : Int) = (a' : Int) := by omega
  have g6 : IntKind.u32.wrap (s' : Int) = (s' : Int) := IntWalk.u32_in _ (by omega)
  have g7 : IntKind.u32.wrap (a' : Int) = (a' : Int) := IntWalk.u32_in _ (by omega)
  have l1 := fd_le (s' + a')
  have l2 := fd_le (fd (s' + a') + b)
  have HE : Hid (fd (fd (s' + a') + b) = fd (s' + a' + b)) := Lib.hid (fd_add _ _)
  have HU : Hid (updS s a b = 65535 - fd (s' + a' + b)) := Lib.hid (by unfold updS; rw [hs', ha'])
  have H1 := Lib.hid (fun w => plus_any s' a' w (by omega) (by omega))
  have H2 := Lib.hid (fun w => plus_any (fd (s' + a')) b w l1 (by omega))
  generalize fd (s' + a') = z1 at *
  generalize fd (z1 + b) = z2 at *
  obtain ⟨z3, hz3⟩ : ∃ x : Nat, x = 65535 - z2 := ⟨_, rfl⟩
  have g8 : (65535 : Int) - (z2 : Int) = (z3 : Int) := by omega
  have g9 : IntKind.u16.wrap (z3 : Int) = (z3 : Int) := IntWalk.u16_in _ (by omega)
  have g10 : IntKind.u32.wrap (z3 : Int) = (z3 : Int) := IntWalk.u32_in _ (by omega)
  have HZ : Hid (updS s a b = z3) := Lib.hid (by rw [HU.out, ← HE.out, hz3])
  clear HU HE hz3 hs' ha'
  go_enter Try.func50, Try.ntmps50
  go_wp2_with fail
  refine (H1.out _).mono ?_
  rintro e w1 ⟨rfl, rfl⟩
  go_wp2_with fail
  refine (H2.out _).mono ?_
  rintro e w1 ⟨rfl, rfl⟩
  clear H1 H2 g1 g2 g3 g4 g5 g6 g7
  go_wp2
  go_ret
  rw [HZ.out]
  exact RetV.mk (Below.refl _ _)
theorem and2 (x : Nat) (h : x < 256) : bits .and .u8 (x : Int) 2 = ((x / 2 % 2 * 2 : Nat) : Int) := by
  have : ∀ y : Fin 256, bits .and .u8 ((y.val : Nat) : Int) 2 = ((y.val / 2 % 2 * 2 : Nat) : Int) := by decide +kernel
  exact this ⟨x, h⟩
theorem optF_at : ∀ (f : Nat) (l : List UInt8) (i : Nat), ∀ q ∈ optF f l i, ∃ j : Nat, q.1 = (j : Int) ∧ i ≤ j ∧ j + 2 + q.2.2.length ≤ l.length ∧ q.2.2 = (l.drop (j + 2)).take q.2.2.length
  | 0, _, _, _, h => by simp [optF] at h
  | f + 1, l, i, q, h => by
    unfold optF at h
    split at h
    · simp at h
    split at h
    · simp at h
    split at h
    · obtain ⟨j, h1, h2, h3⟩ := optF_at f l (i + 1) q h
      exact ⟨j, h1, by omega, h3⟩
    split at h
    · simp at h
    split at h
    · simp at h
    split at h
    · simp at h
    rcases List.mem_cons.1 h with rfl | h
    · refine ⟨i, rfl, Nat.le_refl _, ?_, ?_⟩
      · simp only [List.length_take, List.length_drop]
        omega
      · simp only [List.length_take, List.length_drop]
        rw [Nat.min_eq_left (by omega)]
    · obtain ⟨j, h1, h2, h3⟩ := optF_at f l _ q h
      exact ⟨j, h1, by omega, h3⟩
theorem first_at {l : List UInt8} {i : Int} {k : Nat} {d : List UInt8} (h : firstO 2 (opts l) = some (i, k, d)) : ∃ j : Nat, i = (j : Int) ∧ j + 2 + d.length ≤ l.length ∧ d = (l.drop (j + 2)).take d.length := by
  obtain ⟨j, h1, -, h2, h3⟩ := optF_at _ l 0 _ (List.mem_of_find?_eq_some h)
  exact ⟨j, h1, h2, h3⟩
/-- options and checksum as Clamp makes them -/
def clampO (l : List UInt8) (f most sm : Nat) : List UInt8 × Nat :=
  match firstO 2 (opts l) with
  | none => (l, sm)
  | some (i, _, d) =>
    if d.length = 2 ∧ f / 2 % 2 = 1 ∧ most < num d then
      (setB l (i.toNat + 2) (dig most 2), if i.toNat % 2 = 1 then updS sm (trn (num d)) (trn most) else updS sm (num d) most)
    else (l, sm)
theorem clampO_none {l : List UInt8} {f most sm : Nat} (h : firstO 2 (opts l) = none) : clampO l f most sm = (l, sm) := by unfold clampO; rw [h]
theorem clampO_no {l : List UInt8} {f most sm : Nat} {i : Int} {k : Nat} {d : List UInt8} (h : firstO 2 (opts l) = some (i, k, d)) (hn : ¬ (d.length = 2 ∧ f / 2 % 2 = 1 ∧ most < num d)) : clampO l f most sm = (l, sm) := by unfold clampO; rw [h]; simp only []; rw [if_neg hn]
theorem clampO_odd {l : List UInt8} {f most sm : Nat} {j : Nat} {k : Nat} {d : List UInt8} (h : firstO 2 (opts l) = some ((j : Int), k, d)) (hn : d.length = 2 ∧ f / 2 % 2 = 1 ∧ most < num d) (hj : j % 2 = 1) : clampO l f most sm = (setB l (j + 2) (dig most 2), updS sm (trn (num d)) (trn most)) := by unfold clampO; rw [h]; simp only []; rw [if_pos hn, Int.toNat_natCast, if_pos hj]
theorem clampO_even {l : List UInt8} {f most sm : Nat} {j : Nat} {k : Nat} {d : List UInt8} (h : firstO 2 (opts l) = some ((j : Int), k, d)) (hn : d.length = 2 ∧ f / 2 % 2 = 1 ∧ most < num d) (hj : j % 2 = 0) : clampO l f most sm = (setB l (j + 2) (dig most 2), updS sm (num d) most) := by unfold clampO; rw [h]; simp only []; rw [if_pos hn, Int.toNat_natCast, if_neg (by omega)]
end Go.Proofs.Ytknoenceccpkhaa

/- 'same' where all is the same; awake (chapter 44). -/
namespace Go.Proofs.Ytknoenceccpkhaa
open Go.RowKit
set_option linter.unusedVariables false
set_option linter.unusedSimpArgs false
attribute [local go_sem ↓] sliced_cut

attribute [local go_sem] cutA_zero

set_option maxHeartbeats 4000000 in
set_option maxRecDepth 100000 in
theorem awake44 (w : World) : Calls Try.prog 7 #[] w (RetV w (.bool true)) := by
  have hd := Ob.lit w (base := w.heap.size) (Nat.le_refl _) #[.int .u8 5, .int .u8 180] [5, 180] 2 rfl (by decide) rfl
  have hd2 := hd.rb.alloc (.cells (opC 2 (some ⟨w.heap.size, 0, none⟩) 2 2).toArray 105)
  have hrow : Rs 2 ((w.alloc (.cells #[.int .u8 5, .int .u8 180] 5)).alloc (.cells (opC 2 (some ⟨w.heap.size, 0, none⟩) 2 2).toArray 105)) (some ⟨w.heap.size + 1, 0, none⟩) 1 1 ([(⟨0, 2, some ⟨w.heap.size, 0, none⟩, 2, 2, [5, 180]⟩ : Ox)].flatMap wxC) :=
    Rs.of_bk (n := 1) (c := 1) (Bk.newK _ _ _ (by simp) rfl) rfl (Nat.le_refl _)
  have HW := Lib.hid (write_any _ _ 1 1 [(⟨0, 2, some ⟨w.heap.size, 0, none⟩, 2, 2, [5, 180]⟩ : Ox)] hrow (by simpa using hd2) (by simp) (by omega))
  have HB : wrB ([(⟨0, 2, some ⟨w.heap.size, 0, none⟩, 2, 2, [5, 180]⟩ : Ox)].map Ox.kd) [] = [2, 4, 5, 180] := show wrB [(2, [5, 180])] [] = _ by decide
  have HE : wrE ([(⟨0, 2, some ⟨w.heap.size, 0, none⟩, 2, 2, [5, 180]⟩ : Ox)].map Ox.kd) [] = 0 := show wrE [(2, [5, 180])] [] = _ by decide
  rw [HB, HE] at HW
  clear HB HE hd hd2 hrow
  go_enter Try.func7, Try.ntmps7
  go_upto_region 2 with (go_at_call 37; refine (HW.out).mono ?_; rintro e w1 ⟨A1, n1, c1, bs1, d1, rfl, rfl, ho1⟩)
  have es := run_str bt Try.underlying9 ho1
  go_wp2
  go_ret
  exact RetV.mk (belowP (Below.allocS (Below.allocS (Below.refl _ _) _) _) _ _)
end Go.Proofs.Ytknoenceccpkhaa

/- OptionReads' walk (chapter 44). -/
namespace Go.Proofs.Ytknoenceccpkhaa
open Go.RowKit
set_option linter.unusedVariables false
set_option linter.unusedSimpArgs false
attribute [local go_sem ↓] sliced_cut

attribute [local go_sem] cutA_zero

theorem firstO_ox (kind : Nat) (L : List Ox) (v : Int) (hv : (v = -1 ∧ ∀ x ∈ L, x.k ≠ kind) ∨ (∃ P y S, L = P ++ y :: S ∧ y.k = kind ∧ (∀ x ∈ P, x.k ≠ kind) ∧ v = (P.length : Int))) :
    (v = -1 ∧ firstO kind (L.map Ox.p) = none) ∨ ∃ kk : Nat, ∃ h : kk < L.length, v = (kk : Int) ∧ firstO kind (L.map Ox.p) = some L[kk].p ∧ L[kk].k = kind := by
  rcases hv with ⟨h1, h2⟩ | ⟨P, y, S, rfl, h2, h3, h4⟩
  · exact .inl ⟨h1, firstO_none (fun q hq => by obtain ⟨x, hx, rfl⟩ := List.mem_map.1 hq; exact h2 x hx)⟩
  · refine .inr ⟨P.length, by simp, h4, ?_, by simpa using h2⟩
    rw [List.map_append, List.map_cons, firstO_some y.p (S.map Ox.p) h2 (fun q hq => by obtain ⟨x, hx, rfl⟩ := List.mem_map.1 hq; exact h3 x hx)]
    simp
/-- Find, in one word -/
def RetFU (w : World) (kind : Nat) (r : Option Op3) (e : Ending) (w' : World) : Prop := ∃ bs d k A n c i b, e = .returned (.tuple #[.agg (opC k A n c).toArray, .int .i64 i, .bool b]) ∧ w' = plus w bs d ∧
  ((b = true ∧ k = kind ∧ ∃ d', Rb (plus w bs d) A n c d' ∧ r = some (i, kind, d')) ∨ (b = false ∧ k = 0 ∧ A = none ∧ n = 0 ∧ c = 0 ∧ i = 0 ∧ r = none))
theorem find44_u {A : Option Addr} {n c : Nat} {l : List UInt8} {w : World} (hr : Rb w A n c l) (hn : n ≤ 1000) (kind : Nat) : Calls Try.prog 39 #[.slice A n c, .int .u8 (kind : Int)] w (RetFU w kind (firstO kind (opts l))) := by
  refine (find44_any A n c l w hr hn kind).mono ?_
  rintro e w' ⟨bs, d', rfl, ⟨i', A', n', c', d2, rfl, hx, h2⟩ | ⟨rfl, h2⟩⟩
  · exact ⟨bs, d', _, _, _, _, _, true, rfl, rfl, .inl ⟨rfl, rfl, d2, hx, h2⟩⟩
  · exact ⟨bs, d', 0, none, 0, 0, 0, false, rfl, rfl, .inr ⟨rfl, rfl, rfl, rfl, rfl, rfl, h2⟩⟩
end Go.Proofs.Ytknoenceccpkhaa

/- The reference's Clamp (chapter 44). -/
namespace Go.Proofs.Ytknoenceccpkhaa
open Go.RowKit
set_option linter.unusedVariables false
set_option linter.unusedSimpArgs false
attribute [local go_sem ↓] sliced_cut

attribute [local go_sem] cutA_zero

def sgC (a b c d f wi sm ur : Nat) (A : Option Addr) (n k : Nat) (A2 : Option Addr) (n2 k2 : Nat) : List Value := [.int .u16 (a : Int), .int .u16 (b : Int), .int .u32 (c : Int), .int .u32 (d : Int), .int .u8 (f : Int), .int .u16 (wi : Int), .int .u16 (sm : Int), .int .u16 (ur : Int), .slice A n k, .slice A2 n2 k2]
theorem sgC_one (a b c d f wi sm ur : Nat) (A : Option Addr) (n k : Nat) (A2 : Option Addr) (n2 k2 : Nat) : ∀ u ∈ sgC a b c d f wi sm ur A n k A2 n2 k2, u.oneCell' = true := by
  intro u hu
  simp only [sgC, List.mem_cons, List.not_mem_nil, or_false] at hu
  rcases hu with rfl | rfl | rfl | rfl | rfl | rfl | rfl | rfl | rfl | rfl <;> rfl
theorem szSR (a b c d f wi sm ur : Nat) (A : Option Addr) (n k : Nat) (A2 : Option Addr) (n2 k2 : Nat) : (Try.prog.info? 26).map (·.size) = some (sgC a b c d f wi sm ur A n k A2 n2 k2).length := by kernel_rfl
theorem rowSR : ∃ d, Try.prog.underlying 26 = some d ∧ d.isRow = true := ⟨_, Try.underlying26, rfl⟩
theorem szSG (a b c d f wi sm ur : Nat) (A : Option Addr) (n k : Nat) (A2 : Option Addr) (n2 k2 : Nat) : (Try.prog.info? 31).map (·.size) = some (sgC a b c d f wi sm ur A n k A2 n2 k2).length := by kernel_rfl
theorem rowSG : ∃ d, Try.prog.underlying 31 = some d ∧ d.isRow = true := ⟨_, Try.underlying31, rfl⟩
/-- a segment comes back -/
def OldOb (w' : World) (A : Option Addr) (n k : Nat) (A' : Option Addr) (n' k' : Nat) : Prop := (A' = A ∧ n' = n ∧ k' = k) ∨ ∃ l, Ob w' 0 A' n' k' l
theorem Ob.any_ {w : World} {base : Nat} {A : Option Addr} {n c : Nat} {l : List UInt8} (h : Ob w base A n c l) : ∃ l, Ob w 0 A n c l := ⟨l, h.mono (Nat.zero_le _)⟩
def RetSg (w : World) (a b c d f wi sm ur : Nat) (A0 : Option Addr) (n0 k0 : Nat) (A20 : Option Addr) (n20 k20 : Nat) (l l2 : List UInt8) (e : Ending) (w' : World) : Prop := ∃ A n k A2 n2 k2, e = .returned (.agg (sgC a b c d f wi sm ur A n k A2 n2 k2).toArray) ∧ Below w.heap.size w w' ∧ Rb w' A n k l ∧ Rb w' A2 n2 k2 l2 ∧ OldOb w' A0 n0 k0 A n k ∧ OldOb w' A20 n20 k20 A2 n2 k2
set_option maxHeartbeats 4000000 in
set_option maxRecDepth 100000 in
theorem refClamp_any (a b c d f wi sm ur : Nat) (A : Option Addr) (n k : Nat) (A2 : Option Addr) (n2 k2 : Nat) (l l2 : List UInt8) (most : Nat) (w : World) (hf : f < 256) (hsm : sm < 65536) (hmo : most < 65536) (hl0 : Rb w A n k l) (h2 : Rb w A2 n2 k2 l2) (hn : n ≤ 200) : Calls Try.prog 9 #[.agg (sgC a b c d f wi sm ur A n k A2 n2 k2).toArray, .int .u16 (most : Int)] w (RetSg w a b c d f wi (clampO l f most sm).2 ur A n k A2 n2 k2 (clampO l f most sm).1 l2) := by
  obtain ⟨L', s', hP⟩ : ∃ L' s', clampO l f most sm = (L', s') := ⟨_, _, rfl⟩
  rw [hP]
  simp only []
  have HL0 := Lib.hid hl0
  have HL2 := Lib.hid h2
  have HP := Lib.hid hP
  clear hP
  obtain ⟨du1, u1, u2⟩ := rowSR
  have hS : Bk ((w.alloc (.cells (sgC a b c d f wi sm ur A n k A2 n2 k2).toArray 26)).alloc (.cells ([.int .u16 0, .int .u16 0, .int .u32 0, .int .u32 0, .int .u8 0, .int .u16 0, .int .u16 0, .int .u16 0, .slice none 0 0, .slice none 0 0]).toArray 26)) w.heap.size 26 (sgC a b c d f wi sm ur A n k A2 n2 k2) := (Bk.new w 26 (sgC a b c d f wi sm ur A n k A2 n2 k2).toArray).alloc _
  have hR : Bk ((w.alloc (.cells (sgC a b c d f wi sm ur A n k A2 n2 k2).toArray 26)).alloc (.cells ([.int .u16 0, .int .u16 0, .int .u32 0, .int .u32 0, .int .u8 0, .int .u16 0, .int .u16 0, .int .u16 0, .slice none 0 0, .slice none 0 0]).toArray 26)) (w.heap.size + 1) 26 ([.int .u16 0, .int .u16 0, .int .u32 0, .int .u32 0, .int .u8 0, .int .u16 0, .int .u16 0, .int .u16 0, .slice none 0 0, .slice none 0 0]) := Bk.newK _ _ _ (by simp) rfl
  have be : Below w.heap.size w ((w.alloc (.cells (sgC a b c d f wi sm ur A n k A2 n2 k2).toArray 26)).alloc (.cells ([.int .u16 0, .int .u16 0, .int .u32 0, .int .u32 0, .int .u8 0, .int .u16 0, .int .u16 0, .int .u16 0, .slice none 0 0, .slice none 0 0]).toArray 26)) := Below.allocS (Below.allocS (Below.refl _ _) _) _
  replace hl0 := ((hl0.alloc (.cells (sgC a b c d f wi sm ur A n k A2 n2 k2).toArray 26)).alloc (.cells ([.int .u16 0, .int .u16 0, .int .u32 0, .int .u32 0, .int .u8 0, .int .u16 0, .int .u16 0, .int .u16 0, .slice none 0 0, .slice none 0 0]).toArray 26))
  replace h2 := ((h2.alloc (.cells (sgC a b c d f wi sm ur A n k A2 n2 k2).toArray 26)).alloc (.cells ([.int .u16 0, .int .u16 0, .int .u32 0, .int .u32 0, .int .u8 0, .int .u16 0, .int .u16 0, .int .u16 0, .slice none 0 0, .slice none 0 0]).toArray 26))
  have zV : w.heap.size + 2 ≤ ((w.alloc (.cells (sgC a b c d f wi sm ur A n k A2 n2 k2).toArray 26)).alloc (.cells ([.int .u16 0, .int .u16 0, .int .u32 0, .int .u32 0, .int .u8 0, .int .u16 0, .int .u16 0, .int .u16 0, .slice none 0 0, .slice none 0 0]).toArray 26)).heap.size := by simp
  go_enter Try.func9, Try.ntmps9
  go_upto_region 1 with (fail)
  generalize (w.alloc (.cells (sgC a b c d f wi sm ur A n k A2 n2 k2).toArray 26)).alloc (.cells ([.int .u16 0, .int .u16 0, .int .u32 0, .int .u32 0, .int .u8 0, .int .u16 0, .int .u16 0, .int .u16 0, .slice none 0 0, .slice none 0 0]).toArray 26) = V at *
  replace hR : Bk V (w.heap.size + 1) 26 (sgC 0 0 0 0 0 0 0 0 none 0 0 none 0 0) := hR
  have gn : w.heap.size + 1 < V.heap.size := zV
  refine wp_region_lit ?_
  refine wpList_plain rfl (fun K hK => ?_); go_simp; with_reducible refine hK _ _ ?_; clear hK K
  refine wpList_ld1 (t := 26) (cs := sgC a b c d f wi sm ur A n k A2 n2 k2) 24 (.tmp 8) rfl (by rfl) rfl (hS) rfl Try.underlying24 rfl ?_
  refine wpList_plain rfl (fun K hK => ?_)
  go_simp
  refine (refAll_any A n k l V hl0 (by omega)).mono ?_
  rintro e w1 ⟨A1, n1, c1, L1, bs1, d1, rfl, rfl, hl1, hd1, hm1⟩
  with_reducible refine hK _ _ ?_
  clear hK K
  refine wpList_plain rfl (fun K hK => ?_); go_simp; with_reducible refine hK _ _ ?_; clear hK K
  have HN1 := Lib.hid (show L1.length = n1 by have := hl1.1; rw [flat_len rxC 3 rxC_len] at this; omega)
  have HN2 := Lib.hid (show n1 ≤ n by have h7 := opts_len l; rw [← hm1, List.length_map] at h7; have := HN1.out; have := hl0.1; omega)
  have hn1 : n1 ≤ 200 := by have := HN2.out; omega
  obtain ⟨v, hv⟩ : ∃ v : Int, (v = -1 ∧ ∀ x ∈ L1, x.k ≠ 2) ∨ (∃ P y S, L1 = P ++ y :: S ∧ y.k = 2 ∧ (∀ x ∈ P, x.k ≠ 2) ∧ v = (P.length : Int)) := (first_ox 2 L1).elim (fun h => ⟨-1, .inl ⟨rfl, h⟩⟩) (fun ⟨P, y, S, h1, h2, h3⟩ => ⟨P.length, .inr ⟨P, y, S, h1, h2, h3, rfl⟩⟩)
  have HV := Lib.hid hv
  have HF := firstO_ox 2 L1 v hv
  rw [hm1] at HF
  clear hv
  have b1 := below_plus V bs1 d1
  replace be := belowP be bs1 d1
  replace hS := hS.later b1
  replace hR := hR.later b1
  replace hl0 := hl0.later b1
  replace h2 := h2.later b1
  have zV1 : w.heap.size + 2 ≤ (plus V bs1 d1).heap.size := Nat.le_trans zV b1.size
  clear b1
  generalize plus V bs1 d1 = V1 at *
  go_upto_region 3 with (go_at_call 46; refine (refFind_at A1 n1 c1 L1 _ hl1 (by omega) 2 v HV.out).mono ?_; rintro e w1 ⟨bs2, d2, rfl, rfl⟩)
  have b1 := below_plus V1 bs2 d2
  replace be := belowP be bs2 d2
  replace hS := hS.later b1
  replace hR := hR.later b1
  replace hl0 := hl0.later b1
  replace h2 := h2.later b1
  replace hl1 := hl1.later b1
  replace hd1 : ∀ z ∈ L1, Rb (plus V1 bs2 d2) z.A z.n z.c z.d := fun z hz => (hd1 z hz).later b1
  have zV2 : w.heap.size + 2 ≤ (plus V1 bs2 d2).heap.size := Nat.le_trans zV1 b1.size
  clear b1 HV
  generalize plus V1 bs2 d2 = V2 at *
  have g4 : V2.cell? ⟨w.heap.size, 4, none⟩ = some (.int .u8 (f : Int)) := hS.cell 4
  have g6 : V2.cell? ⟨w.heap.size, 6, none⟩ = some (.int .u16 (sm : Int)) := hS.cell 6
  rcases HF with ⟨rfl, h3⟩ | ⟨kk, h0, rfl, h3, h4⟩
  · have hP := HP.out
    rw [clampO_none h3] at hP
    injection hP with hp1 hp2
    subst hp1 hp2
    clear HP h3
    go_upto_region 4 with (fail)
    refine wp_region_lit ?_
    refine wpList_ldA (t := 26) 26 (.tmp 2) rfl rfl (sgC a b c d f wi sm ur A n k A2 n2 k2) rfl (hS) (whole_ _) u1 u2 (szSR _ _ _ _ _ _ _ _ _ _ _ _ _ _ ) ?_
    simp only [Act.put, List.setIfInBounds_toArray, List.set_cons_zero, List.set_cons_succ]
    refine wpList_stA 26 (.tmp 4) (.tmp 31) rfl rfl (sgC a b c d f wi sm ur A n k A2 n2 k2) (sgC 0 0 0 0 0 0 0 0 none 0 0 none 0 0) rfl (sgC_one _ _ _ _ _ _ _ _ _ _ _ _ _ _ ) rfl rfl hR (szSR _ _ _ _ _ _ _ _ _ _ _ _ _ _ ) ?_
    intro W9 h9 g9
    simp only [Act.put, List.setIfInBounds_toArray, List.set_cons_zero, List.set_cons_succ]
    go_wp2
    refine bodyPost_agg Try.results9 rfl h9.range u1 u2 (szSR _ _ _ _ _ _ _ _ _ _ _ _ _ _ ) rfl ?_
    have be9 := below_grown be g9 (by omega)
    exact ⟨_, _, _, _, _, _, rfl, be9, HL0.out.later be9, HL2.out.later be9, .inl ⟨rfl, rfl, rfl⟩, .inl ⟨rfl, rfl, rfl⟩⟩
  · have hyi := hd1 L1[kk] (List.getElem_mem h0)
    have hlk : kk < n1 := by have := HN1.out; omega
    have ik0 : (kk : Int) < (n1 : Int) := by omega
    obtain ⟨b5, o5, rfl, hb5, -⟩ := hl1.at_ (by omega) (by decide)
    have HQ := Lib.hid (fun W (h : Below V2.heap.size V2 W) => show W.cell? ⟨b5, o5 + kk * 3, none⟩ = some (.int .i64 L1[kk].i) ∧ W.cell? ⟨b5, o5 + kk * 3 + 2, none⟩ = some (.slice L1[kk].A L1[kk].n L1[kk].c) from
      ⟨(hl1.later h).rangeE rxC_len kk h0 0 _ rfl, (hl1.later h).rangeE rxC_len kk h0 2 _ rfl⟩)
    generalize L1[kk] = y at *
    obtain ⟨yi, yk, yA, yn, yc, yd⟩ := y
    simp only [Ox.p] at HQ h3 h4 hyi
    obtain ⟨j, rfl, hj1, -⟩ := first_at h3
    have hyl : yd.length = yn := hyi.1
    have q0 := (HQ.out V2 (Below.refl _ _)).1
    have q2 := (HQ.out V2 (Below.refl _ _)).2
    by_cases hy2 : yn = 2
    · obtain ⟨wd, hwd⟩ : ∃ x, num yd = x := ⟨_, rfl⟩
      have hwl : wd < 65536 := by have := num_lt 2 yd (by omega); rw [hwd] at this; simpa using this
      have HWD := Lib.hid hwd
      have e2 : (((yn : Nat) : Int) != 2) = false := by subst hy2; rfl
      have hjn : j + 4 ≤ n := by have := HL0.out.1; omega
      have HYL := Lib.hid (show yd.length = 2 by omega)
      have HN := Lib.hid (fun W (h : Rb W yA yn yc yd) => (by have := refNum_any yA yn yc yd W h (by omega); rwa [hwd] at this : Calls Try.prog 47 #[.slice yA yn yc] W fun e w' => e = .returned (.int .u64 (wd : Nat)) ∧ W = w'))
      have H3 := Lib.hid h3
      clear hwd hj1 hyl hy2 h3 h4
      by_cases hff : f / 2 % 2 = 1
      · have HFF := Lib.hid hff
        have e4 : Int.tmod (Int.tdiv (f : Int) 2) 2 = 1 := by rw [show Int.tmod (Int.tdiv (f : Int) 2) 2 = ((f / 2 % 2 : Nat) : Int) from rfl, hff]; rfl
        have e5 : (f : Int) / 2 % 2 = 1 := by omega
        have wn : IntKind.u16.wrap (wd : Int) = (wd : Int) := IntWalk.u16_in _ (by omega)
        have HJN := Lib.hid hjn
        clear hff hjn
        go_upto_region 5 with (fail)
        clear e4 e5 e2
        go_upto_region 6 with (go_at_call 47; refine (HN.out _ hyi).mono ?_; rintro e w1 ⟨rfl, rfl⟩)
        by_cases hle : wd ≤ most
        · have il : (wd : Int) ≤ (most : Int) := by omega
          have hP := HP.out
          rw [clampO_no H3.out (by have := HWD.out; have := HFF.out; omega)] at hP
          injection hP with hp1 hp2
          subst hp1 hp2
          clear HP HQ
          go_upto_region 7 with (fail)
          refine wp_region_lit ?_
          refine wpList_ldA (t := 26) 26 (.tmp 2) rfl rfl (sgC a b c d f wi sm ur A n k A2 n2 k2) rfl (hS) (whole_ _) u1 u2 (szSR _ _ _ _ _ _ _ _ _ _ _ _ _ _ ) ?_
          simp only [Act.put, List.setIfInBounds_toArray, List.set_cons_zero, List.set_cons_succ]
          refine wpList_stA 26 (.tmp 4) (.tmp 42) rfl rfl (sgC a b c d f wi sm ur A n k A2 n2 k2) (sgC 0 0 0 0 0 0 0 0 none 0 0 none 0 0) rfl (sgC_one _ _ _ _ _ _ _ _ _ _ _ _ _ _ ) rfl rfl hR (szSR _ _ _ _ _ _ _ _ _ _ _ _ _ _ ) ?_
          intro W9 h9 g9
          simp only [Act.put, List.setIfInBounds_toArray, List.set_cons_zero, List.set_cons_succ]
          go_wp2
          refine bodyPost_agg Try.results9 rfl h9.range u1 u2 (szSR _ _ _ _ _ _ _ _ _ _ _ _ _ _ ) rfl ?_
          have be9 := below_grown be g9 (by omega)
          exact ⟨_, _, _, _, _, _, rfl, be9, HL0.out.later be9, HL2.out.later be9, .inl ⟨rfl, rfl, rfl⟩, .inl ⟨rfl, rfl, rfl⟩⟩
        · have il : ¬ (wd : Int) ≤ (most : Int) := by omega
          have hjn := HJN.out
          have wj : IntKind.i64.wrap ((j : Int) + 2) = (j : Int) + 2 := IntWalk.i64_in _ (by omega)
          have HJ := Lib.hid (show (j : Int) + 2 = ((j + 2 : Nat) : Int) by omega)
          have wm : IntKind.u64.wrap (most : Int) = (most : Int) := IntWalk.u64_in _ (by omega)
          have HP2 : Hid (L' = setB l (j + 2) (dig most 2) ∧ ((j % 2 = 1 ∧ s' = updS sm (trn wd) (trn most)) ∨ (j % 2 = 0 ∧ s' = updS sm wd most))) := Lib.hid (by
            have hP := HP.out
            rcases Nat.mod_two_eq_zero_or_one j with hj | hj
            · rw [clampO_even H3.out (by have := HWD.out; have := HYL.out; have := HFF.out; omega) hj, HWD.out] at hP
              injection hP with hp1 hp2
              exact ⟨hp1.symm, .inr ⟨hj, hp2.symm⟩⟩
            · rw [clampO_odd H3.out (by have := HWD.out; have := HYL.out; have := HFF.out; omega) hj, HWD.out] at hP
              injection hP with hp1 hp2
              exact ⟨hp1.symm, .inl ⟨hj, hp2.symm⟩⟩)
          have hne : b5 ≠ w.heap.size := by
            intro e
            have h7 := q0
            rw [e] at h7
            rw [hS.cell] at h7
            have h8 := List.mem_of_getElem? h7
            simp [sgC] at h8
          go_upto_region 8 with (fail)
          clear HP q2 HN HN1 HN2 hl1 hd1 hyi
          refine wp_relS 13 78 rfl (by kernel_rfl) (by kernel_rfl) ?_
          apply Steps.one (MP.eq _) 1 rfl
          · intro o ho FA x hO hD K hK
            obtain rfl := Option.some.inj ho.symm
            clear ho
            have e2 := hO 2 (by kernel_rfl)
            simp only [eval_tmp, List.getElem?_toArray, List.getElem?_cons_succ, List.getElem?_cons_zero, Option.getD_some] at e2
            have ev2 := Lib.hid ((eval_tmp FA 2).trans e2)
            clear hO hD
            go_simp
            exact hK.out _ _ (Ex.refl _) rfl
          apply Steps.one (MP.eq _) 2 rfl
          · intro o ho FA x hO hD K hK
            obtain rfl := Option.some.inj ho.symm
            clear ho
            have ev43 : FA.eval (.tmp 43) = _ := hD 0 43 (by kernel_rfl)
            have e43 := (eval_tmp FA 43).symm.trans ev43
            replace ev43 := Lib.hid ev43
            clear hO hD
            refine wanted_if rfl ?_
            refine wp_ld1 24 (.tmp 43) rfl ev43.out (hS.later (below_plus _ _ _)) rfl Try.underlying24 rfl ?_
            exact hK.out _ _ (Ex.refl _) rfl
          apply Steps.one (MP.eq _) 3 rfl
          · intro o ho FA x hO hD K hK
            obtain rfl := Option.some.inj ho.symm
            clear ho
            have e5 := hO 5 (by kernel_rfl)
            simp only [eval_tmp, List.getElem?_toArray, List.getElem?_cons_succ, List.getElem?_cons_zero, Option.getD_some] at e5
            have ev5 := Lib.hid ((eval_tmp FA 5).trans e5)
            clear hO hD
            go_simp
            exact hK.out _ _ (Ex.refl _) rfl
          apply Steps.one (MP.eq _) 4 rfl
          · intro o ho FA x hO hD K hK
            obtain rfl := Option.some.inj ho.symm
            clear ho
            have e6 := hO 6 (by kernel_rfl)
            simp only [eval_tmp, List.getElem?_toArray, List.getElem?_cons_succ, List.getElem?_cons_zero, Option.getD_some] at e6
            have ev6 := Lib.hid ((eval_tmp FA 6).trans e6)
            clear hO hD
            go_simp
            exact hK.out _ _ (Ex.refl _) rfl
          apply Steps.one (MP.eq _) 5 rfl
          · intro o ho FA x hO hD K hK
            obtain rfl := Option.some.inj ho.symm
            clear ho
            have ev45 : FA.eval (.tmp 45) = _ := hD 2 45 (by kernel_rfl)
            have e45 := (eval_tmp FA 45).symm.trans ev45
            replace ev45 := Lib.hid ev45
            have ev46 : FA.eval (.tmp 46) = _ := hD 3 46 (by kernel_rfl)
            have e46 := (eval_tmp FA 46).symm.trans ev46
            replace ev46 := Lib.hid ev46
            clear hO hD
            go_simp
            exact hK.out _ _ (Ex.refl _) rfl
          apply Steps.one (MP.eq _) 6 rfl
          · intro o ho FA x hO hD K hK
            obtain rfl := Option.some.inj ho.symm
            clear ho
            have ev47 : FA.eval (.tmp 47) = _ := hD 4 47 (by kernel_rfl)
            have e47 := (eval_tmp FA 47).symm.trans ev47
            replace ev47 := Lib.hid ev47
            clear hO hD
            go_simp
            exact hK.out _ _ (Ex.refl _) rfl
          apply Steps.one (MP.eq _) 7 rfl
          · intro o ho FA x hO hD K hK
            obtain rfl := Option.some.inj ho.symm
            clear ho
            have ev48 : FA.eval (.tmp 48) = _ := hD 5 48 (by kernel_rfl)
            have e48 := (eval_tmp FA 48).symm.trans ev48
            replace ev48 := Lib.hid ev48
            clear hO hD
            have q9 := (HQ.out (plus V2 x.bs x.d) (below_plus _ _ _)).1
            go_simp
            exact hK.out _ _ (Ex.refl _) rfl
          apply Steps.one (MP.eq (.int .i64 ((j + 2 : Nat) : Int))) 8 rfl
          · intro o ho FA x hO hD K hK
            obtain rfl := Option.some.inj ho.symm
            clear ho
            have ev49 : FA.eval (.tmp 49) = _ := hD 6 49 (by kernel_rfl)
            have e49 := (eval_tmp FA 49).symm.trans ev49
            replace ev49 := Lib.hid ev49
            clear hO hD
            go_simp
            exact hK.out _ _ (Ex.refl _) (congrArg (Value.int .i64) HJ.out)
          apply Steps.one (MP.eq _) 9 rfl
          · intro o ho FA x hO hD K hK
            obtain rfl := Option.some.inj ho.symm
            clear ho
            have e1 := hO 1 (by kernel_rfl)
            simp only [eval_tmp, List.getElem?_toArray, List.getElem?_cons_succ, List.getElem?_cons_zero, Option.getD_some] at e1
            have ev1 := Lib.hid ((eval_tmp FA 1).trans e1)
            clear hO hD
            go_simp
            exact hK.out _ _ (Ex.refl _) rfl
          apply Steps.one (MP.eq _) 10 rfl
          · intro o ho FA x hO hD K hK
            obtain rfl := Option.some.inj ho.symm
            clear ho
            have ev51 : FA.eval (.tmp 51) = _ := hD 8 51 (by kernel_rfl)
            have e51 := (eval_tmp FA 51).symm.trans ev51
            replace ev51 := Lib.hid ev51
            clear hO hD
            go_simp
            exact hK.out _ _ (Ex.refl _) rfl
          apply Steps.one (MP.rb (dig most 2)) 11 rfl
          · intro o ho FA x hO hD K hK
            obtain rfl := Option.some.inj ho.symm
            clear ho
            have ev52 : FA.eval (.tmp 52) = _ := hD 9 52 (by kernel_rfl)
            have e52 := (eval_tmp FA 52).symm.trans ev52
            replace ev52 := Lib.hid ev52
            clear hO hD
            go_simp
            refine (refBytes_any most 2 _ (by omega) (by omega)).mono ?_
            rintro e w1 ⟨A9, n9, c9, bs9, d9, rfl, rfl, ho9⟩
            exact hK.out _ _ (Ex.plus_ _ _ _) ⟨_, _, _, rfl, ho9.rb⟩
          apply Steps.one (MP.ob V2.heap.size (setB l (j + 2) (dig most 2))) 12 rfl
          · intro o ho FA x hO hD K hK
            obtain rfl := Option.some.inj ho.symm
            clear ho
            have ev44 : FA.eval (.tmp 44) = _ := hD 1 44 (by kernel_rfl)
            have e44 := (eval_tmp FA 44).symm.trans ev44
            replace ev44 := Lib.hid ev44
            have ev50 : FA.eval (.tmp 50) = _ := hD 7 50 (by kernel_rfl)
            have e50 := (eval_tmp FA 50).symm.trans ev50
            replace ev50 := Lib.hid ev50
            have f53 := hD 10 53 (by kernel_rfl)
            generalize eu53 : FA.eval (.tmp 53) = u53 at f53
            have e53 := (eval_tmp FA 53).symm.trans eu53
            have ev53 := Lib.hid eu53
            clear eu53
            clear hO hD
            obtain ⟨A7, n7, c7, rfl, h7⟩ := f53
            have n7e : n7 = 2 := by have := h7.1; rw [dig_length] at this; omega
            subst n7e
            go_simp
            refine (refSet A n k l (j + 2) A7 2 c7 (dig most 2) _ (hl0.later (below_plus _ _ _)) h7 (by omega) (by omega) (by omega)).mono ?_
            rintro e w1 ⟨A9, n9, c9, bs9, d9, rfl, rfl, ho9⟩
            exact hK.out _ _ (Ex.plus_ _ _ _) ⟨_, _, _, rfl, ho9.mono (by simp [size_plus])⟩
          apply Steps.one (MP.eq _) 13 rfl
          · intro o ho FA x hO hD K hK
            obtain rfl := Option.some.inj ho.symm
            clear ho
            have e2 := hO 2 (by kernel_rfl)
            simp only [eval_tmp, List.getElem?_toArray, List.getElem?_cons_succ, List.getElem?_cons_zero, Option.getD_some] at e2
            have ev2 := Lib.hid ((eval_tmp FA 2).trans e2)
            clear hO hD
            go_simp
            exact hK.out _ _ (Ex.refl _) rfl
          refine Steps.fin_ (fun vs x hp => ?_)
          have p0 : vs 0 = _ := hp 0 (by omega)
          have p1 : vs 1 = _ := hp 1 (by omega)
          have p2 : vs 2 = _ := hp 2 (by omega)
          have p3 : vs 3 = _ := hp 3 (by omega)
          have p4 : vs 4 = _ := hp 4 (by omega)
          have p5 : vs 5 = _ := hp 5 (by omega)
          have p6 : vs 6 = _ := hp 6 (by omega)
          have p7 : vs 7 = _ := hp 7 (by omega)
          have p8 : vs 8 = _ := hp 8 (by omega)
          have p9 : vs 9 = _ := hp 9 (by omega)
          have p10 := hp 10 (by omega)
          have p11 := hp 11 (by omega)
          have p12 : vs 12 = _ := hp 12 (by omega)
          clear hp
          simp only [List.take_succ_cons, List.take_zero, List.drop_succ_cons, List.drop_zero, putAll, Nat.zero_add, Nat.reduceAdd, Act.put, List.setIfInBounds_toArray, List.set_cons_zero, List.set_cons_succ, p0, p1, p2, p3, p4, p5, p6, p7, p8, p9, p12]
          clear p0 p1 p2 p3 p4 p5 p6 p7 p8 p9 p12
          generalize vs 10 = y10 at *
          generalize vs 11 = y11 at *
          clear vs
          obtain ⟨A8, n8, c8, rfl, ho8⟩ := p11
          have b3 := below_plus V2 x.bs x.d
          replace be := belowP be x.bs x.d
          replace hS := hS.later b3
          replace hR := hR.later b3
          replace q0 := (HQ.out _ b3).1
          have z2 := be.size
          have z3 : b5 < (plus V2 x.bs x.d).heap.size := by have := b3.size; omega
          have hz : b5 < (plus V2 x.bs x.d).heap.size := z3
          generalize plus V2 x.bs x.d = V3 at *
          refine wpList_st1 24 (.tmp 55) (.tmp 54) rfl rfl (by rfl) (by rfl) hS (Nat.le_of_ble_eq_true rfl) rfl (by kernel_rfl) ?_
          intro W3 hS' g3
          replace hS : Bk W3 w.heap.size 26 (sgC a b c d f wi sm ur A8 n8 c8 A2 n2 k2) := hS'
          clear hS'
          simp only [Act.put, List.setIfInBounds_toArray, List.set_cons_zero, List.set_cons_succ]
          have q1 : W3.cell? ⟨b5, o5 + kk * 3, none⟩ = some (.int .i64 (j : Int)) := (World.cell?_of_block (a := ⟨b5, o5 + kk * 3, none⟩) (g3.block b5 hz (fun e => hne (by injection e)))).trans q0
          clear q0
          replace be := below_grown be g3 (Nat.le_refl _)
          replace hR := hR.grown g3 (by simp)
          replace ho8 := ho8.grown g3 (fun k hk e => by have := (ho8.blk k hk).1; injection e with e; omega)
          clear g3
          go_upto_region 9 with (fail)
          rcases HP2.out with ⟨rfl, ⟨hj, rfl⟩ | ⟨hj, rfl⟩⟩
          · have m1 : Int.tmod (j : Int) 2 = 1 := by rw [show Int.tmod (j : Int) 2 = ((j % 2 : Nat) : Int) from rfl, hj]; rfl
            have m2 : (j : Int) % 2 = 1 := by omega
            go_upto_region 10 with (fail)
            clear hj m1 m2 q1
            refine wp_relS 8 78 rfl (by kernel_rfl) (by kernel_rfl) ?_
            apply Steps.one (MP.eq _) 1 rfl
            · intro o ho FA x hO hD K hK
              obtain rfl := Option.some.inj ho.symm
              clear ho
              have e2 := hO 2 (by kernel_rfl)
              simp only [eval_tmp, List.getElem?_toArray, List.getElem?_cons_succ, List.getElem?_cons_zero, Option.getD_some] at e2
              have ev2 := Lib.hid ((eval_tmp FA 2).trans e2)
              clear hO hD
              go_simp
              exact hK.out _ _ (Ex.refl _) rfl
            apply Steps.one (MP.eq _) 2 rfl
            · intro o ho FA x hO hD K hK
              obtain rfl := Option.some.inj ho.symm
              clear ho
              have ev63 : FA.eval (.tmp 63) = _ := hD 0 63 (by kernel_rfl)
              have e63 := (eval_tmp FA 63).symm.trans ev63
              replace ev63 := Lib.hid ev63
              clear hO hD
              refine wanted_if rfl ?_
              refine wp_ld1 22 (.tmp 63) rfl ev63.out (hS.later (below_plus _ _ _)) rfl Try.underlying22 rfl ?_
              exact hK.out _ _ (Ex.refl _) rfl
            apply Steps.one (MP.eq _) 3 rfl
            · intro o ho FA x hO hD K hK
              obtain rfl := Option.some.inj ho.symm
              clear ho
              have e7 := hO 7 (by kernel_rfl)
              simp only [eval_tmp, List.getElem?_toArray, List.getElem?_cons_succ, List.getElem?_cons_zero, Option.getD_some] at e7
              have ev7 := Lib.hid ((eval_tmp FA 7).trans e7)
              clear hO hD
              go_simp
              exact hK.out _ _ (Ex.refl _) rfl
            apply Steps.one (MP.eq (.int .u16 ((trn wd : Nat) : Int))) 4 rfl
            · intro o ho FA x hO hD K hK
              obtain rfl := Option.some.inj ho.symm
              clear ho
              have ev65 : FA.eval (.tmp 65) = _ := hD 2 65 (by kernel_rfl)
              have e65 := (eval_tmp FA 65).symm.trans ev65
              replace ev65 := Lib.hid ev65
              clear hO hD
              go_simp
              refine (refTurned_any wd _ (by omega)).mono ?_
              rintro e w1 ⟨bs2, d2, rfl, rfl⟩
              exact hK.out _ _ (Ex.plus_ _ _ _) rfl
            apply Steps.one (MP.eq _) 5 rfl
            · intro o ho FA x hO hD K hK
              obtain rfl := Option.some.inj ho.symm
              clear ho
              have e1 := hO 1 (by kernel_rfl)
              simp only [eval_tmp, List.getElem?_toArray, List.getElem?_cons_succ, List.getElem?_cons_zero, Option.getD_some] at e1
              have ev1 := Lib.hid ((eval_tmp FA 1).trans e1)
              clear hO hD
              go_simp
              exact hK.out _ _ (Ex.refl _) rfl
            apply Steps.one (MP.eq (.int .u16 ((trn most : Nat) : Int))) 6 rfl
            · intro o ho FA x hO hD K hK
              obtain rfl := Option.some.inj ho.symm
              clear ho
              have ev67 : FA.eval (.tmp 67) = _ := hD 4 67 (by kernel_rfl)
              have e67 := (eval_tmp FA 67).symm.trans ev67
              replace ev67 := Lib.hid ev67
              clear hO hD
              go_simp
              refine (refTurned_any most _ (by omega)).mono ?_
              rintro e w1 ⟨bs2, d2, rfl, rfl⟩
              exact hK.out _ _ (Ex.plus_ _ _ _) rfl
            apply Steps.one (MP.eq (.int .u16 ((updS sm (trn wd) (trn most) : Nat) : Int))) 7 rfl
            · intro o ho FA x hO hD K hK
              obtain rfl := Option.some.inj ho.symm
              clear ho
              have ev64 : FA.eval (.tmp 64) = _ := hD 1 64 (by kernel_rfl)
              have e64 := (eval_tmp FA 64).symm.trans ev64
              replace ev64 := Lib.hid ev64
              have ev66 : FA.eval (.tmp 66) = _ := hD 3 66 (by kernel_rfl)
              have e66 := (eval_tmp FA 66).symm.trans ev66
              replace ev66 := Lib.hid ev66
              have ev68 : FA.eval (.tmp 68) = _ := hD 5 68 (by kernel_rfl)
              have e68 := (eval_tmp FA 68).symm.trans ev68
              replace ev68 := Lib.hid ev68
              clear hO hD
              go_simp
              refine (refUpdate_any sm (trn wd) (trn most) _ (by omega) (trn_lt _ (by omega)) (trn_lt _ (by omega))).mono ?_
              rintro e w1 ⟨bs2, d2, rfl, rfl⟩
              exact hK.out _ _ (Ex.plus_ _ _ _) rfl
            apply Steps.one (MP.eq _) 8 rfl
            · intro o ho FA x hO hD K hK
              obtain rfl := Option.some.inj ho.symm
              clear ho
              have e2 := hO 2 (by kernel_rfl)
              simp only [eval_tmp, List.getElem?_toArray, List.getElem?_cons_succ, List.getElem?_cons_zero, Option.getD_some] at e2
              have ev2 := Lib.hid ((eval_tmp FA 2).trans e2)
              clear hO hD
              go_simp
              exact hK.out _ _ (Ex.refl _) rfl
            refine Steps.fin_ (fun vs x hp => ?_)
            have p0 : vs 0 = _ := hp 0 (by omega)
            have p1 : vs 1 = _ := hp 1 (by omega)
            have p2 : vs 2 = _ := hp 2 (by omega)
            have p3 : vs 3 = _ := hp 3 (by omega)
            have p4 : vs 4 = _ := hp 4 (by omega)
            have p5 : vs 5 = _ := hp 5 (by omega)
            have p6 : vs 6 = _ := hp 6 (by omega)
            have p7 : vs 7 = _ := hp 7 (by omega)
            clear hp
            simp only [List.take_succ_cons, List.take_zero, List.drop_succ_cons, List.drop_zero, putAll, Nat.zero_add, Nat.reduceAdd, Act.put, List.setIfInBounds_toArray, List.set_cons_zero, List.set_cons_succ, p0, p1, p2, p3, p4, p5, p6, p7]
            clear p0 p1 p2 p3 p4 p5 p6 p7
            clear vs
            have b4 := below_plus W3 x.bs x.d
            replace be := belowP be x.bs x.d
            replace hS := hS.later b4
            replace hR := hR.later b4
            replace ho8 := ho8.later b4
            clear b4
            generalize plus W3 x.bs x.d = W4 at *
            refine wpList_st1 22 (.tmp 70) (.tmp 69) rfl rfl (by rfl) (by rfl) hS (Nat.le_of_ble_eq_true rfl) rfl (by kernel_rfl) ?_
            intro W5 hS' g5
            replace hS : Bk W5 w.heap.size 26 (sgC a b c d f wi (updS sm (trn wd) (trn most)) ur A8 n8 c8 A2 n2 k2) := hS'
            clear hS'
            simp only [Act.put, List.setIfInBounds_toArray, List.set_cons_zero, List.set_cons_succ]
            replace be := below_grown be g5 (Nat.le_refl _)
            replace hR := hR.grown g5 (by simp)
            replace ho8 := ho8.grown g5 (fun k hk e => by have := (ho8.blk k hk).1; injection e with e; omega)
            clear g5
            go_upto_region 12 with (fail)
            refine wp_region_lit ?_
            refine wpList_ldA (t := 26) 26 (.tmp 2) rfl rfl (sgC a b c d f wi (updS sm (trn wd) (trn most)) ur A8 n8 c8 A2 n2 k2) rfl (hS) (whole_ _) u1 u2 (szSR _ _ _ _ _ _ _ _ _ _ _ _ _ _ ) ?_
            simp only [Act.put, List.setIfInBounds_toArray, List.set_cons_zero, List.set_cons_succ]
            refine wpList_stA 26 (.tmp 4) (.tmp 77) rfl rfl (sgC a b c d f wi (updS sm (trn wd) (trn most)) ur A8 n8 c8 A2 n2 k2) (sgC 0 0 0 0 0 0 0 0 none 0 0 none 0 0) rfl (sgC_one _ _ _ _ _ _ _ _ _ _ _ _ _ _ ) rfl rfl hR (szSR _ _ _ _ _ _ _ _ _ _ _ _ _ _ ) ?_
            intro W9 h9 g9
            simp only [Act.put, List.setIfInBounds_toArray, List.set_cons_zero, List.set_cons_succ]
            go_wp2
            refine bodyPost_agg Try.results9 rfl h9.range u1 u2 (szSR _ _ _ _ _ _ _ _ _ _ _ _ _ _ ) rfl ?_
            have be9 := below_grown be g9 (by omega)
            exact ⟨_, _, _, _, _, _, rfl, be9, (ho8.grown g9 (fun k hk e => by have := (ho8.blk k hk).1; injection e with e; omega)).rb, HL2.out.later be9, .inr (ho8.grown g9 (fun k hk e => by have := (ho8.blk k hk).1; injection e with e; omega)).any_, .inl ⟨rfl, rfl, rfl⟩⟩
          · have m1 : Int.tmod (j : Int) 2 = 0 := by rw [show Int.tmod (j : Int) 2 = ((j % 2 : Nat) : Int) from rfl, hj]; rfl
            have m2 : (j : Int) % 2 = 0 := by omega
            go_upto_region 11 with (fail)
            clear hj m1 m2 q1
            refine wp_region_lit ?_
            refine wpList_plain rfl (fun K hK => ?_); go_simp; with_reducible refine hK _ _ ?_; clear hK K
            refine wpList_ld1 (t := 26) (cs := sgC a b c d f wi sm ur A8 n8 c8 A2 n2 k2) 22 (.tmp 71) rfl (by rfl) rfl (hS) rfl Try.underlying22 rfl ?_
            iterate 2 (refine wpList_plain rfl (fun K hK => ?_); go_simp; with_reducible refine hK _ _ ?_; clear hK K)
            refine wpList_plain rfl (fun K hK => ?_)
            go_simp
            refine (refUpdate_any sm wd most _ (by omega) (by omega) (by omega)).mono ?_
            rintro e w1 ⟨bs7, d7, rfl, rfl⟩
            with_reducible refine hK _ _ ?_
            clear hK K
            refine wpList_plain rfl (fun K hK => ?_); go_simp; with_reducible refine hK _ _ ?_; clear hK K
            have b4 := below_plus W3 bs7 d7
            replace be := belowP be bs7 d7
            replace hS := hS.later b4
            replace hR := hR.later b4
            replace ho8 := ho8.later b4
            clear b4
            generalize plus W3 bs7 d7 = W4 at *
            refine wpList_st1 22 (.tmp 76) (.tmp 75) rfl rfl (by rfl) (by rfl) hS (Nat.le_of_ble_eq_true rfl) rfl (by kernel_rfl) ?_
            intro W5 hS' g5
            replace hS : Bk W5 w.heap.size 26 (sgC a b c d f wi (updS sm wd most) ur A8 n8 c8 A2 n2 k2) := hS'
            clear hS'
            simp only [Act.put, List.setIfInBounds_toArray, List.set_cons_zero, List.set_cons_succ]
            replace be := below_grown be g5 (Nat.le_refl _)
            replace hR := hR.grown g5 (by simp)
            replace ho8 := ho8.grown g5 (fun k hk e => by have := (ho8.blk k hk).1; injection e with e; omega)
            clear g5
            go_upto_region 12 with (fail)
            refine wp_region_lit ?_
            refine wpList_ldA (t := 26) 26 (.tmp 2) rfl rfl (sgC a b c d f wi (updS sm wd most) ur A8 n8 c8 A2 n2 k2) rfl (hS) (whole_ _) u1 u2 (szSR _ _ _ _ _ _ _ _ _ _ _ _ _ _ ) ?_
            simp only [Act.put, List.setIfInBounds_toArray, List.set_cons_zero, List.set_cons_succ]
            refine wpList_stA 26 (.tmp 4) (.tmp 77) rfl rfl (sgC a b c d f wi (updS sm wd most) ur A8 n8 c8 A2 n2 k2) (sgC 0 0 0 0 0 0 0 0 none 0 0 none 0 0) rfl (sgC_one _ _ _ _ _ _ _ _ _ _ _ _ _ _ ) rfl rfl hR (szSR _ _ _ _ _ _ _ _ _ _ _ _ _ _ ) ?_
            intro W9 h9 g9
            simp only [Act.put, List.setIfInBounds_toArray, List.set_cons_zero, List.set_cons_succ]
            go_wp2
            refine bodyPost_agg Try.results9 rfl h9.range u1 u2 (szSR _ _ _ _ _ _ _ _ _ _ _ _ _ _ ) rfl ?_
            have be9 := below_grown be g9 (by omega)
            exact ⟨_, _, _, _, _, _, rfl, be9, (ho8.grown g9 (fun k hk e => by have := (ho8.blk k hk).1; injection e with e; omega)).rb, HL2.out.later be9, .inr (ho8.grown g9 (fun k hk e => by have := (ho8.blk k hk).1; injection e with e; omega)).any_, .inl ⟨rfl, rfl, rfl⟩⟩
      · have e4 : Int.tmod (Int.tdiv (f : Int) 2) 2 = 0 := by rw [show Int.tmod (Int.tdiv (f : Int) 2) 2 = ((f / 2 % 2 : Nat) : Int) from rfl, show f / 2 % 2 = 0 by omega]; rfl
        have e5 : (f : Int) / 2 % 2 = 0 := by omega
        have hP := HP.out
        rw [clampO_no H3.out (by have := HWD.out; omega)] at hP
        injection hP with hp1 hp2
        subst hp1 hp2
        clear HP HQ hff
        go_upto_region 4 with (fail)
        refine wp_region_lit ?_
        refine wpList_ldA (t := 26) 26 (.tmp 2) rfl rfl (sgC a b c d f wi sm ur A n k A2 n2 k2) rfl (hS) (whole_ _) u1 u2 (szSR _ _ _ _ _ _ _ _ _ _ _ _ _ _ ) ?_
        simp only [Act.put, List.setIfInBounds_toArray, List.set_cons_zero, List.set_cons_succ]
        refine wpList_stA 26 (.tmp 4) (.tmp 31) rfl rfl (sgC a b c d f wi sm ur A n k A2 n2 k2) (sgC 0 0 0 0 0 0 0 0 none 0 0 none 0 0) rfl (sgC_one _ _ _ _ _ _ _ _ _ _ _ _ _ _ ) rfl rfl hR (szSR _ _ _ _ _ _ _ _ _ _ _ _ _ _ ) ?_
        intro W9 h9 g9
        simp only [Act.put, List.setIfInBounds_toArray, List.set_cons_zero, List.set_cons_succ]
        go_wp2
        refine bodyPost_agg Try.results9 rfl h9.range u1 u2 (szSR _ _ _ _ _ _ _ _ _ _ _ _ _ _ ) rfl ?_
        have be9 := below_grown be g9 (by omega)
        exact ⟨_, _, _, _, _, _, rfl, be9, HL0.out.later be9, HL2.out.later be9, .inl ⟨rfl, rfl, rfl⟩, .inl ⟨rfl, rfl, rfl⟩⟩
    · have e2 : (((yn : Nat) : Int) != 2) = true := by simp; omega
      have e3 : ((yn : Int) == 2) = false := by simp; omega
      have hP := HP.out
      rw [clampO_no h3 (by rw [hyl]; omega)] at hP
      injection hP with hp1 hp2
      subst hp1 hp2
      clear HP h3 HQ
      go_upto_region 4 with (fail)
      refine wp_region_lit ?_
      refine wpList_ldA (t := 26) 26 (.tmp 2) rfl rfl (sgC a b c d f wi sm ur A n k A2 n2 k2) rfl (hS) (whole_ _) u1 u2 (szSR _ _ _ _ _ _ _ _ _ _ _ _ _ _ ) ?_
      simp only [Act.put, List.setIfInBounds_toArray, List.set_cons_zero, List.set_cons_succ]
      refine wpList_stA 26 (.tmp 4) (.tmp 31) rfl rfl (sgC a b c d f wi sm ur A n k A2 n2 k2) (sgC 0 0 0 0 0 0 0 0 none 0 0 none 0 0) rfl (sgC_one _ _ _ _ _ _ _ _ _ _ _ _ _ _ ) rfl rfl hR (szSR _ _ _ _ _ _ _ _ _ _ _ _ _ _ ) ?_
      intro W9 h9 g9
      simp only [Act.put, List.setIfInBounds_toArray, List.set_cons_zero, List.set_cons_succ]
      go_wp2
      refine bodyPost_agg Try.results9 rfl h9.range u1 u2 (szSR _ _ _ _ _ _ _ _ _ _ _ _ _ _ ) rfl ?_
      have be9 := below_grown be g9 (by omega)
      exact ⟨_, _, _, _, _, _, rfl, be9, HL0.out.later be9, HL2.out.later be9, .inl ⟨rfl, rfl, rfl⟩, .inl ⟨rfl, rfl, rfl⟩⟩
end Go.Proofs.Ytknoenceccpkhaa

/- option.Clamp (chapter 44). -/
namespace Go.Proofs.Ytknoenceccpkhaa
open Go.RowKit
set_option linter.unusedVariables false
set_option linter.unusedSimpArgs false
attribute [local go_sem ↓] sliced_cut

attribute [local go_sem] cutA_zero

set_option maxHeartbeats 4000000 in
set_option maxRecDepth 100000 in
theorem clamp_any (a b c d f wi sm ur : Nat) (A : Option Addr) (n k : Nat) (A2 : Option Addr) (n2 k2 : Nat) (l l2 : List UInt8) (most : Nat) (w : World) (hf : f < 256) (hsm : sm < 65536) (hmo : most < 65536) (hl0 : Rb w A n k l) (h2 : Rb w A2 n2 k2 l2) (hn : n ≤ 200) (hn2 : n2 ≤ 1000) : Calls Try.prog 8 #[.agg (sgC a b c d f wi sm ur A n k A2 n2 k2).toArray, .int .u16 (most : Int)] w (RetSg w a b c d f wi (clampO l f most sm).2 ur A n k A2 n2 k2 (clampO l f most sm).1 l2) := by
  obtain ⟨L', s', hP⟩ : ∃ L' s', clampO l f most sm = (L', s') := ⟨_, _, rfl⟩
  rw [hP]
  simp only []
  have HP := Lib.hid hP
  have HA := Lib.hid (and2 f hf)
  have HL2 := Lib.hid h2
  have HLN := Lib.hid hl0.1
  have HLN2 := Lib.hid h2.1
  clear hP
  obtain ⟨du1, u1, u2⟩ := rowSG
  have hS : Bk ((w.alloc (.cells (sgC a b c d f wi sm ur A n k A2 n2 k2).toArray 31)).alloc (.cells ([.int .u16 0, .int .u16 0, .int .u32 0, .int .u32 0, .int .u8 0, .int .u16 0, .int .u16 0, .int .u16 0, .slice none 0 0, .slice none 0 0]).toArray 31)) w.heap.size 31 (sgC a b c d f wi sm ur A n k A2 n2 k2) := (Bk.new w 31 (sgC a b c d f wi sm ur A n k A2 n2 k2).toArray).alloc _
  have hR : Bk ((w.alloc (.cells (sgC a b c d f wi sm ur A n k A2 n2 k2).toArray 31)).alloc (.cells ([.int .u16 0, .int .u16 0, .int .u32 0, .int .u32 0, .int .u8 0, .int .u16 0, .int .u16 0, .int .u16 0, .slice none 0 0, .slice none 0 0]).toArray 31)) (w.heap.size + 1) 31 ([.int .u16 0, .int .u16 0, .int .u32 0, .int .u32 0, .int .u8 0, .int .u16 0, .int .u16 0, .int .u16 0, .slice none 0 0, .slice none 0 0]) := Bk.newK _ _ _ (by simp) rfl
  have be : Below w.heap.size w ((w.alloc (.cells (sgC a b c d f wi sm ur A n k A2 n2 k2).toArray 31)).alloc (.cells ([.int .u16 0, .int .u16 0, .int .u32 0, .int .u32 0, .int .u8 0, .int .u16 0, .int .u16 0, .int .u16 0, .slice none 0 0, .slice none 0 0]).toArray 31)) := Below.allocS (Below.allocS (Below.refl _ _) _) _
  replace hl0 := ((hl0.alloc (.cells (sgC a b c d f wi sm ur A n k A2 n2 k2).toArray 31)).alloc (.cells ([.int .u16 0, .int .u16 0, .int .u32 0, .int .u32 0, .int .u8 0, .int .u16 0, .int .u16 0, .int .u16 0, .slice none 0 0, .slice none 0 0]).toArray 31))
  replace h2 := ((h2.alloc (.cells (sgC a b c d f wi sm ur A n k A2 n2 k2).toArray 31)).alloc (.cells ([.int .u16 0, .int .u16 0, .int .u32 0, .int .u32 0, .int .u8 0, .int .u16 0, .int .u16 0, .int .u16 0, .slice none 0 0, .slice none 0 0]).toArray 31))
  have zV : w.heap.size + 2 ≤ ((w.alloc (.cells (sgC a b c d f wi sm ur A n k A2 n2 k2).toArray 31)).alloc (.cells ([.int .u16 0, .int .u16 0, .int .u32 0, .int .u32 0, .int .u8 0, .int .u16 0, .int .u16 0, .int .u16 0, .slice none 0 0, .slice none 0 0]).toArray 31)).heap.size := by simp
  go_enter Try.func8, Try.ntmps8
  go_upto_region 1 with (fail)
  generalize (w.alloc (.cells (sgC a b c d f wi sm ur A n k A2 n2 k2).toArray 31)).alloc (.cells ([.int .u16 0, .int .u16 0, .int .u32 0, .int .u32 0, .int .u8 0, .int .u16 0, .int .u16 0, .int .u16 0, .slice none 0 0, .slice none 0 0]).toArray 31) = V at *
  replace hR : Bk V (w.heap.size + 1) 31 (sgC 0 0 0 0 0 0 0 0 none 0 0 none 0 0) := hR
  refine wp_region_lit ?_
  refine wpList_plain rfl (fun K hK => ?_); go_simp; with_reducible refine hK _ _ ?_; clear hK K
  refine wpList_ld1 (t := 31) (cs := sgC a b c d f wi sm ur A n k A2 n2 k2) 24 (.tmp 12) rfl (by rfl) rfl (hS) rfl Try.underlying24 rfl ?_
  refine wpList_plain rfl (fun K hK => ?_)
  go_simp
  refine (sclone_any A n k l V hl0 (by omega)).mono ?_
  rintro e w1 ⟨A4, n4, c4, bs1, d1, rfl, rfl, hoL⟩
  with_reducible refine hK _ _ ?_
  clear hK K
  refine wpList_plain rfl (fun K hK => ?_); go_simp; with_reducible refine hK _ _ ?_; clear hK K
  obtain rfl : n = n4 := by have := hoL.1; have := HLN.out; omega
  replace hoL := hoL.mono zV
  clear h2
  have b4 := below_plus V bs1 d1
  have zW : w.heap.size + 2 ≤ (plus V bs1 d1).heap.size := Nat.le_trans zV b4.size
  replace zV := zW
  clear zW
  replace be := belowP be bs1 d1
  replace hS := hS.later b4
  replace hR := hR.later b4
  clear b4
  generalize plus V bs1 d1 = V0 at *
  refine wpList_st1 24 (.tmp 15) (.tmp 14) rfl rfl (by rfl) (by rfl) hS (Nat.le_of_ble_eq_true rfl) rfl (by kernel_rfl) ?_
  intro V1 hS' g1
  replace hS : Bk V1 w.heap.size 31 (sgC a b c d f wi sm ur A4 n c4 A2 n2 k2) := hS'
  clear hS'
  simp only [Act.put, List.setIfInBounds_toArray, List.set_cons_zero, List.set_cons_succ]
  replace be := below_grown be g1 (Nat.le_refl _)
  replace hR := hR.grown g1 (by simp)
  replace zV := Nat.le_trans zV g1.size
  replace hoL := hoL.grown g1 (fun k hk e => by have := (hoL.blk k hk).1; injection e with e; omega)
  clear g1
  have h2 := HL2.out.later be
  go_upto_region 2 with (fail)
  refine wp_region_lit ?_
  refine wpList_plain rfl (fun K hK => ?_); go_simp; with_reducible refine hK _ _ ?_; clear hK K
  refine wpList_ld1 (t := 31) (cs := sgC a b c d f wi sm ur A4 n c4 A2 n2 k2) 24 (.tmp 16) rfl (by rfl) rfl (hS) rfl Try.underlying24 rfl ?_
  refine wpList_plain rfl (fun K hK => ?_)
  go_simp
  refine (sclone_any A2 n2 k2 l2 V1 h2 (by omega)).mono ?_
  rintro e w1 ⟨A5, n5, c5, bs2, d2, rfl, rfl, hoD⟩
  with_reducible refine hK _ _ ?_
  clear hK K
  refine wpList_plain rfl (fun K hK => ?_); go_simp; with_reducible refine hK _ _ ?_; clear hK K
  obtain rfl : n2 = n5 := by have := hoD.1; have := HLN2.out; omega
  replace hoD := hoD.mono zV
  clear h2
  have b4 := below_plus V1 bs2 d2
  have zW : w.heap.size + 2 ≤ (plus V1 bs2 d2).heap.size := Nat.le_trans zV b4.size
  replace zV := zW
  clear zW
  replace be := belowP be bs2 d2
  replace hS := hS.later b4
  replace hR := hR.later b4
  replace hoL := hoL.later b4
  clear b4
  generalize plus V1 bs2 d2 = V0 at *
  refine wpList_st1 24 (.tmp 19) (.tmp 18) rfl rfl (by rfl) (by rfl) hS (Nat.le_of_ble_eq_true rfl) rfl (by kernel_rfl) ?_
  intro V2 hS' g2
  replace hS : Bk V2 w.heap.size 31 (sgC a b c d f wi sm ur A4 n c4 A5 n2 c5) := hS'
  clear hS'
  simp only [Act.put, List.setIfInBounds_toArray, List.set_cons_zero, List.set_cons_succ]
  replace be := below_grown be g2 (Nat.le_refl _)
  replace hR := hR.grown g2 (by simp)
  replace zV := Nat.le_trans zV g2.size
  replace hoL := hoL.grown g2 (fun k hk e => by have := (hoL.blk k hk).1; injection e with e; omega)
  replace hoD := hoD.grown g2 (fun k hk e => by have := (hoD.blk k hk).1; injection e with e; omega)
  clear g2
  go_upto_region 3 with (fail)
  refine wp_region_lit ?_
  refine wpList_plain rfl (fun K hK => ?_); go_simp; with_reducible refine hK _ _ ?_; clear hK K
  refine wpList_ld1 (t := 31) (cs := sgC a b c d f wi sm ur A4 n c4 A5 n2 c5) 24 (.tmp 21) rfl (by rfl) rfl (hS) rfl Try.underlying24 rfl ?_
  refine wpList_plain rfl (fun K hK => ?_)
  go_simp
  refine (find44_u hoL.rb (by omega) 2).mono ?_
  rintro e w1 ⟨bs3, d3, kf, yA, yn, yc, jf, bok, rfl, rfl, hFR⟩
  with_reducible refine hK _ _ ?_
  clear hK K
  iterate 5 (refine wpList_plain rfl (fun K hK => ?_); go_simp; with_reducible refine hK _ _ ?_; clear hK K)
  refine wpList_stA (t := 105) 105 (.tmp 5) (.tmp 24) rfl rfl (opC kf yA yn yc) [.int .u8 0, .slice none 0 0] rfl (opC_one _ _ _ _) rfl rfl (Bk.newK (k := V2.heap.size + bs3.length) _ _ _ (by simp [size_plus]) rfl) (szOp _ _ _ _) ?_
  intro W3 hO g3
  iterate 2 (refine wpList_plain rfl (fun K hK => ?_); go_simp; with_reducible refine hK _ _ ?_; clear hK K)
  replace hFR : (bok = true ∧ kf = 2 ∧ ∃ d', Rb W3 yA yn yc d' ∧ firstO 2 (opts l) = some (jf, 2, d')) ∨ (bok = false ∧ kf = 0 ∧ yA = none ∧ yn = 0 ∧ yc = 0 ∧ jf = 0 ∧ firstO 2 (opts l) = none) := by
    rcases hFR with ⟨h5, h6, d', h7, h8⟩ | h
    · exact .inl ⟨h5, h6, d', h7.later (below_grown (Below.allocS (Below.refl _ _) _) g3 (by simp [size_plus])), h8⟩
    · exact .inr h
  have b4 : Below V2.heap.size V2 W3 := below_grown (Below.allocS (below_plus V2 bs3 d3) _) g3 (by simp [size_plus])
  have zO : w.heap.size + 2 ≤ V2.heap.size + bs3.length := by omega
  clear g3
  generalize V2.heap.size + bs3.length = go at *
  replace zV := Nat.le_trans zV b4.size
  replace be := be.trans (b4.mono be.size)
  replace hS := hS.later b4
  replace hR := hR.later b4
  replace hoL := hoL.later b4
  replace hoD := hoD.later b4
  clear b4
  have g4 : W3.cell? ⟨w.heap.size, 4, none⟩ = some (.int .u8 (f : Int)) := hS.cell 4
  have o1 : W3.cell? ⟨go, 1, none⟩ = some (.slice yA yn yc) := hO.cell 1
  rcases hFR with ⟨rfl, rfl, yd, hyi, h3⟩ | ⟨rfl, rfl, rfl, rfl, rfl, rfl, h3⟩
  · obtain ⟨j, rfl, hj1, -⟩ := first_at h3
    have hyl : yd.length = yn := hyi.1
    by_cases hy2 : yn = 2
    · obtain ⟨wd, hwd⟩ : ∃ x, num yd = x := ⟨_, rfl⟩
      have hwl : wd < 65536 := by have := num_lt 2 yd (by omega); rw [hwd] at this; simpa using this
      have HWD := Lib.hid hwd
      have e2 : (((yn : Nat) : Int) != 2) = false := by subst hy2; rfl
      have hjn : j + 4 ≤ n := by have := HLN.out; omega
      have HYL := Lib.hid (show yd.length = 2 by omega)
      have HWX : Hid (num ((yd.drop 0).take 2) = wd) := Lib.hid (by rw [List.drop_zero, List.take_of_length_le (by omega)]; exact hwd)
      have H3 := Lib.hid h3
      have hyn9 : yn ≤ 100 := by omega
      clear hwd hj1 hyl hy2 h3
      by_cases hff : f / 2 % 2 = 1
      · have HFF := Lib.hid hff
        have e4 : bits .and .u8 (f : Int) 2 = 2 := by rw [HA.out, hff]; rfl
        have HJN := Lib.hid hjn
        clear hff hjn
        go_upto_region 6 with (fail)
        clear e4 e2
        refine wp_region_lit ?_
        iterate 2 (refine wpList_plain rfl (fun K hK => ?_); go_simp; with_reducible refine hK _ _ ?_; clear hK K)
        refine wpList_plain rfl (fun K hK => ?_)
        go_simp
        refine (readK yA yn yc yd W3 hyi (by omega)).mono ?_
        rintro e w1 ⟨r, bs6, d6, rfl, rfl, hr6, hrd6⟩
        with_reducible refine hK _ _ ?_
        clear hK K
        refine wpList_plain rfl (fun K hK => ?_)
        go_simp
        refine (wordG (plus W3 bs6 d6) r yd 0 wd hrd6 (by have := HYL.out; omega) (by have := HYL.out; omega) HWX.out).mono ?_
        rintro e w1 ⟨rfl, -, g6⟩
        with_reducible refine hK _ _ ?_
        clear hK K
        refine wpList_plain rfl (fun K hK => ?_); go_simp; with_reducible refine hK _ _ ?_; clear hK K
        have b4 : Below W3.heap.size W3 w1 := below_grown (below_plus W3 bs6 d6) g6 hr6
        replace zV := Nat.le_trans zV b4.size
        replace be := be.trans (b4.mono be.size)
        replace hS := hS.later b4
        replace hR := hR.later b4
        replace hoL := hoL.later b4
        replace hoD := hoD.later b4
        clear b4 g6 hrd6 hr6 hyi o1 hO
        by_cases hle : wd ≤ most
        · have il : (wd : Int) ≤ (most : Int) := by omega
          have hP := HP.out
          rw [clampO_no H3.out (by have := HWD.out; omega)] at hP
          injection hP with hp1 hp2
          subst hp1 hp2
          clear HP
          go_upto_region 8 with (fail)
          refine wp_region_lit ?_
          refine wpList_ldA (t := 31) 31 (.tmp 2) rfl rfl (sgC a b c d f wi sm ur A4 n c4 A5 n2 c5) rfl (hS) (whole_ _) u1 u2 (szSG _ _ _ _ _ _ _ _ _ _ _ _ _ _ ) ?_
          simp only [Act.put, List.setIfInBounds_toArray, List.set_cons_zero, List.set_cons_succ]
          refine wpList_stA 31 (.tmp 4) (.tmp 49) rfl rfl (sgC a b c d f wi sm ur A4 n c4 A5 n2 c5) (sgC 0 0 0 0 0 0 0 0 none 0 0 none 0 0) rfl (sgC_one _ _ _ _ _ _ _ _ _ _ _ _ _ _ ) rfl rfl hR (szSG _ _ _ _ _ _ _ _ _ _ _ _ _ _ ) ?_
          intro W9 h9 g9
          simp only [Act.put, List.setIfInBounds_toArray, List.set_cons_zero, List.set_cons_succ]
          go_wp2
          refine bodyPost_agg Try.results8 rfl h9.range u1 u2 (szSG _ _ _ _ _ _ _ _ _ _ _ _ _ _ ) rfl ?_
          have be9 := below_grown be g9 (by omega)
          exact ⟨_, _, _, _, _, _, rfl, be9, (hoL.grown g9 (fun k hk e => by have := (hoL.blk k hk).1; injection e with e; omega)).rb, (hoD.grown g9 (fun k hk e => by have := (hoD.blk k hk).1; injection e with e; omega)).rb, .inr (hoL.grown g9 (fun k hk e => by have := (hoL.blk k hk).1; injection e with e; omega)).any_, .inr (hoD.grown g9 (fun k hk e => by have := (hoD.blk k hk).1; injection e with e; omega)).any_⟩
        · have il : ¬ (wd : Int) ≤ (most : Int) := by omega
          have hjn := HJN.out
          have wj : IntKind.i64.wrap ((j : Int) + 2) = (j : Int) + 2 := IntWalk.i64_in _ (by omega)
          have HJ := Lib.hid (show (j : Int) + 2 = ((j + 2 : Nat) : Int) by omega)
          have wm : IntKind.u64.wrap (most : Int) = (most : Int) := IntWalk.u64_in _ (by omega)
          have HP2 : Hid (L' = setB l (j + 2) (dig most 2) ∧ ((j % 2 = 1 ∧ s' = updS sm (trn wd) (trn most)) ∨ (j % 2 = 0 ∧ s' = updS sm wd most))) := Lib.hid (by
            have hP := HP.out
            rcases Nat.mod_two_eq_zero_or_one j with hj | hj
            · rw [clampO_even H3.out (by have := HWD.out; have := HYL.out; have := HFF.out; omega) hj, HWD.out] at hP
              injection hP with hp1 hp2
              exact ⟨hp1.symm, .inr ⟨hj, hp2.symm⟩⟩
            · rw [clampO_odd H3.out (by have := HWD.out; have := HYL.out; have := HFF.out; omega) hj, HWD.out] at hP
              injection hP with hp1 hp2
              exact ⟨hp1.symm, .inl ⟨hj, hp2.symm⟩⟩)
          have g8 : w1.cell? ⟨w.heap.size, 8, none⟩ = some (.slice A4 n c4) := hS.cell 8
          have HOS := Lib.hid (by have := octSet A4 n c4 l (j + 2) most 2 w1 hoL.rb (by omega) (by omega) (by omega) (by omega) (by omega); rwa [← HJ.out] at this : Calls Try.prog 42 #[.slice A4 n c4, .int .i64 ((j : Int) + 2), .int .u64 (most : Int), .int .i64 2] w1 (RetOE w1 (setB l (j + 2) (dig most 2)) 0))
          go_upto_region 10 with (go_at_call 42; refine HOS.out.mono ?_; rintro e w2 ⟨A8, n8, c8, bs9, d9, rfl, rfl, ho8⟩)
          replace ho8 := ho8.mono zV
          clear hoL HOS g8 wj
          have b4 := below_plus w1 bs9 d9
          have zW : w.heap.size + 2 ≤ (plus w1 bs9 d9).heap.size := Nat.le_trans zV b4.size
          replace zV := zW
          clear zW
          replace be := belowP be bs9 d9
          replace hS := hS.later b4
          replace hR := hR.later b4
          replace hoD := hoD.later b4
          clear b4
          generalize plus w1 bs9 d9 = W6 at *
          go_upto_region 12 with (fail)
          refine wp_region_lit ?_
          iterate 2 (refine wpList_plain rfl (fun K hK => ?_); go_simp; with_reducible refine hK _ _ ?_; clear hK K)
          refine wpList_st1 24 (.tmp 64) (.tmp 63) rfl rfl (by rfl) (by rfl) hS (Nat.le_of_ble_eq_true rfl) rfl (by kernel_rfl) ?_
          intro W7 hS' g7
          replace hS : Bk W7 w.heap.size 31 (sgC a b c d f wi sm ur A8 n8 c8 A5 n2 c5) := hS'
          clear hS'
          simp only [Act.put, List.setIfInBounds_toArray, List.set_cons_zero, List.set_cons_succ]
          replace be := below_grown be g7 (Nat.le_refl _)
          replace hR := hR.grown g7 (by simp)
          replace zV := Nat.le_trans zV g7.size
          replace ho8 := ho8.grown g7 (fun k hk e => by have := (ho8.blk k hk).1; injection e with e; omega)
          replace hoD := hoD.grown g7 (fun k hk e => by have := (hoD.blk k hk).1; injection e with e; omega)
          clear g7
          rcases HP2.out with ⟨rfl, ⟨hj, rfl⟩ | ⟨hj, rfl⟩⟩
          · have m1 : Int.tmod (j : Int) 2 = 1 := by rw [show Int.tmod (j : Int) 2 = ((j % 2 : Nat) : Int) from rfl, hj]; rfl
            have m2 : (j : Int) % 2 = 1 := by omega
            have tw := trn_lt wd hwl
            have tm := trn_lt most hmo
            go_upto_region 15 with (fail)
            clear hj m1 m2
            have HT1 := Lib.hid (fun W => turned_any wd W hwl)
            have HT2 := Lib.hid (fun W => turned_any most W hmo)
            generalize trn wd = t1 at *
            generalize trn most = t2 at *
            go_upto_region 16 with (go_at_call 43; first | (refine (HT1.out _).mono ?_; rintro e w2 ⟨bs7, d7, rfl, rfl⟩) | (refine (HT2.out _).mono ?_; rintro e w2 ⟨bs8, d8, rfl, rfl⟩))
            have b4 := below_plus W7 bs7 d7
            have zW : w.heap.size + 2 ≤ (plus W7 bs7 d7).heap.size := Nat.le_trans zV b4.size
            replace zV := zW
            clear zW
            replace be := belowP be bs7 d7
            replace hS := hS.later b4
            replace hR := hR.later b4
            replace ho8 := ho8.later b4
            replace hoD := hoD.later b4
            clear b4
            generalize plus W7 bs7 d7 = W7a at *
            have b4 := below_plus W7a bs8 d8
            have zW : w.heap.size + 2 ≤ (plus W7a bs8 d8).heap.size := Nat.le_trans zV b4.size
            replace zV := zW
            clear zW
            replace be := belowP be bs8 d8
            replace hS := hS.later b4
            replace hR := hR.later b4
            replace ho8 := ho8.later b4
            replace hoD := hoD.later b4
            clear b4
            generalize plus W7a bs8 d8 = W8 at *
            refine wp_region_lit ?_
            refine wpList_plain rfl (fun K hK => ?_); go_simp; with_reducible refine hK _ _ ?_; clear hK K
            refine wpList_ld1 (t := 31) (cs := sgC a b c d f wi sm ur A8 n8 c8 A5 n2 c5) 22 (.tmp 73) rfl (by rfl) rfl (hS) rfl Try.underlying22 rfl ?_
            iterate 2 (refine wpList_plain rfl (fun K hK => ?_); go_simp; with_reducible refine hK _ _ ?_; clear hK K)
            refine wpList_plain rfl (fun K hK => ?_)
            go_simp
            refine (sumUpdateV sm t1 t2 W8 (by omega) (by omega) (by omega)).mono ?_
            rintro e w1 ⟨bs8, d8, rfl, rfl⟩
            with_reducible refine hK _ _ ?_
            clear hK K
            refine wpList_plain rfl (fun K hK => ?_); go_simp; with_reducible refine hK _ _ ?_; clear hK K
            have b4 := below_plus W8 bs8 d8
            have zW : w.heap.size + 2 ≤ (plus W8 bs8 d8).heap.size := Nat.le_trans zV b4.size
            replace zV := zW
            clear zW
            replace be := belowP be bs8 d8
            replace hS := hS.later b4
            replace hR := hR.later b4
            replace ho8 := ho8.later b4
            replace hoD := hoD.later b4
            clear b4
            generalize plus W8 bs8 d8 = W9a at *
            refine wpList_st1 22 (.tmp 78) (.tmp 77) rfl rfl (by rfl) (by rfl) hS (Nat.le_of_ble_eq_true rfl) rfl (by kernel_rfl) ?_
            intro W10 hS' g10
            replace hS : Bk W10 w.heap.size 31 (sgC a b c d f wi (updS sm t1 t2) ur A8 n8 c8 A5 n2 c5) := hS'
            clear hS'
            simp only [Act.put, List.setIfInBounds_toArray, List.set_cons_zero, List.set_cons_succ]
            replace be := below_grown be g10 (Nat.le_refl _)
            replace hR := hR.grown g10 (by simp)
            replace zV := Nat.le_trans zV g10.size
            replace ho8 := ho8.grown g10 (fun k hk e => by have := (ho8.blk k hk).1; injection e with e; omega)
            replace hoD := hoD.grown g10 (fun k hk e => by have := (hoD.blk k hk).1; injection e with e; omega)
            clear g10
            go_upto_region 17 with (fail)
            refine wp_region_lit ?_
            refine wpList_ldA (t := 31) 31 (.tmp 2) rfl rfl (sgC a b c d f wi (updS sm t1 t2) ur A8 n8 c8 A5 n2 c5) rfl (hS) (whole_ _) u1 u2 (szSG _ _ _ _ _ _ _ _ _ _ _ _ _ _ ) ?_
            simp only [Act.put, List.setIfInBounds_toArray, List.set_cons_zero, List.set_cons_succ]
            refine wpList_stA 31 (.tmp 4) (.tmp 79) rfl rfl (sgC a b c d f wi (updS sm t1 t2) ur A8 n8 c8 A5 n2 c5) (sgC 0 0 0 0 0 0 0 0 none 0 0 none 0 0) rfl (sgC_one _ _ _ _ _ _ _ _ _ _ _ _ _ _ ) rfl rfl hR (szSG _ _ _ _ _ _ _ _ _ _ _ _ _ _ ) ?_
            intro W9 h9 g9
            simp only [Act.put, List.setIfInBounds_toArray, List.set_cons_zero, List.set_cons_succ]
            go_wp2
            refine bodyPost_agg Try.results8 rfl h9.range u1 u2 (szSG _ _ _ _ _ _ _ _ _ _ _ _ _ _ ) rfl ?_
            have be9 := below_grown be g9 (by omega)
            exact ⟨_, _, _, _, _, _, rfl, be9, (ho8.grown g9 (fun k hk e => by have := (ho8.blk k hk).1; injection e with e; omega)).rb, (hoD.grown g9 (fun k hk e => by have := (hoD.blk k hk).1; injection e with e; omega)).rb, .inr (ho8.grown g9 (fun k hk e => by have := (ho8.blk k hk).1; injection e with e; omega)).any_, .inr (hoD.grown g9 (fun k hk e => by have := (hoD.blk k hk).1; injection e with e; omega)).any_⟩
          · have m1 : Int.tmod (j : Int) 2 = 0 := by rw [show Int.tmod (j : Int) 2 = ((j % 2 : Nat) : Int) from rfl, hj]; rfl
            have m2 : (j : Int) % 2 = 0 := by omega
            go_upto_region 16 with (fail)
            clear hj m1 m2
            refine wp_region_lit ?_
            refine wpList_plain rfl (fun K hK => ?_); go_simp; with_reducible refine hK _ _ ?_; clear hK K
            refine wpList_ld1 (t := 31) (cs := sgC a b c d f wi sm ur A8 n8 c8 A5 n2 c5) 22 (.tmp 73) rfl (by rfl) rfl (hS) rfl Try.underlying22 rfl ?_
            iterate 2 (refine wpList_plain rfl (fun K hK => ?_); go_simp; with_reducible refine hK _ _ ?_; clear hK K)
            refine wpList_plain rfl (fun K hK => ?_)
            go_simp
            refine (sumUpdateV sm wd most W7 (by omega) (by omega) (by omega)).mono ?_
            rintro e w1 ⟨bs8, d8, rfl, rfl⟩
            with_reducible refine hK _ _ ?_
            clear hK K
            refine wpList_plain rfl (fun K hK => ?_); go_simp; with_reducible refine hK _ _ ?_; clear hK K
            have b4 := below_plus W7 bs8 d8
            have zW : w.heap.size + 2 ≤ (plus W7 bs8 d8).heap.size := Nat.le_trans zV b4.size
            replace zV := zW
            clear zW
            replace be := belowP be bs8 d8
            replace hS := hS.later b4
            replace hR := hR.later b4
            replace ho8 := ho8.later b4
            replace hoD := hoD.later b4
            clear b4
            generalize plus W7 bs8 d8 = W9a at *
            refine wpList_st1 22 (.tmp 78) (.tmp 77) rfl rfl (by rfl) (by rfl) hS (Nat.le_of_ble_eq_true rfl) rfl (by kernel_rfl) ?_
            intro W10 hS' g10
            replace hS : Bk W10 w.heap.size 31 (sgC a b c d f wi (updS sm wd most) ur A8 n8 c8 A5 n2 c5) := hS'
            clear hS'
            simp only [Act.put, List.setIfInBounds_toArray, List.set_cons_zero, List.set_cons_succ]
            replace be := below_grown be g10 (Nat.le_refl _)
            replace hR := hR.grown g10 (by simp)
            replace zV := Nat.le_trans zV g10.size
            replace ho8 := ho8.grown g10 (fun k hk e => by have := (ho8.blk k hk).1; injection e with e; omega)
            replace hoD := hoD.grown g10 (fun k hk e => by have := (hoD.blk k hk).1; injection e with e; omega)
            clear g10
            go_upto_region 17 with (fail)
            refine wp_region_lit ?_
            refine wpList_ldA (t := 31) 31 (.tmp 2) rfl rfl (sgC a b c d f wi (updS sm wd most) ur A8 n8 c8 A5 n2 c5) rfl (hS) (whole_ _) u1 u2 (szSG _ _ _ _ _ _ _ _ _ _ _ _ _ _ ) ?_
            simp only [Act.put, List.setIfInBounds_toArray, List.set_cons_zero, List.set_cons_succ]
            refine wpList_stA 31 (.tmp 4) (.tmp 79) rfl rfl (sgC a b c d f wi (updS sm wd most) ur A8 n8 c8 A5 n2 c5) (sgC 0 0 0 0 0 0 0 0 none 0 0 none 0 0) rfl (sgC_one _ _ _ _ _ _ _ _ _ _ _ _ _ _ ) rfl rfl hR (szSG _ _ _ _ _ _ _ _ _ _ _ _ _ _ ) ?_
            intro W9 h9 g9
            simp only [Act.put, List.setIfInBounds_toArray, List.set_cons_zero, List.set_cons_succ]
            go_wp2
            refine bodyPost_agg Try.results8 rfl h9.range u1 u2 (szSG _ _ _ _ _ _ _ _ _ _ _ _ _ _ ) rfl ?_
            have be9 := below_grown be g9 (by omega)
            exact ⟨_, _, _, _, _, _, rfl, be9, (ho8.grown g9 (fun k hk e => by have := (ho8.blk k hk).1; injection e with e; omega)).rb, (hoD.grown g9 (fun k hk e => by have := (hoD.blk k hk).1; injection e with e; omega)).rb, .inr (ho8.grown g9 (fun k hk e => by have := (ho8.blk k hk).1; injection e with e; omega)).any_, .inr (hoD.grown g9 (fun k hk e => by have := (hoD.blk k hk).1; injection e with e; omega)).any_⟩
      · have e4 : bits .and .u8 (f : Int) 2 = 0 := by rw [HA.out, show f / 2 % 2 = 0 by omega]; rfl
        have hP := HP.out
        rw [clampO_no H3.out (by have := HWD.out; omega)] at hP
        injection hP with hp1 hp2
        subst hp1 hp2
        clear HP hff
        go_upto_region 5 with (fail)
        refine wp_region_lit ?_
        refine wpList_ldA (t := 31) 31 (.tmp 2) rfl rfl (sgC a b c d f wi sm ur A4 n c4 A5 n2 c5) rfl (hS) (whole_ _) u1 u2 (szSG _ _ _ _ _ _ _ _ _ _ _ _ _ _ ) ?_
        simp only [Act.put, List.setIfInBounds_toArray, List.set_cons_zero, List.set_cons_succ]
        refine wpList_stA 31 (.tmp 4) (.tmp 41) rfl rfl (sgC a b c d f wi sm ur A4 n c4 A5 n2 c5) (sgC 0 0 0 0 0 0 0 0 none 0 0 none 0 0) rfl (sgC_one _ _ _ _ _ _ _ _ _ _ _ _ _ _ ) rfl rfl hR (szSG _ _ _ _ _ _ _ _ _ _ _ _ _ _ ) ?_
        intro W9 h9 g9
        simp only [Act.put, List.setIfInBounds_toArray, List.set_cons_zero, List.set_cons_succ]
        go_wp2
        refine bodyPost_agg Try.results8 rfl h9.range u1 u2 (szSG _ _ _ _ _ _ _ _ _ _ _ _ _ _ ) rfl ?_
        have be9 := below_grown be g9 (by omega)
        exact ⟨_, _, _, _, _, _, rfl, be9, (hoL.grown g9 (fun k hk e => by have := (hoL.blk k hk).1; injection e with e; omega)).rb, (hoD.grown g9 (fun k hk e => by have := (hoD.blk k hk).1; injection e with e; omega)).rb, .inr (hoL.grown g9 (fun k hk e => by have := (hoL.blk k hk).1; injection e with e; omega)).any_, .inr (hoD.grown g9 (fun k hk e => by have := (hoD.blk k hk).1; injection e with e; omega)).any_⟩
    · have e2 : (((yn : Nat) : Int) != 2) = true := by simp; omega
      have e3 : ((yn : Int) == 2) = false := by simp; omega
      have hP := HP.out
      rw [clampO_no h3 (by rw [hyl]; omega)] at hP
      injection hP with hp1 hp2
      subst hp1 hp2
      clear HP h3 hyl
      go_upto_region 5 with (fail)
      refine wp_region_lit ?_
      refine wpList_ldA (t := 31) 31 (.tmp 2) rfl rfl (sgC a b c d f wi sm ur A4 n c4 A5 n2 c5) rfl (hS) (whole_ _) u1 u2 (szSG _ _ _ _ _ _ _ _ _ _ _ _ _ _ ) ?_
      simp only [Act.put, List.setIfInBounds_toArray, List.set_cons_zero, List.set_cons_succ]
      refine wpList_stA 31 (.tmp 4) (.tmp 41) rfl rfl (sgC a b c d f wi sm ur A4 n c4 A5 n2 c5) (sgC 0 0 0 0 0 0 0 0 none 0 0 none 0 0) rfl (sgC_one _ _ _ _ _ _ _ _ _ _ _ _ _ _ ) rfl rfl hR (szSG _ _ _ _ _ _ _ _ _ _ _ _ _ _ ) ?_
      intro W9 h9 g9
      simp only [Act.put, List.setIfInBounds_toArray, List.set_cons_zero, List.set_cons_succ]
      go_wp2
      refine bodyPost_agg Try.results8 rfl h9.range u1 u2 (szSG _ _ _ _ _ _ _ _ _ _ _ _ _ _ ) rfl ?_
      have be9 := below_grown be g9 (by omega)
      exact ⟨_, _, _, _, _, _, rfl, be9, (hoL.grown g9 (fun k hk e => by have := (hoL.blk k hk).1; injection e with e; omega)).rb, (hoD.grown g9 (fun k hk e => by have := (hoD.blk k hk).1; injection e with e; omega)).rb, .inr (hoL.grown g9 (fun k hk e => by have := (hoL.blk k hk).1; injection e with e; omega)).any_, .inr (hoD.grown g9 (fun k hk e => by have := (hoD.blk k hk).1; injection e with e; omega)).any_⟩
  · have hP := HP.out
    rw [clampO_none h3] at hP
    injection hP with hp1 hp2
    subst hp1 hp2
    clear HP h3
    go_upto_region 5 with (fail)
    refine wp_region_lit ?_
    refine wpList_ldA (t := 31) 31 (.tmp 2) rfl rfl (sgC a b c d f wi sm ur A4 n c4 A5 n2 c5) rfl (hS) (whole_ _) u1 u2 (szSG _ _ _ _ _ _ _ _ _ _ _ _ _ _ ) ?_
    simp only [Act.put, List.setIfInBounds_toArray, List.set_cons_zero, List.set_cons_succ]
    refine wpList_stA 31 (.tmp 4) (.tmp 41) rfl rfl (sgC a b c d f wi sm ur A4 n c4 A5 n2 c5) (sgC 0 0 0 0 0 0 0 0 none 0 0 none 0 0) rfl (sgC_one _ _ _ _ _ _ _ _ _ _ _ _ _ _ ) rfl rfl hR (szSG _ _ _ _ _ _ _ _ _ _ _ _ _ _ ) ?_
    intro W9 h9 g9
    simp only [Act.put, List.setIfInBounds_toArray, List.set_cons_zero, List.set_cons_succ]
    go_wp2
    refine bodyPost_agg Try.results8 rfl h9.range u1 u2 (szSG _ _ _ _ _ _ _ _ _ _ _ _ _ _ ) rfl ?_
    have be9 := below_grown be g9 (by omega)
    exact ⟨_, _, _, _, _, _, rfl, be9, (hoL.grown g9 (fun k hk e => by have := (hoL.blk k hk).1; injection e with e; omega)).rb, (hoD.grown g9 (fun k hk e => by have := (hoD.blk k hk).1; injection e with e; omega)).rb, .inr (hoL.grown g9 (fun k hk e => by have := (hoL.blk k hk).1; injection e with e; omega)).any_, .inr (hoD.grown g9 (fun k hk e => by have := (hoD.blk k hk).1; injection e with e; omega)).any_⟩
end Go.Proofs.Ytknoenceccpkhaa

/- (tcp.Segment).copied. -/
namespace Go.Proofs.Ytknoenceccpkhaa
open Go.RowKit
set_option linter.unusedVariables false
set_option linter.unusedSimpArgs false
attribute [local go_sem ↓] sliced_cut

attribute [local go_sem] cutA_zero

/-- a segment comes back, its bytes its own -/
def RetSO (w : World) (a b c d f wi sm ur : Nat) (l l2 : List UInt8) (e : Ending) (w' : World) : Prop := ∃ A n k A2 n2 k2, e = .returned (.agg (sgC a b c d f wi sm ur A n k A2 n2 k2).toArray) ∧ Below w.heap.size w w' ∧ Ob w' w.heap.size A n k l ∧ Ob w' w.heap.size A2 n2 k2 l2
set_option maxHeartbeats 4000000 in
set_option maxRecDepth 100000 in
theorem segCopied (a b c d f wi sm ur : Nat) (A : Option Addr) (n k : Nat) (A2 : Option Addr) (n2 k2 : Nat) (l l2 : List UInt8) (w : World) (hl0 : Rb w A n k l) (h2 : Rb w A2 n2 k2 l2) (hn : n ≤ 1000) (hn2 : n2 ≤ 1000) : Calls Try.prog 54 #[.agg (sgC a b c d f wi sm ur A n k A2 n2 k2).toArray] w (RetSO w a b c d f wi sm ur l l2) := by
  have HL2 := Lib.hid h2
  have HLN := Lib.hid hl0.1
  have HLN2 := Lib.hid h2.1
  obtain ⟨du1, u1, u2⟩ := rowSG
  have hS : Bk ((w.alloc (.cells (sgC a b c d f wi sm ur A n k A2 n2 k2).toArray 31)).alloc (.cells ([.int .u16 0, .int .u16 0, .int .u32 0, .int .u32 0, .int .u8 0, .int .u16 0, .int .u16 0, .int .u16 0, .slice none 0 0, .slice none 0 0]).toArray 31)) w.heap.size 31 (sgC a b c d f wi sm ur A n k A2 n2 k2) := (Bk.new w 31 (sgC a b c d f wi sm ur A n k A2 n2 k2).toArray).alloc _
  have hR : Bk ((w.alloc (.cells (sgC a b c d f wi sm ur A n k A2 n2 k2).toArray 31)).alloc (.cells ([.int .u16 0, .int .u16 0, .int .u32 0, .int .u32 0, .int .u8 0, .int .u16 0, .int .u16 0, .int .u16 0, .slice none 0 0, .slice none 0 0]).toArray 31)) (w.heap.size + 1) 31 ([.int .u16 0, .int .u16 0, .int .u32 0, .int .u32 0, .int .u8 0, .int .u16 0, .int .u16 0, .int .u16 0, .slice none 0 0, .slice none 0 0]) := Bk.newK _ _ _ (by simp) rfl
  have be : Below w.heap.size w ((w.alloc (.cells (sgC a b c d f wi sm ur A n k A2 n2 k2).toArray 31)).alloc (.cells ([.int .u16 0, .int .u16 0, .int .u32 0, .int .u32 0, .int .u8 0, .int .u16 0, .int .u16 0, .int .u16 0, .slice none 0 0, .slice none 0 0]).toArray 31)) := Below.allocS (Below.allocS (Below.refl _ _) _) _
  replace hl0 := ((hl0.alloc (.cells (sgC a b c d f wi sm ur A n k A2 n2 k2).toArray 31)).alloc (.cells ([.int .u16 0, .int .u16 0, .int .u32 0, .int .u32 0, .int .u8 0, .int .u16 0, .int .u16 0, .int .u16 0, .slice none 0 0, .slice none 0 0]).toArray 31))
  replace h2 := ((h2.alloc (.cells (sgC a b c d f wi sm ur A n k A2 n2 k2).toArray 31)).alloc (.cells ([.int .u16 0, .int .u16 0, .int .u32 0, .int .u32 0, .int .u8 0, .int .u16 0, .int .u16 0, .int .u16 0, .slice none 0 0, .slice none 0 0]).toArray 31))
  have zV : w.heap.size + 2 ≤ ((w.alloc (.cells (sgC a b c d f wi sm ur A n k A2 n2 k2).toArray 31)).alloc (.cells ([.int .u16 0, .int .u16 0, .int .u32 0, .int .u32 0, .int .u8 0, .int .u16 0, .int .u16 0, .int .u16 0, .slice none 0 0, .slice none 0 0]).toArray 31)).heap.size := by simp
  go_enter Try.func54, Try.ntmps54
  go_upto_region 1 with (fail)
  generalize (w.alloc (.cells (sgC a b c d f wi sm ur A n k A2 n2 k2).toArray 31)).alloc (.cells ([.int .u16 0, .int .u16 0, .int .u32 0, .int .u32 0, .int .u8 0, .int .u16 0, .int .u16 0, .int .u16 0, .slice none 0 0, .slice none 0 0]).toArray 31) = V at *
  replace hR : Bk V (w.heap.size + 1) 31 (sgC 0 0 0 0 0 0 0 0 none 0 0 none 0 0) := hR
  refine wp_region_lit ?_
  refine wpList_plain rfl (fun K hK => ?_); go_simp; with_reducible refine hK _ _ ?_; clear hK K
  refine wpList_ld1 (t := 31) (cs := sgC a b c d f wi sm ur A n k A2 n2 k2) 24 (.tmp 3) rfl (by rfl) rfl (hS) rfl Try.underlying24 rfl ?_
  refine wpList_plain rfl (fun K hK => ?_)
  go_simp
  refine (clone_any A n k l V hl0 (by omega)).mono ?_
  rintro e w1 ⟨A4, n4, c4, bs1, d1, rfl, rfl, hoL⟩
  with_reducible refine hK _ _ ?_
  clear hK K
  refine wpList_plain rfl (fun K hK => ?_); go_simp; with_reducible refine hK _ _ ?_; clear hK K
  obtain rfl : n = n4 := by have := hoL.1; have := HLN.out; omega
  replace hoL := hoL.mono zV
  clear h2
  have b4 := below_plus V bs1 d1
  have zW : w.heap.size + 2 ≤ (plus V bs1 d1).heap.size := Nat.le_trans zV b4.size
  replace zV := zW
  clear zW
  replace be := belowP be bs1 d1
  replace hS := hS.later b4
  replace hR := hR.later b4
  clear b4
  generalize plus V bs1 d1 = V0 at *
  refine wpList_st1 24 (.tmp 6) (.tmp 5) rfl rfl (by rfl) (by rfl) hS (Nat.le_of_ble_eq_true rfl) rfl (by kernel_rfl) ?_
  intro V1 hS' g1
  replace hS : Bk V1 w.heap.size 31 (sgC a b c d f wi sm ur A4 n c4 A2 n2 k2) := hS'
  clear hS'
  simp only [Act.put, List.setIfInBounds_toArray, List.set_cons_zero, List.set_cons_succ]
  replace be := below_grown be g1 (Nat.le_refl _)
  replace hR := hR.grown g1 (by simp)
  replace zV := Nat.le_trans zV g1.size
  replace hoL := hoL.grown g1 (fun k hk e => by have := (hoL.blk k hk).1; injection e with e; omega)
  clear g1
  have h2 := HL2.out.later be
  go_upto_region 2 with (fail)
  refine wp_region_lit ?_
  refine wpList_plain rfl (fun K hK => ?_); go_simp; with_reducible refine hK _ _ ?_; clear hK K
  refine wpList_ld1 (t := 31) (cs := sgC a b c d f wi sm ur A4 n c4 A2 n2 k2) 24 (.tmp 7) rfl (by rfl) rfl (hS) rfl Try.underlying24 rfl ?_
  refine wpList_plain rfl (fun K hK => ?_)
  go_simp
  refine (clone_any A2 n2 k2 l2 V1 h2 (by omega)).mono ?_
  rintro e w1 ⟨A5, n5, c5, bs2, d2, rfl, rfl, hoD⟩
  with_reducible refine hK _ _ ?_
  clear hK K
  refine wpList_plain rfl (fun K hK => ?_); go_simp; with_reducible refine hK _ _ ?_; clear hK K
  obtain rfl : n2 = n5 := by have := hoD.1; have := HLN2.out; omega
  replace hoD := hoD.mono zV
  clear h2
  have b4 := below_plus V1 bs2 d2
  have zW : w.heap.size + 2 ≤ (plus V1 bs2 d2).heap.size := Nat.le_trans zV b4.size
  replace zV := zW
  clear zW
  replace be := belowP be bs2 d2
  replace hS := hS.later b4
  replace hR := hR.later b4
  replace hoL := hoL.later b4
  clear b4
  generalize plus V1 bs2 d2 = V0 at *
  refine wpList_st1 24 (.tmp 10) (.tmp 9) rfl rfl (by rfl) (by rfl) hS (Nat.le_of_ble_eq_true rfl) rfl (by kernel_rfl) ?_
  intro V2 hS' g2
  replace hS : Bk V2 w.heap.size 31 (sgC a b c d f wi sm ur A4 n c4 A5 n2 c5) := hS'
  clear hS'
  simp only [Act.put, List.setIfInBounds_toArray, List.set_cons_zero, List.set_cons_succ]
  replace be := below_grown be g2 (Nat.le_refl _)
  replace hR := hR.grown g2 (by simp)
  replace zV := Nat.le_trans zV g2.size
  replace hoL := hoL.grown g2 (fun k hk e => by have := (hoL.blk k hk).1; injection e with e; omega)
  replace hoD := hoD.grown g2 (fun k hk e => by have := (hoD.blk k hk).1; injection e with e; omega)
  clear g2
  go_upto_region 3 with (fail)
  refine wp_region_lit ?_
  refine wpList_ldA (t := 31) 31 (.tmp 1) rfl rfl (sgC a b c d f wi sm ur A4 n c4 A5 n2 c5) rfl (hS) (whole_ _) u1 u2 (szSG _ _ _ _ _ _ _ _ _ _ _ _ _ _ ) ?_
  simp only [Act.put, List.setIfInBounds_toArray, List.set_cons_zero, List.set_cons_succ]
  refine wpList_stA 31 (.tmp 2) (.tmp 11) rfl rfl (sgC a b c d f wi sm ur A4 n c4 A5 n2 c5) (sgC 0 0 0 0 0 0 0 0 none 0 0 none 0 0) rfl (sgC_one _ _ _ _ _ _ _ _ _ _ _ _ _ _ ) rfl rfl hR (szSG _ _ _ _ _ _ _ _ _ _ _ _ _ _ ) ?_
  intro W9 h9 g9
  simp only [Act.put, List.setIfInBounds_toArray, List.set_cons_zero, List.set_cons_succ]
  go_wp2
  refine bodyPost_agg Try.results54 rfl h9.range u1 u2 (szSG _ _ _ _ _ _ _ _ _ _ _ _ _ _ ) rfl ?_
  have be9 := below_grown be g9 (by omega)
  exact ⟨_, _, _, _, _, _, rfl, be9, (hoL.grown g9 (fun k hk e => by have := (hoL.blk k hk).1; injection e with e; omega)).mono (by omega), (hoD.grown g9 (fun k hk e => by have := (hoD.blk k hk).1; injection e with e; omega)).mono (by omega)⟩
end Go.Proofs.Ytknoenceccpkhaa

/- Segments: Right, Bytes, and their references. -/
namespace Go.Proofs.Ytknoenceccpkhaa
open Go.RowKit
set_option linter.unusedVariables false
set_option linter.unusedSimpArgs false
attribute [local go_sem ↓] sliced_cut

attribute [local go_sem] cutA_zero

/-- the bytes of a segment; hb0: the byte of the header's size -/
def tcpB (a b c d hb0 f wi sm ur : Nat) (l l2 : List UInt8) : List UInt8 := ([(dig (a) 2), (dig (b) 2), (dig (c) 4), (dig (d) 4), [UInt8.ofNat (hb0), UInt8.ofNat (f)], (dig (wi) 2), (dig (sm) 2), (dig (ur) 2), l, l2]).flatten
set_option maxRecDepth 100000 in
theorem tcpSize_any (a b c d f wi sm ur : Nat) (A : Option Addr) (n k : Nat) (A2 : Option Addr) (n2 k2 : Nat) (w : World) (hn : n ≤ 1000000) (hn2 : n2 ≤ 1000000) : Calls Try.prog 104 #[.agg #[.int .u16 (a : Int), .int .u16 (b : Int), .int .u32 (c : Int), .int .u32 (d : Int), .int .u8 (f : Int), .int .u16 (wi : Int), .int .u16 (sm : Int), .int .u16 (ur : Int), .slice A n k, .slice A2 n2 k2]] w (RetV w (.int .i64 ((20 + n + n2 : Nat) : Int))) := by
  go_enter Try.func104, Try.ntmps104
  go_wp2
  go_ret
  exact RetV.is_ (by simp) (Below.allocS (Below.refl _ _) _)
set_option maxHeartbeats 1000000 in
set_option maxRecDepth 100000 in
theorem tcpRight_yes (a b c d f wi sm ur : Nat) (A : Option Addr) (n k : Nat) (A2 : Option Addr) (n2 k2 : Nat) (w : World) (hn : n ≤ 40) (h4 : n % 4 = 0) (hn2 : n2 ≤ 2000) : Calls Try.prog 55 #[.agg #[.int .u16 (a : Int), .int .u16 (b : Int), .int .u32 (c : Int), .int .u32 (d : Int), .int .u8 (f : Int), .int .u16 (wi : Int), .int .u16 (sm : Int), .int .u16 (ur : Int), .slice A n k, .slice A2 n2 k2]] w (RetV w (.bool true)) := by
  have t1 : ((n : Int) % 4 == 0) = true := by rw [beq_iff_eq]; omega
  replace h4 := Lib.hid h4
  have HS := Lib.hid (fun w => tcpSize_any a b c d f wi sm ur A n k A2 n2 k2 w (by omega) (by omega))
  have hz : 20 + n + n2 ≤ 65535 := by omega
  generalize 20 + n + n2 = z at *
  go_enter Try.func55, Try.ntmps55
  go_wp2_with (go_at_call 104; refine (HS.out _).mono ?_; rintro e w1 ⟨bs1, d1, rfl, rfl⟩)
  go_ret
  exact RetV.is_ (by simp; omega) (belowP (Below.allocS (Below.refl _ _) _) _ _)
set_option maxHeartbeats 1000000 in
set_option maxRecDepth 100000 in
theorem refTcpRight_yes (a b c d f wi sm ur : Nat) (A : Option Addr) (n k : Nat) (A2 : Option Addr) (n2 k2 : Nat) (w : World) (hn : n ≤ 40) (h4 : n % 4 = 0) (hn2 : n2 ≤ 2000) : Calls Try.prog 10 #[.agg #[.int .u16 (a : Int), .int .u16 (b : Int), .int .u32 (c : Int), .int .u32 (d : Int), .int .u8 (f : Int), .int .u16 (wi : Int), .int .u16 (sm : Int), .int .u16 (ur : Int), .slice A n k, .slice A2 n2 k2]] w (RetV w (.bool true)) := by
  have t1 : ((n : Int) % 4 == 0) = true := by rw [beq_iff_eq]; omega
  replace h4 := Lib.hid h4
  go_enter Try.func10, Try.ntmps10
  go_wp2
  go_ret
  exact RetV.is_ (by simp; omega) (Below.allocS (Below.refl _ _) _)
set_option maxHeartbeats 1000000 in
set_option maxRecDepth 100000 in
theorem refTcpRight_no (a b c d f wi sm ur : Nat) (A : Option Addr) (n k : Nat) (A2 : Option Addr) (n2 k2 : Nat) (w : World) (h : 40 < n ∨ n % 4 ≠ 0) (hn : n ≤ 1000000) : Calls Try.prog 10 #[.agg #[.int .u16 (a : Int), .int .u16 (b : Int), .int .u32 (c : Int), .int .u32 (d : Int), .int .u8 (f : Int), .int .u16 (wi : Int), .int .u16 (sm : Int), .int .u16 (ur : Int), .slice A n k, .slice A2 n2 k2]] w (RetV w (.bool false)) := by
  by_cases h1 : 40 < n
  · have d1 : decide (n ≤ 40) = false := by simp; omega
    go_enter Try.func10, Try.ntmps10
    go_wp2
    go_ret
    exact RetV.is_ (by simp) (Below.allocS (Below.refl _ _) _)
  · have h1' : n ≤ 40 := by omega
    have t1 : ((n : Int) % 4 == 0) = false := by rw [beq_eq_false_iff_ne]; omega
    clear h h1
    go_enter Try.func10, Try.ntmps10
    go_wp2
    go_ret
    exact RetV.is_ (by simp) (Below.allocS (Below.refl _ _) _)
set_option maxHeartbeats 4000000 in
set_option maxRecDepth 100000 in
theorem tcpBytes_yes (a b c d f wi sm ur : Nat) (A : Option Addr) (n k : Nat) (A2 : Option Addr) (n2 k2 : Nat) (l l2 : List UInt8) (w : World) (ha : a < 65536) (hb : b < 65536) (hc : c < 4294967296) (hd : d < 4294967296) (hf : f < 256) (hwi : wi < 65536) (hsm : sm < 65536) (hur : ur < 65536) (h : Rb w A n k l) (h2 : Rb w A2 n2 k2 l2) (hn : n ≤ 40) (h4 : n % 4 = 0) (hn2 : n2 ≤ 2000) : Calls Try.prog 14 #[.agg #[.int .u16 (a : Int), .int .u16 (b : Int), .int .u32 (c : Int), .int .u32 (d : Int), .int .u8 (f : Int), .int .u16 (wi : Int), .int .u16 (sm : Int), .int .u16 (ur : Int), .slice A n k, .slice A2 n2 k2]] w (RetB w (tcpB a b c d (80 + n / 4 * 16) f wi sm ur l l2)) := by
  have HR := Lib.hid (fun w => tcpRight_yes a b c d f wi sm ur A n k A2 n2 k2 w hn h4 hn2)
  replace h4 := Lib.hid h4
  go_enter Try.func14, Try.ntmps14
  go_wp2_with fail
  refine (HR.out _).mono ?_
  rintro e w1 ⟨bs0, m0, rfl, rfl⟩
  go_wp2_with fail
  refine (put_full _ _ _ [] a 2 _ Rb.nil_ (by omega) (by omega) (by omega) (by omega)).mono ?_
  rintro e w1 ⟨A10, n10, bs10, m10, rfl, rfl, ho10⟩
  have l10 : n10 ≤ 100 := by rw [← ho10.1]; simp [dig_length]
  go_wp2_with fail
  refine (put_full _ _ _ _ b 2 _ ho10.rb (by omega) (by omega) (by omega) (by omega)).mono ?_
  rintro e w1 ⟨A11, n11, bs11, m11, rfl, rfl, ho11⟩
  have l11 : n11 ≤ 100 := by rw [← ho11.1]; simp [dig_length]
  go_wp2_with fail
  refine (put_full _ _ _ _ c 4 _ ho11.rb (by omega) (by omega) (by omega) (by omega)).mono ?_
  rintro e w1 ⟨A12, n12, bs12, m12, rfl, rfl, ho12⟩
  have l12 : n12 ≤ 100 := by rw [← ho12.1]; simp [dig_length]
  go_wp2_with fail
  refine (put_full _ _ _ _ d 4 _ ho12.rb (by omega) (by omega) (by omega) (by omega)).mono ?_
  rintro e w1 ⟨A13, n13, bs13, m13, rfl, rfl, ho13⟩
  have l13 : n13 ≤ 100 := by rw [← ho13.1]; simp [dig_length]
  go_wp2_with fail
  refine (put_int_full _ _ _ _ _ 1 _ ho13.rb (by omega) (by omega) (by omega) (by omega) (by omega)).mono ?_
  rintro e w1 ⟨A14, n14, bs14, m14, rfl, rfl, ho14⟩
  have l14 : n14 ≤ 100 := by rw [← ho14.1]; simp [dig_length]
  go_wp2_with fail
  refine (put_full _ _ _ _ f 1 _ ho14.rb (by omega) (by omega) (by omega) (by omega)).mono ?_
  rintro e w1 ⟨A15, n15, bs15, m15, rfl, rfl, ho15⟩
  have l15 : n15 ≤ 100 := by rw [← ho15.1]; simp [dig_length]
  go_wp2_with fail
  refine (put_full _ _ _ _ wi 2 _ ho15.rb (by omega) (by omega) (by omega) (by omega)).mono ?_
  rintro e w1 ⟨A16, n16, bs16, m16, rfl, rfl, ho16⟩
  have l16 : n16 ≤ 100 := by rw [← ho16.1]; simp [dig_length]
  go_wp2_with fail
  refine (put_full _ _ _ _ sm 2 _ ho16.rb (by omega) (by omega) (by omega) (by omega)).mono ?_
  rintro e w1 ⟨A17, n17, bs17, m17, rfl, rfl, ho17⟩
  have l17 : n17 ≤ 100 := by rw [← ho17.1]; simp [dig_length]
  go_wp2_with fail
  refine (put_full _ _ _ _ ur 2 _ ho17.rb (by omega) (by omega) (by omega) (by omega)).mono ?_
  rintro e w1 ⟨A18, n18, bs18, m18, rfl, rfl, ho18⟩
  have l18 : n18 ≤ 100 := by rw [← ho18.1]; simp [dig_length]
  go_wp2_with (first
    | (refine at_op (.call { callee := .builtin .append, args := #[.tmp 55, .tmp 57], argTypes := #[24, 24] }) rfl ?_; refine wpList_appP _ bt rfl (.tmp 55) (.tmp 57) rfl (by exact below_plus _ bs18 m18) rfl ho18 rfl (by exact h.alloc _ |>.plus_ _ _ |>.plus_ _ _ |>.plus_ _ _ |>.plus_ _ _ |>.plus_ _ _ |>.plus_ _ _ |>.plus_ _ _ |>.plus_ _ _ |>.plus_ _ _ |>.plus_ _ _) (by omega) ?_; intro A20 n20 k20 bs20 m20 ho20 hg20; have l20 : n20 ≤ 200 := (by rw [← ho20.1]; simp [dig_length, h.1]; omega))
    | (refine at_op (.call { callee := .builtin .append, args := #[.tmp 59, .tmp 61], argTypes := #[24, 24] }) rfl ?_; refine wpList_appP _ bt rfl (.tmp 59) (.tmp 61) rfl (by exact below_plus _ bs20 m20) rfl ho20 rfl (by exact h2.alloc _ |>.plus_ _ _ |>.plus_ _ _ |>.plus_ _ _ |>.plus_ _ _ |>.plus_ _ _ |>.plus_ _ _ |>.plus_ _ _ |>.plus_ _ _ |>.plus_ _ _ |>.plus_ _ _) (by omega) ?_; intro A21 n21 k21 bs21 m21 ho21 hg21))
  go_ret
  refine RetB.mk ?_ (belowP (belowP (belowP (belowP (belowP (belowP (belowP (belowP (belowP (belowP (Below.allocS (Below.refl _ _) _) _ _) _ _) _ _) _ _) _ _) _ _) _ _) _ _) _ _) _ _)
  have e1 : ((20 + (n : Int)) / 4 * 16).toNat = 80 + n / 4 * 16 := by omega
  have e2 : [] ++ dig a 2 ++ dig b 2 ++ dig c 4 ++ dig d 4 ++ dig ((20 + (n : Int)) / 4 * 16).toNat 1 ++ dig f 1 ++ dig wi 2 ++ dig sm 2 ++ dig ur 2 ++ l ++ l2 = tcpB a b c d (80 + n / 4 * 16) f wi sm ur l l2 := by
    rw [e1, dig1 _ (by omega), dig1 _ hf]
    simp [tcpB]
  rw [e2] at ho21
  exact ho21.mono (by simp [size_plus]; omega)
end Go.Proofs.Ytknoenceccpkhaa

/- Contracts of the package icmp and its reference. -/
namespace Go.Proofs.Ytknoenceccpkhaa
open Go.RowKit
set_option linter.unusedVariables false
attribute [local go_sem ↓] sliced_cut

attribute [local go_sem] cutA_zero

/-- a new message -/
def RetM (w : World) (ty code sum word : Int) (l : List UInt8) (e : Ending) (w' : World) : Prop :=
  ∃ A n c bs d, e = .returned (.agg #[.int .u8 ty, .int .u8 code, .int .u16 sum, .int .u32 word, .slice A n c]) ∧ w' = plus w bs d ∧ Ob (plus w bs d) w.heap.size A n c l
theorem RetM.mk {w w' : World} {ty code sum word : Int} {l : List UInt8} {A : Option Addr} {n c : Nat} (ho : Ob w' w.heap.size A n c l) (hb : Below w.heap.size w w') :
    RetM w ty code sum word l (.returned (.agg #[.int .u8 ty, .int .u8 code, .int .u16 sum, .int .u32 word, .slice A n c])) w' := by
  obtain ⟨bs, d, rfl⟩ := plus_of hb
  exact ⟨A, n, c, bs, d, rfl, rfl, ho⟩

end Go.Proofs.Ytknoenceccpkhaa

/- Messages: Bytes, covered, Summed, Fine, Error, Echo; the reference's Bytes, Check, Summed, Error. -/
namespace Go.Proofs.Ytknoenceccpkhaa
open Go.RowKit
set_option linter.unusedVariables false
set_option linter.unusedSimpArgs false
attribute [local go_sem ↓] sliced_cut

attribute [local go_sem] cutA_zero

def msgC (a b c d : Nat) (A : Option Addr) (n k : Nat) : List Value := [.int .u8 (a : Int), .int .u8 (b : Int), .int .u16 (c : Int), .int .u32 (d : Int), .slice A n k]
/-- two slices of bytes -/
def Ret2 (w : World) (l1 l2 : List UInt8) (e : Ending) (w' : World) : Prop := ∃ A1 n1 c1 A2 n2 c2 bs d, e = .returned (.tuple #[.slice A1 n1 c1, .slice A2 n2 c2]) ∧ w' = plus w bs d ∧ Rb (plus w bs d) A1 n1 c1 l1 ∧ Rb (plus w bs d) A2 n2 c2 l2
theorem Ret2.mk {w w' : World} {l1 l2 : List UInt8} {A1 : Option Addr} {n1 c1 : Nat} {A2 : Option Addr} {n2 c2 : Nat} (h1 : Rb w' A1 n1 c1 l1) (h2 : Rb w' A2 n2 c2 l2) (hb : Below w.heap.size w w') : Ret2 w l1 l2 (.returned (.tuple #[.slice A1 n1 c1, .slice A2 n2 c2])) w' := by
  obtain ⟨bs, d, rfl⟩ := plus_of hb
  exact ⟨_, _, _, _, _, _, bs, d, rfl, rfl, h1, h2⟩
/-- a message with its own load -/
def RetMs (w : World) (a b s d : Nat) (l : List UInt8) (e : Ending) (w' : World) : Prop := ∃ A n c bs d', e = .returned (.agg (msgC a b s d A n c).toArray) ∧ w' = plus w bs d' ∧ Rb (plus w bs d') A n c l
theorem RetMs.mk {w w' : World} {a b s d : Nat} {l : List UInt8} {A : Option Addr} {n c : Nat} (ho : Rb w' A n c l) (hb : Below w.heap.size w w') : RetMs w a b s d l (.returned (.agg (msgC a b s d A n c).toArray)) w' := by
  obtain ⟨bs, d, rfl⟩ := plus_of hb
  exact ⟨A, n, c, bs, d, rfl, rfl, ho⟩
end Go.Proofs.Ytknoenceccpkhaa

/- Contracts of udp.Parse and its reference. -/
namespace Go.Proofs.Ytknoenceccpkhaa
open Go.RowKit
set_option linter.unusedVariables false
set_option linter.unusedSimpArgs false
attribute [local go_sem ↓] sliced_cut

attribute [local go_sem] cutA_zero

/-- a datagram in new memory, and a second result -/
def RetDg (w : World) (x0 x1 x2 : Nat) (l : List UInt8) (v : Value) (e : Ending) (w' : World) : Prop :=
  ∃ A n c bs d, e = .returned (.tuple #[.agg #[.int .u16 x0, .int .u16 x1, .int .u16 x2, .slice A n c], v]) ∧ w' = plus w bs d ∧ Rb (plus w bs d) A n c l
theorem RetDg.mk {w w' : World} {x0 x1 x2 : Nat} {l : List UInt8} {A : Option Addr} {n c : Nat} {v : Value} (h1 : Rb w' A n c l) (hb : Below w.heap.size w w') :
    RetDg w x0 x1 x2 l v (.returned (.tuple #[.agg #[.int .u16 x0, .int .u16 x1, .int .u16 x2, .slice A n c], v])) w' := by
  obtain ⟨bs, d, rfl⟩ := plus_of hb
  exact ⟨A, n, c, bs, d, rfl, rfl, h1⟩
/-- the same, the row in a new block -/
def RetDgF (w : World) (x0 x1 x2 : Nat) (l : List UInt8) (v : Value) (e : Ending) (w' : World) : Prop :=
  ∃ A n c bs d, e = .returned (.tuple #[.agg #[.int .u16 x0, .int .u16 x1, .int .u16 x2, .slice A n c], v]) ∧ w' = plus w bs d ∧ Rb (plus w bs d) A n c l ∧ ∀ a, A = some a → w.heap.size ≤ a.block
theorem RetDgF.mk {w w' : World} {x0 x1 x2 : Nat} {l : List UInt8} {A : Option Addr} {n c : Nat} {v : Value} (h1 : Rb w' A n c l) (hf : ∀ a, A = some a → w.heap.size ≤ a.block) (hb : Below w.heap.size w w') :
    RetDgF w x0 x1 x2 l v (.returned (.tuple #[.agg #[.int .u16 x0, .int .u16 x1, .int .u16 x2, .slice A n c], v])) w' := by
  obtain ⟨bs, d, rfl⟩ := plus_of hb
  exact ⟨A, n, c, bs, d, rfl, rfl, h1, hf⟩
theorem RetDg.zero {w w' : World} {v : Value} (hb : Below w.heap.size w w') : RetDg w 0 0 0 [] v (.returned (.tuple #[.agg #[.int .u16 0, .int .u16 0, .int .u16 0, .slice none 0 0], v])) w' := RetDg.mk Rb.nil_ hb
end Go.Proofs.Ytknoenceccpkhaa

/- Fine of segments and of datagrams, on both sides (chapters 6, 7). -/
namespace Go.Proofs.Ytknoenceccpkhaa
open Go.RowKit
set_option linter.unusedVariables false
set_option linter.unusedSimpArgs false
attribute [local go_sem ↓] sliced_cut

attribute [local go_sem] cutA_zero

/-- the sum of all that a segment's checksum covers -/
def tcT (s6 : Bool) (sh sl : Nat) (d6 : Bool) (dh dl : Nat) (l : List UInt8) : Nat := tot false (psdB s6 sh sl d6 dh dl 6 l.length ++ l)
set_option maxHeartbeats 4000000 in
set_option maxRecDepth 100000 in
theorem tcpFine (A : Option Addr) (n c : Nat) (s6 : Bool) (sh sl : Nat) (d6 : Bool) (dh dl : Nat) (l : List UInt8) (w : World) (k1 : sh < 18446744073709551616) (k2 : sl < 18446744073709551616) (k3 : dh < 18446744073709551616) (k4 : dl < 18446744073709551616) (h : Rb w A n c l) (hn : n ≤ 65535) : Calls Try.prog 12 #[.slice A n c, .agg (adC s6 sh sl).toArray, .agg (adC d6 dh dl).toArray] w (RetV w (.bool (65535 - fd (tcT s6 sh sl d6 dh dl l) == 0))) := by
  have d1 : decide ((n : Int) ≤ 65535) = true := by simp only [decide_eq_true_eq]; omega
  have hT : ([psdB s6 sh sl d6 dh dl 6 n, l] : List (List UInt8)).flatten.length ≤ 1000000 := by have := psdB_length s6 sh sl d6 dh dl 6 n; have := h.1; simp; omega
  have HE : Hid (tot false ([psdB s6 sh sl d6 dh dl 6 n, l] : List (List UInt8)).flatten = tcT s6 sh sl d6 dh dl l) := Lib.hid (by rw [← h.1]; simp [tcT])
  have HO := Lib.hid (fun w A1 c1 (h : RdL w A1 2 [psdB s6 sh sl d6 dh dl 6 n, l]) => sumRight A1 2 c1 _ w h (by omega) hT)
  rw [HE.out] at HO
  have HP := Lib.hid (fun w => (pseudo_any s6 sh sl d6 dh dl 6 n w k1 k2 k3 k4 (by omega) (by omega) : Calls Try.prog 53 #[.agg (adC s6 sh sl).toArray, .agg (adC d6 dh dl).toArray, .int .u8 6, .int .i64 (n : Int)] w (RetF w (psdB s6 sh sl d6 dh dl 6 n))))
  obtain ⟨dy, y1, y2⟩ := rowAd
  have hS : Bk ((w.alloc (.cells (adC s6 sh sl).toArray 29)).alloc (.cells (adC d6 dh dl).toArray 29)) w.heap.size 29 (adC s6 sh sl) := (Bk.new w 29 (adC s6 sh sl).toArray).alloc _
  have hD : Bk ((w.alloc (.cells (adC s6 sh sl).toArray 29)).alloc (.cells (adC d6 dh dl).toArray 29)) (w.heap.size + 1) 29 (adC d6 dh dl) := Bk.newK _ _ _ (by simp) rfl
  have be : Below w.heap.size w ((w.alloc (.cells (adC s6 sh sl).toArray 29)).alloc (.cells (adC d6 dh dl).toArray 29)) := Below.allocS (Below.allocS (Below.refl _ _) _) _
  replace h := (h.alloc (.cells (adC s6 sh sl).toArray 29)).alloc (.cells (adC d6 dh dl).toArray 29)
  clear hT HE
  generalize psdB s6 sh sl d6 dh dl 6 n = Pq at *
  generalize tcT s6 sh sl d6 dh dl l = t at *
  go_enter Try.func12, Try.ntmps12
  go_upto_region 1 with (fail)
  generalize (w.alloc (.cells (adC s6 sh sl).toArray 29)).alloc (.cells (adC d6 dh dl).toArray 29) = W at *
  refine wp_region_lit ?_
  iterate 4 (refine wpList_plain rfl (fun K hK => ?_); go_simp; with_reducible refine hK _ _ ?_; clear hK K)
  refine wpList_ldG (t := 29) 29 (.tmp 4) rfl (by go_simp) (adC s6 sh sl) rfl (hS) (whole_ _) y1 y2 (szAd _ _ _) ?_
  simp only [Act.put, List.setIfInBounds_toArray, List.set_cons_zero, List.set_cons_succ]
  refine wpList_ldG (t := 29) 29 (.tmp 5) rfl (by go_simp) (adC d6 dh dl) rfl (hD) (whole_ _) y1 y2 (szAd _ _ _) ?_
  iterate 2 (refine wpList_step (fun K hK => ?_); go_simp; with_reducible refine hK _ _ ?_; clear hK K)
  refine wpList_step (fun K hK => ?_)
  go_simp
  refine (HP.out _).mono ?_
  rintro e w1 ⟨A2, n2, bs2, d2, rfl, rfl, ho2⟩
  with_reducible refine hK _ _ ?_
  clear hK K
  iterate 2 (refine wpList_step (fun K hK => ?_); go_simp; with_reducible refine hK _ _ ?_; clear hK K)
  go_wp2_with fail
  refine (HO.out _ _ _ (RdL.litW [.slice A2 n2 n2, .slice A n c] _ (by simp [size_plus]) (.cons ⟨_, _, _, rfl, ho2.rb⟩ (.cons ⟨_, _, _, rfl, h.plus_ _ _⟩ .nil)))).mono ?_
  rintro e w1 ⟨rfl, rfl⟩
  go_wp2
  go_ret
  exact RetV.mk (Below.allocS (belowP be _ _) _)
end Go.Proofs.Ytknoenceccpkhaa

/- (tcp.Segment).Summed. -/
namespace Go.Proofs.Ytknoenceccpkhaa
open Go.RowKit
set_option linter.unusedVariables false
set_option linter.unusedSimpArgs false
attribute [local go_sem ↓] sliced_cut

attribute [local go_sem] cutA_zero

/-- the checksum that Summed writes -/
def sumOfT (s6 : Bool) (sh sl : Nat) (d6 : Bool) (dh dl : Nat) (a b c d f wi ur : Nat) (l l2 : List UInt8) : Nat := 65535 - fd (tcT s6 sh sl d6 dh dl (tcpB a b c d (80 + l.length / 4 * 16) f wi 0 ur l l2))
theorem tcpB_len (a b c d hb0 f wi sm ur : Nat) (l l2 : List UInt8) : (tcpB a b c d hb0 f wi sm ur l l2).length = 20 + l.length + l2.length := by
  unfold tcpB
  simp [dig_length]
  omega
set_option maxHeartbeats 4000000 in
set_option maxRecDepth 100000 in
theorem segSummed (a b c d f wi sm ur : Nat) (A : Option Addr) (n k : Nat) (A2 : Option Addr) (n2 k2 : Nat) (s6 : Bool) (sh sl : Nat) (d6 : Bool) (dh dl : Nat) (l l2 : List UInt8) (w : World) (ha : a < 65536) (hb : b < 65536) (hc : c < 4294967296) (hd : d < 4294967296) (hf : f < 256) (hwi : wi < 65536) (hur : ur < 65536) (k1 : sh < 18446744073709551616) (k2' : sl < 18446744073709551616) (k3 : dh < 18446744073709551616) (k4' : dl < 18446744073709551616)
    (hl0 : Rb w A n k l) (h2 : Rb w A2 n2 k2 l2) (hn : n ≤ 40) (h4 : n % 4 = 0) (hn2 : n2 ≤ 1000) : Calls Try.prog 13 #[.agg (sgC a b c d f wi sm ur A n k A2 n2 k2).toArray, .agg (adC s6 sh sl).toArray, .agg (adC d6 dh dl).toArray] w (RetSO w a b c d f wi (sumOfT s6 sh sl d6 dh dl a b c d f wi ur l l2) ur l l2) := by
  obtain ⟨T, hT⟩ : ∃ T, tcpB a b c d (80 + n / 4 * 16) f wi 0 ur l l2 = T := ⟨_, rfl⟩
  have hTl : T.length = 20 + n + n2 := by rw [← hT, tcpB_len, hl0.1, h2.1]
  have HSM : Hid (sumOfT s6 sh sl d6 dh dl a b c d f wi ur l l2 = 65535 - fd (tcT s6 sh sl d6 dh dl T)) := Lib.hid (by unfold sumOfT; rw [hl0.1, hT])
  obtain ⟨m, hm⟩ : ∃ m, 20 + n + n2 = m := ⟨_, rfl⟩
  rw [hm] at hTl
  have hm9 : m ≤ 2000 := by omega
  have HBY := Lib.hid (fun W A n k A2 n2 k2 (h : Rb W A n k l) (h2 : Rb W A2 n2 k2 l2) (hn : n ≤ 40) (h4 : n % 4 = 0) (hn2 : n2 ≤ 2000) => tcpBytes_yes a b c d f wi 0 ur A n k A2 n2 k2 l l2 W ha hb hc hd hf hwi (by decide) hur h h2 hn h4 hn2)
  have HRI := Lib.hid (fun W A k A2 k2 => tcpRight_yes a b c d f wi sm ur A n k A2 n2 k2 W hn h4 (by omega))
  have HP := Lib.hid (fun w => (pseudo_any s6 sh sl d6 dh dl 6 m w k1 k2' k3 k4' (by omega) (by omega) : Calls Try.prog 53 #[.agg (adC s6 sh sl).toArray, .agg (adC d6 dh dl).toArray, .int .u8 6, .int .i64 (m : Int)] w (RetF w (psdB s6 sh sl d6 dh dl 6 m))))
  have hTT : ([psdB s6 sh sl d6 dh dl 6 m, T] : List (List UInt8)).flatten.length ≤ 1000000 := by have := psdB_length s6 sh sl d6 dh dl 6 m; simp; omega
  have HE : Hid (tot false ([psdB s6 sh sl d6 dh dl 6 m, T] : List (List UInt8)).flatten = tcT s6 sh sl d6 dh dl T) := Lib.hid (by rw [← hTl]; simp [tcT])
  have HO := Lib.hid (fun w A1 c1 (h : RdL w A1 2 [psdB s6 sh sl d6 dh dl 6 m, T]) => sumOf A1 2 c1 _ w h (by omega) hTT)
  rw [HE.out] at HO
  have HLN := Lib.hid hl0.1
  have HLN2 := Lib.hid h2.1
  have H4 := Lib.hid h4
  have HT := Lib.hid hT
  have HTL := Lib.hid hTl
  rw [HSM.out]
  clear hTT HE HSM hTl hm h4 hT
  generalize psdB s6 sh sl d6 dh dl 6 m = Pq at *
  generalize tcT s6 sh sl d6 dh dl T = t at *
  obtain ⟨du1, u1, u2⟩ := rowSG
  obtain ⟨dy1, y1, y2⟩ := rowAd
  have hS : Bk ((((w.alloc (.cells (sgC a b c d f wi sm ur A n k A2 n2 k2).toArray 31)).alloc (.cells (adC s6 sh sl).toArray 29)).alloc (.cells (adC d6 dh dl).toArray 29)).alloc (.cells ([.int .u16 0, .int .u16 0, .int .u32 0, .int .u32 0, .int .u8 0, .int .u16 0, .int .u16 0, .int .u16 0, .slice none 0 0, .slice none 0 0]).toArray 31)) w.heap.size 31 (sgC a b c d f wi sm ur A n k A2 n2 k2) := (((Bk.new w 31 (sgC a b c d f wi sm ur A n k A2 n2 k2).toArray).alloc _).alloc _).alloc _
  have hA : Bk ((((w.alloc (.cells (sgC a b c d f wi sm ur A n k A2 n2 k2).toArray 31)).alloc (.cells (adC s6 sh sl).toArray 29)).alloc (.cells (adC d6 dh dl).toArray 29)).alloc (.cells ([.int .u16 0, .int .u16 0, .int .u32 0, .int .u32 0, .int .u8 0, .int .u16 0, .int .u16 0, .int .u16 0, .slice none 0 0, .slice none 0 0]).toArray 31)) (w.heap.size + 1) 29 (adC s6 sh sl) := ((Bk.newK _ _ _ (by simp) rfl).alloc _).alloc _
  have hB : Bk ((((w.alloc (.cells (sgC a b c d f wi sm ur A n k A2 n2 k2).toArray 31)).alloc (.cells (adC s6 sh sl).toArray 29)).alloc (.cells (adC d6 dh dl).toArray 29)).alloc (.cells ([.int .u16 0, .int .u16 0, .int .u32 0, .int .u32 0, .int .u8 0, .int .u16 0, .int .u16 0, .int .u16 0, .slice none 0 0, .slice none 0 0]).toArray 31)) (w.heap.size + 1 + 1) 29 (adC d6 dh dl) := (Bk.newK _ _ _ (by simp) rfl).alloc _
  have hR : Bk ((((w.alloc (.cells (sgC a b c d f wi sm ur A n k A2 n2 k2).toArray 31)).alloc (.cells (adC s6 sh sl).toArray 29)).alloc (.cells (adC d6 dh dl).toArray 29)).alloc (.cells ([.int .u16 0, .int .u16 0, .int .u32 0, .int .u32 0, .int .u8 0, .int .u16 0, .int .u16 0, .int .u16 0, .slice none 0 0, .slice none 0 0]).toArray 31)) (w.heap.size + 1 + 1 + 1) 31 ([.int .u16 0, .int .u16 0, .int .u32 0, .int .u32 0, .int .u8 0, .int .u16 0, .int .u16 0, .int .u16 0, .slice none 0 0, .slice none 0 0]) := Bk.newK _ _ _ (by simp) rfl
  have be : Below w.heap.size w ((((w.alloc (.cells (sgC a b c d f wi sm ur A n k A2 n2 k2).toArray 31)).alloc (.cells (adC s6 sh sl).toArray 29)).alloc (.cells (adC d6 dh dl).toArray 29)).alloc (.cells ([.int .u16 0, .int .u16 0, .int .u32 0, .int .u32 0, .int .u8 0, .int .u16 0, .int .u16 0, .int .u16 0, .slice none 0 0, .slice none 0 0]).toArray 31)) := Below.allocS (Below.allocS (Below.allocS (Below.allocS (Below.refl _ _) _) _) _) _
  replace hl0 := ((((hl0.alloc (.cells (sgC a b c d f wi sm ur A n k A2 n2 k2).toArray 31)).alloc (.cells (adC s6 sh sl).toArray 29)).alloc (.cells (adC d6 dh dl).toArray 29)).alloc (.cells ([.int .u16 0, .int .u16 0, .int .u32 0, .int .u32 0, .int .u8 0, .int .u16 0, .int .u16 0, .int .u16 0, .slice none 0 0, .slice none 0 0]).toArray 31))
  replace h2 := ((((h2.alloc (.cells (sgC a b c d f wi sm ur A n k A2 n2 k2).toArray 31)).alloc (.cells (adC s6 sh sl).toArray 29)).alloc (.cells (adC d6 dh dl).toArray 29)).alloc (.cells ([.int .u16 0, .int .u16 0, .int .u32 0, .int .u32 0, .int .u8 0, .int .u16 0, .int .u16 0, .int .u16 0, .slice none 0 0, .slice none 0 0]).toArray 31))
  have zV : w.heap.size + 4 ≤ ((((w.alloc (.cells (sgC a b c d f wi sm ur A n k A2 n2 k2).toArray 31)).alloc (.cells (adC s6 sh sl).toArray 29)).alloc (.cells (adC d6 dh dl).toArray 29)).alloc (.cells ([.int .u16 0, .int .u16 0, .int .u32 0, .int .u32 0, .int .u8 0, .int .u16 0, .int .u16 0, .int .u16 0, .slice none 0 0, .slice none 0 0]).toArray 31)).heap.size := by simp
  go_enter Try.func13, Try.ntmps13
  go_upto_region 1 with (fail)
  generalize (((w.alloc (.cells (sgC a b c d f wi sm ur A n k A2 n2 k2).toArray 31)).alloc (.cells (adC s6 sh sl).toArray 29)).alloc (.cells (adC d6 dh dl).toArray 29)).alloc (.cells ([.int .u16 0, .int .u16 0, .int .u32 0, .int .u32 0, .int .u8 0, .int .u16 0, .int .u16 0, .int .u16 0, .slice none 0 0, .slice none 0 0]).toArray 31) = V at *
  replace hR : Bk V (w.heap.size + 1 + 1 + 1) 31 (sgC 0 0 0 0 0 0 0 0 none 0 0 none 0 0) := hR
  refine wp_region_lit ?_
  refine wpList_ldA (t := 31) 31 (.tmp 3) rfl rfl (sgC a b c d f wi sm ur A n k A2 n2 k2) rfl (hS) (whole_ _) u1 u2 (szSG _ _ _ _ _ _ _ _ _ _ _ _ _ _ ) ?_
  refine wpList_plain rfl (fun K hK => ?_)
  go_simp
  refine (segCopied a b c d f wi sm ur A n k A2 n2 k2 l l2 V hl0 h2 (by omega) (by omega)).mono ?_
  rintro e w1 ⟨A4, n4, k4, A5, n5, k5, rfl, b1, hoL, hoD⟩
  with_reducible refine hK _ _ ?_
  clear hK K
  obtain rfl : n = n4 := by have := hoL.1; have := HLN.out; omega
  obtain rfl : n2 = n5 := by have := hoD.1; have := HLN2.out; omega
  replace hoL := hoL.mono zV
  replace hoD := hoD.mono zV
  clear hl0 h2
  have b4 : Below V.heap.size V w1 := b1
  replace zV := Nat.le_trans zV b4.size
  replace be := be.trans (b4.mono be.size)
  replace hS := hS.later b4
  replace hR := hR.later b4
  replace hA := hA.later b4
  replace hB := hB.later b4
  clear b4
  generalize w1 = V1 at *
  clear b1
  refine wpList_stA 31 (.tmp 3) (.tmp 9) rfl rfl (sgC a b c d f wi sm ur A4 n k4 A5 n2 k5) (sgC a b c d f wi sm ur A n k A2 n2 k2) rfl (sgC_one _ _ _ _ _ _ _ _ _ _ _ _ _ _ ) rfl rfl hS (szSG _ _ _ _ _ _ _ _ _ _ _ _ _ _ ) ?_
  intro V2 hS' g2
  replace hS := hS'
  clear hS'
  simp only [Act.put, List.setIfInBounds_toArray, List.set_cons_zero, List.set_cons_succ]
  replace be := below_grown be g2 (Nat.le_refl _)
  replace hR := hR.grown g2 (fun e => by injection e with e; omega)
  replace hA := hA.grown g2 (fun e => by injection e with e; omega)
  replace hB := hB.grown g2 (fun e => by injection e with e; omega)
  replace zV := Nat.le_trans zV g2.size
  replace hoL := hoL.grown g2 (fun k hk e => by have := (hoL.blk k hk).1; injection e with e; omega)
  replace hoD := hoD.grown g2 (fun k hk e => by have := (hoD.blk k hk).1; injection e with e; omega)
  clear g2
  go_upto_region 2 with (fail)
  refine wp_region_lit ?_
  refine wpList_ldA (t := 31) 31 (.tmp 3) rfl rfl (sgC a b c d f wi sm ur A4 n k4 A5 n2 k5) rfl (hS) (whole_ _) u1 u2 (szSG _ _ _ _ _ _ _ _ _ _ _ _ _ _ ) ?_
  refine wpList_plain rfl (fun K hK => ?_)
  go_simp
  refine (HRI.out V2 A4 k4 A5 k5).mono ?_
  rintro e w1 ⟨bs2, d2, rfl, rfl⟩
  with_reducible refine hK _ _ ?_
  clear hK K
  refine wpList_plain rfl (fun K hK => ?_); go_simp; with_reducible refine hK _ _ ?_; clear hK K
  have b4 : Below V2.heap.size V2 (plus V2 bs2 d2) := below_plus V2 bs2 d2
  replace zV := Nat.le_trans zV b4.size
  replace be := be.trans (b4.mono be.size)
  replace hS := hS.later b4
  replace hR := hR.later b4
  replace hA := hA.later b4
  replace hB := hB.later b4
  replace hoL := hoL.later b4
  replace hoD := hoD.later b4
  clear b4
  generalize plus V2 bs2 d2 = V3 at *
  go_upto_region 4 with (fail)
  refine wp_region_lit ?_
  refine wpList_plain rfl (fun K hK => ?_); go_simp; with_reducible refine hK _ _ ?_; clear hK K
  refine wpList_st1 22 (.tmp 14) (.const (.int .u16 0)) rfl rfl (by rfl) (by rfl) hS (Nat.le_of_ble_eq_true rfl) rfl (by kernel_rfl) ?_
  intro V4 hS' g4
  replace hS : Bk V4 w.heap.size 31 (sgC a b c d f wi 0 ur A4 n k4 A5 n2 k5) := hS'
  clear hS'
  replace be := below_grown be g4 (Nat.le_refl _)
  replace hR := hR.grown g4 (fun e => by injection e with e; omega)
  replace hA := hA.grown g4 (fun e => by injection e with e; omega)
  replace hB := hB.grown g4 (fun e => by injection e with e; omega)
  replace zV := Nat.le_trans zV g4.size
  replace hoL := hoL.grown g4 (fun k hk e => by have := (hoL.blk k hk).1; injection e with e; omega)
  replace hoD := hoD.grown g4 (fun k hk e => by have := (hoD.blk k hk).1; injection e with e; omega)
  clear g4
  go_upto_region 5 with (fail)
  refine wp_region_lit ?_
  refine wpList_ldA (t := 31) 31 (.tmp 3) rfl rfl (sgC a b c d f wi 0 ur A4 n k4 A5 n2 k5) rfl (hS) (whole_ _) u1 u2 (szSG _ _ _ _ _ _ _ _ _ _ _ _ _ _ ) ?_
  refine wpList_plain rfl (fun K hK => ?_)
  go_simp
  refine (HBY.out V4 A4 n k4 A5 n2 k5 hoL.rb hoD.rb (by omega) H4.out (by omega)).mono ?_
  rintro e w1 ⟨A6, n6, k6, bs6, dd6, rfl, rfl, ho6⟩
  with_reducible refine hK _ _ ?_
  clear hK K
  have b4 : Below V4.heap.size V4 (plus V4 bs6 dd6) := below_plus V4 bs6 dd6
  replace zV := Nat.le_trans zV b4.size
  replace be := be.trans (b4.mono be.size)
  replace hS := hS.later b4
  replace hR := hR.later b4
  replace hA := hA.later b4
  replace hB := hB.later b4
  replace hoL := hoL.later b4
  replace hoD := hoD.later b4
  clear b4
  generalize plus V4 bs6 dd6 = V5 at *
  rw [HT.out] at ho6
  obtain rfl : m = n6 := by have := ho6.1; have := HTL.out; omega
  go_upto_region 6 with (fail)
  refine wp_region_lit ?_
  refine wpList_ldA (t := 29) 29 (.tmp 4) rfl rfl (adC s6 sh sl) rfl (hA) (whole_ _) y1 y2 (szAd _ _ _) ?_
  simp only [Act.put, List.setIfInBounds_toArray, List.set_cons_zero, List.set_cons_succ]
  refine wpList_ldA (t := 29) 29 (.tmp 5) rfl rfl (adC d6 dh dl) rfl (hB) (whole_ _) y1 y2 (szAd _ _ _) ?_
  iterate 2 (refine wpList_plain rfl (fun K hK => ?_); go_simp; with_reducible refine hK _ _ ?_; clear hK K)
  refine wpList_plain rfl (fun K hK => ?_)
  go_simp
  refine (HP.out _).mono ?_
  rintro e w1 ⟨A7, n7, bs7, d7, rfl, rfl, ho7⟩
  with_reducible refine hK _ _ ?_
  clear hK K
  iterate 2 (refine wpList_plain rfl (fun K hK => ?_); go_simp; with_reducible refine hK _ _ ?_; clear hK K)
  refine wpList_plain rfl (fun K hK => ?_)
  go_simp
  refine (HO.out _ _ _ (RdL.litW [.slice A7 n7 n7, .slice A6 m k6] _ (by simp [size_plus]) (.cons ⟨_, _, _, rfl, ho7.rb⟩ (.cons ⟨_, _, _, rfl, ho6.rb.plus_ _ _⟩ .nil)))).mono ?_
  rintro e w2 ⟨rfl, rfl⟩
  with_reducible refine hK _ _ ?_
  clear hK K
  refine wpList_plain rfl (fun K hK => ?_); go_simp; with_reducible refine hK _ _ ?_; clear hK K
  have b4 := Below.allocS (below_plus V5 bs7 d7) (.cells ([.slice A7 n7 n7, .slice A6 m k6] : List Value).toArray 24)
  replace zV := Nat.le_trans zV b4.size
  replace be := be.trans (b4.mono be.size)
  replace hS := hS.later b4
  replace hR := hR.later b4
  replace hoL := hoL.later b4
  replace hoD := hoD.later b4
  clear b4
  have HS9 := fd_le t
  refine wpList_st1 22 (.tmp 25) (.tmp 24) rfl rfl (by rfl) (by rfl) hS (Nat.le_of_ble_eq_true rfl) rfl (by kernel_rfl) ?_
  intro V6 hS' g6
  replace hS : Bk V6 w.heap.size 31 (sgC a b c d f wi (65535 - fd t) ur A4 n k4 A5 n2 k5) := hS'
  clear hS'
  replace be := below_grown be g6 (Nat.le_refl _)
  replace hR := hR.grown g6 (fun e => by injection e with e; omega)
  replace zV := Nat.le_trans zV g6.size
  replace hoL := hoL.grown g6 (fun k hk e => by have := (hoL.blk k hk).1; injection e with e; omega)
  replace hoD := hoD.grown g6 (fun k hk e => by have := (hoD.blk k hk).1; injection e with e; omega)
  clear g6
  go_upto_region 7 with (fail)
  refine wp_region_lit ?_
  refine wpList_ldA (t := 31) 31 (.tmp 3) rfl rfl (sgC a b c d f wi (65535 - fd t) ur A4 n k4 A5 n2 k5) rfl (hS) (whole_ _) u1 u2 (szSG _ _ _ _ _ _ _ _ _ _ _ _ _ _ ) ?_
  simp only [Act.put, List.setIfInBounds_toArray, List.set_cons_zero, List.set_cons_succ]
  refine wpList_stA 31 (.tmp 6) (.tmp 26) rfl rfl (sgC a b c d f wi (65535 - fd t) ur A4 n k4 A5 n2 k5) (sgC 0 0 0 0 0 0 0 0 none 0 0 none 0 0) rfl (sgC_one _ _ _ _ _ _ _ _ _ _ _ _ _ _ ) rfl rfl hR (szSG _ _ _ _ _ _ _ _ _ _ _ _ _ _ ) ?_
  intro W9 h9 g9
  simp only [Act.put, List.setIfInBounds_toArray, List.set_cons_zero, List.set_cons_succ]
  go_wp2
  refine bodyPost_agg Try.results13 rfl h9.range u1 u2 (szSG _ _ _ _ _ _ _ _ _ _ _ _ _ _ ) rfl ?_
  have be9 := below_grown be g9 (by omega)
  exact ⟨_, _, _, _, _, _, rfl, be9, (hoL.grown g9 (fun k hk e => by have := (hoL.blk k hk).1; injection e with e; omega)).mono (by omega), (hoD.grown g9 (fun k hk e => by have := (hoD.blk k hk).1; injection e with e; omega)).mono (by omega)⟩
end Go.Proofs.Ytknoenceccpkhaa

/- Clamp keeps a fine segment fine: the plain law. -/
namespace Go.Proofs.Ytknoenceccpkhaa
open Go.RowKit
set_option linter.unusedVariables false
set_option linter.unusedSimpArgs false
attribute [local go_sem ↓] sliced_cut

attribute [local go_sem] cutA_zero

theorem fd_full (x : Nat) (hx : 0 < x) (h : x % 65535 = 0) : fd x = 65535 := by
  unfold fd
  rw [if_neg (by omega)]
  omega
theorem fd_cong (x : Nat) : fd x % 65535 = x % 65535 := by
  unfold fd
  split
  · omega
  · omega
/-- a checksum renewed covers the changed total: T0 the old total (the sum 0), T1 the new one -/
theorem upd_fine (T0 T1 a b : Nat) (h0 : 0 < T0) (h1 : 0 < T1) (ha : a < 65536) (hb : b < 65536) (h : T1 + a = T0 + b) : fd (T1 + updS (65535 - fd T0) a b) = 65535 := by
  have h2 := fd_le T0
  have h3 := fd_cong T0
  unfold updS
  rw [show 65535 - (65535 - fd T0) = fd T0 by omega]
  obtain ⟨y, hy⟩ : ∃ y, fd T0 = y := ⟨_, rfl⟩
  rw [hy] at h2 h3 ⊢
  have h4 := fd_le (y + (65535 - a) + b)
  have h5 := fd_cong (y + (65535 - a) + b)
  obtain ⟨z, hz⟩ : ∃ z, fd (y + (65535 - a) + b) = z := ⟨_, rfl⟩
  rw [hz] at h4 h5 ⊢
  exact fd_full _ (by omega) (by omega)
/-- the words of two bytes, at an even and at an odd place -/
theorem tot_set (low : Bool) (l : List UInt8) (k : Nat) (x0 x1 y0 y1 : UInt8) (hk : k + 2 ≤ l.length) (h : (l.drop k).take 2 = [x0, x1]) :
    tot low (setB l k [y0, y1]) + tot (if k % 2 = 0 then low else !low) [x0, x1] = tot low l + tot (if k % 2 = 0 then low else !low) [y0, y1] := by
  have e : l = l.take k ++ ([x0, x1] ++ l.drop (k + 2)) := by
    rw [← h, ← List.drop_drop, List.take_append_drop, List.take_append_drop]
  have hl : (l.take k).length = k := by rw [List.length_take]; omega
  unfold setB
  have e1 : tot low l = tot low (l.take k) + (tot (if k % 2 = 0 then low else !low) [x0, x1] + tot (if 2 % 2 = 0 then (if k % 2 = 0 then low else !low) else !(if k % 2 = 0 then low else !low)) (l.drop (k + 2))) := by
    conv => lhs; rw [e]
    rw [tot_append, tot_append, hl]
    rfl
  rw [e1, List.append_assoc, tot_append, tot_append, hl]
  simp only [List.length_cons, List.length_nil, Nat.zero_add, Nat.reduceAdd]
  omega
end Go.Proofs.Ytknoenceccpkhaa

/- Clamp keeps a fine segment fine: the plain law, second part. -/
namespace Go.Proofs.Ytknoenceccpkhaa
open Go.RowKit
set_option linter.unusedVariables false
set_option linter.unusedSimpArgs false
attribute [local go_sem ↓] sliced_cut

attribute [local go_sem] cutA_zero

def hd16 (a b c d hb0 f wi : Nat) : List UInt8 := dig a 2 ++ dig b 2 ++ dig c 4 ++ dig d 4 ++ [UInt8.ofNat hb0, UInt8.ofNat f] ++ dig wi 2
theorem hd16_len (a b c d hb0 f wi : Nat) : (hd16 a b c d hb0 f wi).length = 16 := by simp [hd16, dig_length]
theorem tcpB_eq (a b c d hb0 f wi sm ur : Nat) (l l2 : List UInt8) : tcpB a b c d hb0 f wi sm ur l l2 = hd16 a b c d hb0 f wi ++ (dig sm 2 ++ (dig ur 2 ++ (l ++ l2))) := by
  unfold tcpB hd16
  simp
theorem tot_dig2 (low : Bool) (s : Nat) (hs : s < 65536) : tot low (dig s 2) = if low then trn s else s := by
  have e : dig s 2 = [UInt8.ofNat (s / 256 % 256), UInt8.ofNat (s % 256)] := by simp [dig]
  rw [e]
  cases low <;> simp [tot, trn, UInt8.toNat_ofNat'] <;> omega
/-- the total of a segment, the checksum apart -/
theorem tcT_sum (s6 : Bool) (sh sl : Nat) (d6 : Bool) (dh dl : Nat) (a b c d hb0 f wi sm ur : Nat) (l l2 : List UInt8) (hs : sm < 65536) :
    tcT s6 sh sl d6 dh dl (tcpB a b c d hb0 f wi sm ur l l2) = tot false (psdB s6 sh sl d6 dh dl 6 (20 + l.length + l2.length)) + tot false (hd16 a b c d hb0 f wi) + sm + tot false (dig ur 2) + tot false l + tot (if l.length % 2 = 0 then false else true) l2 := by
  unfold tcT
  rw [tcpB_len, tcpB_eq]
  simp only [tot_append, psdB_even, hd16_len, dig_length, Nat.reduceMod, if_true, tot_dig2 false sm hs]
  simp
  omega
theorem hd16_pos (a b c d hb0 f wi : Nat) (h1 : 80 ≤ hb0) (h2 : hb0 < 256) : 0 < tot false (hd16 a b c d hb0 f wi) := by
  unfold hd16
  simp only [tot_append, List.length_append, dig_length, Nat.reduceAdd, Nat.reduceMod, if_true]
  have : 0 < tot false [UInt8.ofNat hb0, UInt8.ofNat f] := by
    simp only [tot, UInt8.toNat_ofNat', Nat.mod_eq_of_lt h2]
    simp
    omega
  omega
end Go.Proofs.Ytknoenceccpkhaa

/- Clamp keeps a fine segment fine. -/
namespace Go.Proofs.Ytknoenceccpkhaa
open Go.RowKit
set_option linter.unusedVariables false
set_option linter.unusedSimpArgs false
attribute [local go_sem ↓] sliced_cut

attribute [local go_sem] cutA_zero

theorem setB_len (l : List UInt8) (k : Nat) (r : List UInt8) (h : k + r.length ≤ l.length) : (setB l k r).length = l.length := by
  unfold setB
  simp only [List.length_append, List.length_take, List.length_drop]
  omega
theorem clampO_len (l : List UInt8) (f most sm : Nat) : (clampO l f most sm).1.length = l.length := by
  cases h : firstO 2 (opts l) with
  | none => rw [clampO_none h]
  | some q =>
    obtain ⟨i, k, dd⟩ := q
    obtain ⟨j, rfl, h1, -⟩ := first_at h
    by_cases hn : dd.length = 2 ∧ f / 2 % 2 = 1 ∧ most < num dd
    · have := hn.1
      rcases Nat.mod_two_eq_zero_or_one j with hj | hj
      · rw [clampO_even h hn hj]
        exact setB_len _ _ _ (by rw [dig_length]; omega)
      · rw [clampO_odd h hn hj]
        exact setB_len _ _ _ (by rw [dig_length]; omega)
    · rw [clampO_no h hn]
theorem clampO_sm (l : List UInt8) (f most sm : Nat) (hs : sm < 65536) : (clampO l f most sm).2 < 65536 := by
  cases h : firstO 2 (opts l) with
  | none => rw [clampO_none h]; exact hs
  | some q =>
    obtain ⟨i, k, dd⟩ := q
    obtain ⟨j, rfl, h1, -⟩ := first_at h
    by_cases hn : dd.length = 2 ∧ f / 2 % 2 = 1 ∧ most < num dd
    · rcases Nat.mod_two_eq_zero_or_one j with hj | hj
      · rw [clampO_even h hn hj]; exact updS_lt _ _ _
      · rw [clampO_odd h hn hj]; exact updS_lt _ _ _
    · rw [clampO_no h hn]; exact hs
theorem fine0 (T : Nat) (h : 0 < T) : fd (T + (65535 - fd T)) = 65535 := by
  have h1 := fd_le T
  have h2 := fd_cong T
  exact fd_full _ (by omega) (by omega)
theorem clamp_fine (s6 : Bool) (sh sl : Nat) (d6 : Bool) (dh dl : Nat) (a b c d f wi ur most : Nat) (l l2 : List UInt8) (hl : l.length ≤ 40) (h4 : l.length % 4 = 0) (hmo : most < 65536) (L' : List UInt8) (s' : Nat) (hP : clampO l f most (sumOfT s6 sh sl d6 dh dl a b c d f wi ur l l2) = (L', s')) :
    65535 - fd (tcT s6 sh sl d6 dh dl (tcpB a b c d (80 + L'.length / 4 * 16) f wi s' ur L' l2)) = 0 := by
  have hs0 : sumOfT s6 sh sl d6 dh dl a b c d f wi ur l l2 < 65536 := by unfold sumOfT; omega
  have hs : s' < 65536 := by have := clampO_sm l f most _ hs0; rw [hP] at this; exact this
  have hL : L'.length = l.length := by have := clampO_len l f most (sumOfT s6 sh sl d6 dh dl a b c d f wi ur l l2); rw [hP] at this; exact this
  rw [hL, tcT_sum _ _ _ _ _ _ _ _ _ _ _ _ _ _ _ _ _ hs, hL, if_pos (by omega)]
  have hpos := hd16_pos a b c d (80 + l.length / 4 * 16) f wi (by omega) (by omega)
  have hT : sumOfT s6 sh sl d6 dh dl a b c d f wi ur l l2 = 65535 - fd (tot false (psdB s6 sh sl d6 dh dl 6 (20 + l.length + l2.length)) + tot false (hd16 a b c d (80 + l.length / 4 * 16) f wi) + 0 + tot false (dig ur 2) + tot false l + tot false l2) := by
    unfold sumOfT
    rw [tcT_sum _ _ _ _ _ _ _ _ _ _ _ _ _ _ _ _ _ (by decide), if_pos (by omega)]
  rw [hT] at hP
  generalize tot false (psdB s6 sh sl d6 dh dl 6 (20 + l.length + l2.length)) = p at *
  generalize tot false (hd16 a b c d (80 + l.length / 4 * 16) f wi) = h at *
  generalize tot false (dig ur 2) = u at *
  generalize tot false l2 = v at *
  clear hT hs0
  cases hF : firstO 2 (opts l) with
  | none =>
    rw [clampO_none hF] at hP
    injection hP with hp1 hp2
    subst hp1 hp2
    have := fine0 (p + h + 0 + u + tot false l + v) (by omega)
    rw [show p + h + (65535 - fd (p + h + 0 + u + tot false l + v)) + u + tot false l + v = (p + h + 0 + u + tot false l + v) + (65535 - fd (p + h + 0 + u + tot false l + v)) by omega, this]
  | some q =>
    obtain ⟨i, k, dd⟩ := q
    obtain ⟨j, rfl, h1, h2⟩ := first_at hF
    by_cases hn : dd.length = 2 ∧ f / 2 % 2 = 1 ∧ most < num dd
    · obtain ⟨hd2, -, -⟩ := id hn
      obtain ⟨x0, x1, hx⟩ : ∃ x0 x1, dd = [x0, x1] := by
        match dd, hd2 with
        | [x0, x1], _ => exact ⟨x0, x1, rfl⟩
      have hdig : dig most 2 = [UInt8.ofNat (most / 256 % 256), UInt8.ofNat (most % 256)] := by simp [dig]
      have hset := tot_set false l (j + 2) x0 x1 (UInt8.ofNat (most / 256 % 256)) (UInt8.ofNat (most % 256)) (by omega) (by rw [← hx, h2, hd2])
      rw [← hdig] at hset
      have hw : num dd < 65536 := by have := num_lt 2 dd (by omega); simpa using this
      have hxe : tot false [x0, x1] = num dd := by rw [hx]; simp [tot, num]
      have hxo : tot true [x0, x1] = trn (num dd) := by
        rw [hx]
        have := x0.toNat_lt
        have := x1.toNat_lt
        simp [tot, num, trn]
        omega
      rcases Nat.mod_two_eq_zero_or_one j with hj | hj
      · rw [clampO_even hF hn hj] at hP
        injection hP with hp1 hp2
        subst hp1 hp2
        rw [if_pos (by omega), hxe, tot_dig2 false most hmo] at hset
        simp only [Bool.false_eq_true, if_false] at hset
        have := upd_fine (p + h + 0 + u + tot false l + v) (p + h + 0 + u + tot false (setB l (j + 2) (dig most 2)) + v) (num dd) most (by omega) (by omega) hw hmo (by omega)
        generalize updS (65535 - fd (p + h + 0 + u + tot false l + v)) (num dd) most = z at *
        rw [show p + h + z + u + tot false (setB l (j + 2) (dig most 2)) + v = p + h + 0 + u + tot false (setB l (j + 2) (dig most 2)) + v + z by omega, this]
      · rw [clampO_odd hF hn hj] at hP
        injection hP with hp1 hp2
        subst hp1 hp2
        rw [if_neg (by omega), Bool.not_false, hxo, tot_dig2 true most hmo] at hset
        simp only [if_true] at hset
        have := upd_fine (p + h + 0 + u + tot false l + v) (p + h + 0 + u + tot false (setB l (j + 2) (dig most 2)) + v) (trn (num dd)) (trn most) (by omega) (by omega) (trn_lt _ hw) (trn_lt _ hmo) (by omega)
        generalize updS (65535 - fd (p + h + 0 + u + tot false l + v)) (trn (num dd)) (trn most) = z at *
        rw [show p + h + z + u + tot false (setB l (j + 2) (dig most 2)) + v = p + h + 0 + u + tot false (setB l (j + 2) (dig most 2)) + v + z by omega, this]
    · rw [clampO_no hF hn] at hP
      injection hP with hp1 hp2
      subst hp1 hp2
      have := fine0 (p + h + 0 + u + tot false l + v) (by omega)
      rw [show p + h + (65535 - fd (p + h + 0 + u + tot false l + v)) + u + tot false l + v = (p + h + 0 + u + tot false l + v) + (65535 - fd (p + h + 0 + u + tot false l + v)) by omega, this]
end Go.Proofs.Ytknoenceccpkhaa

/- OptionClamps' walk (chapter 44). -/
namespace Go.Proofs.Ytknoenceccpkhaa
open Go.RowKit
set_option linter.unusedVariables false
set_option linter.unusedSimpArgs false
attribute [local go_sem ↓] sliced_cut

attribute [local go_sem] cutA_zero

/-- may an address be? -/
def adrR (six : Bool) (ah al : Nat) : Bool := six || (ah == 0 && decide (al ≤ 4294967295))
set_option maxRecDepth 100000 in
theorem refAdrRight (six : Bool) (ah al : Nat) (w : World) (h1 : ah < 18446744073709551616) (h2 : al < 18446744073709551616) : Calls Try.prog 11 #[.agg #[.bool six, .int .u64 ah, .int .u64 al]] w (RetV w (.bool (adrR six ah al))) := by
  cases six
  · by_cases ha : ah = 0
    · subst ha
      go_enter Try.func11, Try.ntmps11
      go_wp2
      go_ret
      exact RetV.is_ (by simp [adrR]; omega) ((Below.refl _ _).alloc (Nat.le_refl _) _)
    · have t1 : ((ah : Int) == 0) = false := by simpa using ha
      have t2 : (ah == 0) = false := by simpa using ha
      go_enter Try.func11, Try.ntmps11
      go_wp2
      go_ret
      exact RetV.is_ (by simp [adrR, t2]) ((Below.refl _ _).alloc (Nat.le_refl _) _)
  · go_enter Try.func11, Try.ntmps11
    go_wp2
    go_ret
    exact RetV.is_ (by simp [adrR]) ((Below.refl _ _).alloc (Nat.le_refl _) _)
theorem OldOb.later {w w' : World} {A : Option Addr} {n k : Nat} {A' : Option Addr} {n' k' : Nat} (h : OldOb w A n k A' n' k') (hb : Below w.heap.size w w') : OldOb w' A n k A' n' k' := by
  rcases h with h | ⟨l, h⟩
  · exact .inl h
  · exact .inr ⟨l, h.later hb⟩
/-- a store into a new struct's block leaves rows as they are -/
theorem oldOb_keep {W0 W W' : World} {A : Option Addr} {n k : Nat} {l : List UInt8} {A' : Option Addr} {n' k' : Nat} {L : List UInt8} (h0 : Rb W0 A n k l) (hr : Rb W A' n' k' L) (ho : OldOb W A n k A' n' k') {g : Nat} (hg : W0.heap.size ≤ g) {t : TypeId} {cs : List Value} (hb : Bk W g t cs) (ht : t ≠ 5) (hgr : W.grownBy W' (some g)) :
    Rb W' A' n' k' L ∧ OldOb W' A n k A' n' k' := by
  have hne : ∀ l', Ob W 0 A' n' k' l' → ∀ b, (Value.slice A' n' k').ownBlock = some b → b ≠ g := by
    intro l' hob b hbk e
    subst e
    rcases hob.2.2 with ⟨hv, _⟩ | ⟨g2, cap, cur, hv, _, hheap, _⟩
    · injection hv with h1 h2 h3
      subst h1 h2 h3
      cases hbk
    · injection hv with h1 h2 h3
      subst h1
      have e2 : g2 = b := by simpa [Value.ownBlock] using hbk
      subst e2
      unfold Bk at hb
      rw [hb] at hheap
      injection hheap with hheap
      injection hheap with h1 h2 h3
      exact ht h2
  constructor
  · rcases hr.2.2 with h | ⟨b, off, hA, hbl, hc⟩
    · exact ⟨hr.1, hr.2.1, .inl h⟩
    · by_cases hL : bcs L = []
      · exact ⟨hr.1, hr.2.1, .inl hL⟩
      have hbg : b ≠ g := by
        rcases ho with ⟨rfl, rfl, rfl⟩ | ⟨l', hob⟩
        · rcases h0.2.2 with h | ⟨b2, off2, hA2, hb2, _⟩
          · have h1 := congrArg List.length h
            rw [bcs_length, h0.1] at h1
            have h3 : L = [] := List.eq_nil_of_length_eq_zero (by rw [hr.1, h1]; rfl)
            exact absurd (congrArg bcs h3) hL
          · rw [hA] at hA2
            injection hA2 with e
            injection e with e1 e2
            omega
        · exact hne l' hob b (by subst hA; rfl)
      refine ⟨hr.1, hr.2.1, .inr ⟨b, off, hA, Nat.lt_of_lt_of_le hbl hgr.size, fun i u hu => ?_⟩⟩
      exact (World.cell?_of_block (hgr.block b hbl (fun e => hbg (Option.some.inj e)))).trans (hc i u hu)
  · rcases ho with h | ⟨l', hob⟩
    · exact .inl h
    · exact .inr ⟨l', hob.grown hgr (fun b hb2 e => hne l' hob b hb2 (by injection e with e; exact e.symm))⟩
def MP.sg (a b c d f wi sm ur : Nat) (A0 : Option Addr) (n0 k0 : Nat) (A20 : Option Addr) (n20 k20 : Nat) (l l2 : List UInt8) : MP := ⟨fun v w => ∃ A n k A2 n2 k2, v = .agg (sgC a b c d f wi sm ur A n k A2 n2 k2).toArray ∧ Rb w A n k l ∧ Rb w A2 n2 k2 l2 ∧ OldOb w A0 n0 k0 A n k ∧ OldOb w A20 n20 k20 A2 n2 k2,
  fun _ _ _ ⟨A, n, k, A2, n2, k2, h1, h2, h3, h4, h5⟩ h => ⟨A, n, k, A2, n2, k2, h1, h2.later h.below, h3.later h.below, h4.later h.below, h5.later h.below⟩⟩
def MP.sgR (a b c d f wi sm ur : Nat) (l l2 : List UInt8) : MP := ⟨fun v w => ∃ A n k A2 n2 k2, v = .agg (sgC a b c d f wi sm ur A n k A2 n2 k2).toArray ∧ Rb w A n k l ∧ Rb w A2 n2 k2 l2,
  fun _ _ _ ⟨A, n, k, A2, n2, k2, h1, h2, h3⟩ h => ⟨A, n, k, A2, n2, k2, h1, h2.later h.below, h3.later h.below⟩⟩
set_option maxHeartbeats 4000000 in
set_option maxRecDepth 100000 in
theorem optionClamps_walk (a b c d f wi sm ur : Nat) (A : Option Addr) (n k : Nat) (A2 : Option Addr) (n2 k2 : Nat) (s6 : Bool) (sh sl : Nat) (d6 : Bool) (dh dl : Nat) (l l2 : List UInt8) (most : Nat) (w : World) (ha : a < 65536) (hb : b < 65536) (hc : c < 4294967296) (hd : d < 4294967296) (hf : f < 256) (hwi : wi < 65536) (hsm : sm < 65536) (hur : ur < 65536) (hmo : most < 65536) (k1 : sh < 18446744073709551616) (k2' : sl < 18446744073709551616) (k3 : dh < 18446744073709551616) (k4' : dl < 18446744073709551616)
    (hl0 : Rb w A n k l) (h2 : Rb w A2 n2 k2 l2) (hnm : n ≤ 9223372036854775807) (hnm2 : n2 ≤ 9223372036854775807) : Calls Try.prog 3 #[.agg (sgC a b c d f wi sm ur A n k A2 n2 k2).toArray, .int .u16 (most : Int), .agg (adC s6 sh sl).toArray, .agg (adC d6 dh dl).toArray] w (RetV w (.bool true)) := by
  have HLN := Lib.hid hl0.1
  have HLN2 := Lib.hid h2.1
  obtain ⟨du1, u1, u2⟩ := rowSR
  obtain ⟨dy1, y1, y2⟩ := rowAd
  have hS : Bk (((w.alloc (.cells (sgC a b c d f wi sm ur A n k A2 n2 k2).toArray 26)).alloc (.cells (adC s6 sh sl).toArray 29)).alloc (.cells (adC d6 dh dl).toArray 29)) w.heap.size 26 (sgC a b c d f wi sm ur A n k A2 n2 k2) := ((Bk.new w 26 (sgC a b c d f wi sm ur A n k A2 n2 k2).toArray).alloc _).alloc _
  have hA : Bk (((w.alloc (.cells (sgC a b c d f wi sm ur A n k A2 n2 k2).toArray 26)).alloc (.cells (adC s6 sh sl).toArray 29)).alloc (.cells (adC d6 dh dl).toArray 29)) (w.heap.size + 1) 29 (adC s6 sh sl) := (Bk.newK _ _ _ (by simp) rfl).alloc _
  have hB : Bk (((w.alloc (.cells (sgC a b c d f wi sm ur A n k A2 n2 k2).toArray 26)).alloc (.cells (adC s6 sh sl).toArray 29)).alloc (.cells (adC d6 dh dl).toArray 29)) (w.heap.size + 1 + 1) 29 (adC d6 dh dl) := Bk.newK _ _ _ (by simp) rfl
  have be : Below w.heap.size w (((w.alloc (.cells (sgC a b c d f wi sm ur A n k A2 n2 k2).toArray 26)).alloc (.cells (adC s6 sh sl).toArray 29)).alloc (.cells (adC d6 dh dl).toArray 29)) := Below.allocS (Below.allocS (Below.allocS (Below.refl _ _) _) _) _
  replace hl0 := (((hl0.alloc (.cells (sgC a b c d f wi sm ur A n k A2 n2 k2).toArray 26)).alloc (.cells (adC s6 sh sl).toArray 29)).alloc (.cells (adC d6 dh dl).toArray 29))
  replace h2 := (((h2.alloc (.cells (sgC a b c d f wi sm ur A n k A2 n2 k2).toArray 26)).alloc (.cells (adC s6 sh sl).toArray 29)).alloc (.cells (adC d6 dh dl).toArray 29))
  have zV : w.heap.size + 3 ≤ (((w.alloc (.cells (sgC a b c d f wi sm ur A n k A2 n2 k2).toArray 26)).alloc (.cells (adC s6 sh sl).toArray 29)).alloc (.cells (adC d6 dh dl).toArray 29)).heap.size := by simp
  go_enter Try.func3, Try.ntmps3
  go_upto_region 1 with (fail)
  generalize ((w.alloc (.cells (sgC a b c d f wi sm ur A n k A2 n2 k2).toArray 26)).alloc (.cells (adC s6 sh sl).toArray 29)).alloc (.cells (adC d6 dh dl).toArray 29) = V at *
  have g8 : V.cell? ⟨w.heap.size, 8, none⟩ = some (.slice A n k) := hS.cell 8
  have g9 : V.cell? ⟨w.heap.size, 9, none⟩ = some (.slice A2 n2 k2) := hS.cell 9
  obtain ⟨dx, x1, x2⟩ := rowSG
  by_cases hn : n ≤ 200
  · have i1 : ¬ (200 : Int) < (n : Int) := by omega
    by_cases hn2 : n2 ≤ 500
    · have i2 : ¬ (500 : Int) < (n2 : Int) := by omega
      go_upto_region 3 with (fail)
      refine wp_region_lit ?_
      refine wpList_plain rfl (fun K hK => ?_); go_simp; with_reducible refine hK _ _ ?_; clear hK K
      refine wpList_ld1 (t := 26) (cs := sgC a b c d f wi sm ur A n k A2 n2 k2) 22 (.tmp 23) rfl (by rfl) rfl (hS) rfl Try.underlying22 rfl ?_
      refine wpList_plain rfl (fun K hK => ?_); go_simp; with_reducible refine hK _ _ ?_; clear hK K
      refine wpList_ld1 (t := 26) (cs := sgC a b c d f wi sm ur A n k A2 n2 k2) 22 (.tmp 25) rfl (by rfl) rfl (hS) rfl Try.underlying22 rfl ?_
      refine wpList_plain rfl (fun K hK => ?_); go_simp; with_reducible refine hK _ _ ?_; clear hK K
      refine wpList_ld1 (t := 26) (cs := sgC a b c d f wi sm ur A n k A2 n2 k2) 23 (.tmp 27) rfl (by rfl) rfl (hS) rfl Try.underlying23 rfl ?_
      refine wpList_plain rfl (fun K hK => ?_); go_simp; with_reducible refine hK _ _ ?_; clear hK K
      refine wpList_ld1 (t := 26) (cs := sgC a b c d f wi sm ur A n k A2 n2 k2) 23 (.tmp 29) rfl (by rfl) rfl (hS) rfl Try.underlying23 rfl ?_
      refine wpList_plain rfl (fun K hK => ?_); go_simp; with_reducible refine hK _ _ ?_; clear hK K
      refine wpList_ld1 (t := 26) (cs := sgC a b c d f wi sm ur A n k A2 n2 k2) 5 (.tmp 31) rfl (by rfl) rfl (hS) rfl Try.underlying5 rfl ?_
      refine wpList_plain rfl (fun K hK => ?_); go_simp; with_reducible refine hK _ _ ?_; clear hK K
      refine wpList_ld1 (t := 26) (cs := sgC a b c d f wi sm ur A n k A2 n2 k2) 22 (.tmp 33) rfl (by rfl) rfl (hS) rfl Try.underlying22 rfl ?_
      refine wpList_plain rfl (fun K hK => ?_); go_simp; with_reducible refine hK _ _ ?_; clear hK K
      refine wpList_ld1 (t := 26) (cs := sgC a b c d f wi sm ur A n k A2 n2 k2) 22 (.tmp 35) rfl (by rfl) rfl (hS) rfl Try.underlying22 rfl ?_
      refine wpList_plain rfl (fun K hK => ?_); go_simp; with_reducible refine hK _ _ ?_; clear hK K
      refine wpList_ld1 (t := 26) (cs := sgC a b c d f wi sm ur A n k A2 n2 k2) 22 (.tmp 37) rfl (by rfl) rfl (hS) rfl Try.underlying22 rfl ?_
      refine wpList_plain rfl (fun K hK => ?_); go_simp; with_reducible refine hK _ _ ?_; clear hK K
      refine wpList_ld1 (t := 26) (cs := sgC a b c d f wi sm ur A n k A2 n2 k2) 24 (.tmp 39) rfl (by rfl) rfl (hS) rfl Try.underlying24 rfl ?_
      refine wpList_plain rfl (fun K hK => ?_); go_simp; with_reducible refine hK _ _ ?_; clear hK K
      refine wpList_ld1 (t := 26) (cs := sgC a b c d f wi sm ur A n k A2 n2 k2) 24 (.tmp 41) rfl (by rfl) rfl (hS) rfl Try.underlying24 rfl ?_
      iterate 2 (refine wpList_plain rfl (fun K hK => ?_); go_simp; with_reducible refine hK _ _ ?_; clear hK K)
      refine wpList_stA (t := 31) 31 (.tmp 9) (.tmp 43) rfl rfl (sgC a b c d f wi sm ur A n k A2 n2 k2) (sgC 0 0 0 0 0 0 0 0 none 0 0 none 0 0) rfl (sgC_one _ _ _ _ _ _ _ _ _ _ _ _ _ _ ) rfl rfl (Bk.newK (k := V.heap.size) _ _ _ rfl rfl) (szSG _ _ _ _ _ _ _ _ _ _ _ _ _ _ ) ?_
      intro W3 hX g3
      simp only [Act.put, List.setIfInBounds_toArray, List.set_cons_zero, List.set_cons_succ]
      have b3 : Below V.heap.size V W3 := below_grown (Below.allocS (Below.refl _ _) _) g3 (Nat.le_refl _)
      have zW3 : V.heap.size + 1 ≤ W3.heap.size := by have := hX.lt; omega
      clear g3 g8 g9
      replace be := be.trans (b3.mono be.size)
      replace hS := hS.later b3
      replace hA := hA.later b3
      replace hB := hB.later b3
      replace hl0 := hl0.later b3
      replace h2 := h2.later b3
      clear b3
      generalize V.heap.size = gX at *
      obtain ⟨LP, sP, hP⟩ : ∃ LP sP, clampO l f most sm = (LP, sP) := ⟨_, _, rfl⟩
      have HC1 := Lib.hid (fun W (h : Rb W A n k l) (h' : Rb W A2 n2 k2 l2) => clamp_any a b c d f wi sm ur A n k A2 n2 k2 l l2 most W hf hsm hmo h h' hn (by omega))
      have HC2 := Lib.hid (fun W (h : Rb W A n k l) (h' : Rb W A2 n2 k2 l2) => refClamp_any a b c d f wi sm ur A n k A2 n2 k2 l l2 most W hf hsm hmo h h' hn)
      rw [hP] at HC1 HC2
      simp only [] at HC1 HC2
      clear hP
      have HL0 := Lib.hid (fun W (h : Below W3.heap.size W3 W) => hl0.later h)
      have HL2 := Lib.hid (fun W (h : Below W3.heap.size W3 W) => h2.later h)
      go_wp2
      refine wp_relS 8 128 rfl (by kernel_rfl) (by kernel_rfl) ?_
      apply Steps.one (MP.eq _) 1 rfl
      · intro o ho FA x hO hD K hK
        obtain rfl := Option.some.inj ho.symm
        clear ho
        have e9 := hO 9 (by kernel_rfl)
        simp only [eval_tmp, List.getElem?_toArray, List.getElem?_cons_succ, List.getElem?_cons_zero, Option.getD_some] at e9
        have ev9 := Lib.hid ((eval_tmp FA 9).trans e9)
        clear hO hD
        refine wanted_if rfl ?_
        refine wp_ldA 31 (.tmp 9) rfl (sgC a b c d f wi sm ur A n k A2 n2 k2) ev9.out (hX.later (below_plus _ _ _)) (whole_ _) x1 x2 (szSG _ _ _ _ _ _ _ _ _ _ _ _ _ _ ) ?_
        exact hK.out _ _ (Ex.refl _) rfl
      apply Steps.one (MP.eq _) 2 rfl
      · intro o ho FA x hO hD K hK
        obtain rfl := Option.some.inj ho.symm
        clear ho
        have e1 := hO 1 (by kernel_rfl)
        simp only [eval_tmp, List.getElem?_toArray, List.getElem?_cons_succ, List.getElem?_cons_zero, Option.getD_some] at e1
        have ev1 := Lib.hid ((eval_tmp FA 1).trans e1)
        clear hO hD
        go_simp
        exact hK.out _ _ (Ex.refl _) rfl
      apply Steps.one (MP.sg a b c d f wi sP ur A n k A2 n2 k2 LP l2) 3 rfl
      · intro o ho FA x hO hD K hK
        obtain rfl := Option.some.inj ho.symm
        clear ho
        have ev44 : FA.eval (.tmp 44) = _ := hD 0 44 (by kernel_rfl)
        have e44 := (eval_tmp FA 44).symm.trans ev44
        replace ev44 := Lib.hid ev44
        have ev45 : FA.eval (.tmp 45) = _ := hD 1 45 (by kernel_rfl)
        have e45 := (eval_tmp FA 45).symm.trans ev45
        replace ev45 := Lib.hid ev45
        clear hO hD
        go_simp
        refine (HC1.out _ (HL0.out _ (below_plus _ _ _)) (HL2.out _ (below_plus _ _ _))).mono ?_
        rintro e w1 ⟨A7, n7, k7, A8, n8, k8, rfl, hb7, h7, h8, o7, o8⟩
        exact hK.out _ _ (Ex.of hb7) ⟨_, _, _, _, _, _, rfl, h7, h8, o7, o8⟩
      apply Steps.one (MP.eq _) 4 rfl
      · intro o ho FA x hO hD K hK
        obtain rfl := Option.some.inj ho.symm
        clear ho
        have e4 := hO 4 (by kernel_rfl)
        simp only [eval_tmp, List.getElem?_toArray, List.getElem?_cons_succ, List.getElem?_cons_zero, Option.getD_some] at e4
        have ev4 := Lib.hid ((eval_tmp FA 4).trans e4)
        clear hO hD
        refine wanted_if rfl ?_
        refine wp_ldA 26 (.tmp 4) rfl (sgC a b c d f wi sm ur A n k A2 n2 k2) ev4.out (hS.later (below_plus _ _ _)) (whole_ _) u1 u2 (szSR _ _ _ _ _ _ _ _ _ _ _ _ _ _ ) ?_
        exact hK.out _ _ (Ex.refl _) rfl
      apply Steps.one (MP.eq _) 5 rfl
      · intro o ho FA x hO hD K hK
        obtain rfl := Option.some.inj ho.symm
        clear ho
        have e1 := hO 1 (by kernel_rfl)
        simp only [eval_tmp, List.getElem?_toArray, List.getElem?_cons_succ, List.getElem?_cons_zero, Option.getD_some] at e1
        have ev1 := Lib.hid ((eval_tmp FA 1).trans e1)
        clear hO hD
        go_simp
        exact hK.out _ _ (Ex.refl _) rfl
      apply Steps.one (MP.sg a b c d f wi sP ur A n k A2 n2 k2 LP l2) 6 rfl
      · intro o ho FA x hO hD K hK
        obtain rfl := Option.some.inj ho.symm
        clear ho
        have ev47 : FA.eval (.tmp 47) = _ := hD 3 47 (by kernel_rfl)
        have e47 := (eval_tmp FA 47).symm.trans ev47
        replace ev47 := Lib.hid ev47
        have ev48 : FA.eval (.tmp 48) = _ := hD 4 48 (by kernel_rfl)
        have e48 := (eval_tmp FA 48).symm.trans ev48
        replace ev48 := Lib.hid ev48
        clear hO hD
        go_simp
        refine (HC2.out _ (HL0.out _ (below_plus _ _ _)) (HL2.out _ (below_plus _ _ _))).mono ?_
        rintro e w1 ⟨A7, n7, k7, A8, n8, k8, rfl, hb7, h7, h8, o7, o8⟩
        exact hK.out _ _ (Ex.of hb7) ⟨_, _, _, _, _, _, rfl, h7, h8, o7, o8⟩
      apply Steps.one (MP.blk W3.heap.size 31 (sgC 0 0 0 0 0 0 0 0 none 0 0 none 0 0)) 7 rfl
      · intro o ho FA x hO hD K hK
        obtain rfl := Option.some.inj ho.symm
        clear ho
        clear hO hD
        go_simp
        refine hK.out _ _ (Ex.alloc _ _) ⟨_, rfl, ?_, ?_⟩
        · simp [size_plus]
        · refine Bk.newK _ _ _ ?_ rfl
          simp [size_plus]
      apply Steps.one (MP.blk W3.heap.size 26 (sgC 0 0 0 0 0 0 0 0 none 0 0 none 0 0)) 8 rfl
      · intro o ho FA x hO hD K hK
        obtain rfl := Option.some.inj ho.symm
        clear ho
        clear hO hD
        go_simp
        refine hK.out _ _ (Ex.alloc _ _) ⟨_, rfl, ?_, ?_⟩
        · simp [size_plus]
        · refine Bk.newK _ _ _ ?_ rfl
          simp [size_plus]
      refine Steps.fin_ (fun vs x hp => ?_)
      have p0 : vs 0 = _ := hp 0 (by omega)
      have p1 : vs 1 = _ := hp 1 (by omega)
      have p2 := hp 2 (by omega)
      have p3 : vs 3 = _ := hp 3 (by omega)
      have p4 : vs 4 = _ := hp 4 (by omega)
      have p5 := hp 5 (by omega)
      have p6 := hp 6 (by omega)
      have p7 := hp 7 (by omega)
      clear hp
      simp only [List.take_succ_cons, List.take_zero, List.drop_succ_cons, List.drop_zero, putAll, Nat.zero_add, Nat.reduceAdd, Act.put, List.setIfInBounds_toArray, List.set_cons_zero, List.set_cons_succ, p0, p1, p3, p4]
      clear p0 p1 p3 p4
      generalize vs 2 = y2 at *
      generalize vs 5 = y5 at *
      generalize vs 6 = y6 at *
      generalize vs 7 = y7 at *
      clear vs
      obtain ⟨A3, n3, q3, A4, n4, k4, rfl, r3, r4, o3, o4⟩ := p2
      obtain ⟨A5, n5, k5, A6, n6, k6, rfl, r5, r6, o5, o6⟩ := p5
      obtain ⟨gM, rfl, zM, hM⟩ := p6
      obtain ⟨gN, rfl, zN, hN⟩ := p7
      clear HC1 HC2
      have hMN : gM ≠ gN := by
        intro e
        subst e
        unfold Bk at hM hN
        rw [hM] at hN
        injection hN with hN
        injection hN with e1 e2
        exact absurd e2 (by decide)
      have b4 := below_plus W3 x.bs x.d
      replace be := belowP be x.bs x.d
      replace hS := hS.later b4
      replace hA := hA.later b4
      replace hB := hB.later b4
      replace hX := hX.later b4
      generalize plus W3 x.bs x.d = W4 at *
      refine wpList_stA (t := 31) 31 (.tmp 10) (.tmp 46) rfl rfl (sgC a b c d f wi sP ur A3 n3 q3 A4 n4 k4) (sgC 0 0 0 0 0 0 0 0 none 0 0 none 0 0) rfl (sgC_one _ _ _ _ _ _ _ _ _ _ _ _ _ _ ) rfl rfl hM (szSG _ _ _ _ _ _ _ _ _ _ _ _ _ _ ) ?_
      intro W5 hM2 g5
      obtain ⟨r3, o3⟩ := oldOb_keep hl0 r3 o3 zM  hM (by decide) g5
      obtain ⟨r4, o4⟩ := oldOb_keep h2 r4 o4 zM  hM (by decide) g5
      obtain ⟨r5, o5⟩ := oldOb_keep hl0 r5 o5 zM  hM (by decide) g5
      obtain ⟨r6, o6⟩ := oldOb_keep h2 r6 o6 zM  hM (by decide) g5
      refine wpList_stA (t := 26) 26 (.tmp 11) (.tmp 49) rfl rfl (sgC a b c d f wi sP ur A5 n5 k5 A6 n6 k6) (sgC 0 0 0 0 0 0 0 0 none 0 0 none 0 0) rfl (sgC_one _ _ _ _ _ _ _ _ _ _ _ _ _ _ ) rfl rfl (hN.grown g5 (by simp; omega)) (szSR _ _ _ _ _ _ _ _ _ _ _ _ _ _ ) ?_
      intro W6 hN2 g6
      obtain ⟨r3, o3⟩ := oldOb_keep hl0 r3 o3 zN  (hN.grown g5 (by simp; omega)) (by decide) g6
      obtain ⟨r4, o4⟩ := oldOb_keep h2 r4 o4 zN  (hN.grown g5 (by simp; omega)) (by decide) g6
      obtain ⟨r5, o5⟩ := oldOb_keep hl0 r5 o5 zN  (hN.grown g5 (by simp; omega)) (by decide) g6
      obtain ⟨r6, o6⟩ := oldOb_keep h2 r6 o6 zN  (hN.grown g5 (by simp; omega)) (by decide) g6
      have hbW : Below W3.heap.size W3 W6 := below_grown (below_grown b4 g5 zM) g6 zN
      replace be := below_grown (below_grown be g5 (by omega)) g6 (by omega)
      replace hM := hM2.grown g6 (by simp; omega)
      replace hN := hN2
      replace hS := (hS.grown g5 (by simp; omega)).grown g6 (by simp; omega)
      replace hA := (hA.grown g5 (by simp; omega)).grown g6 (by simp; omega)
      replace hB := (hB.grown g5 (by simp; omega)).grown g6 (by simp; omega)
      replace hX := (hX.grown g5 (by simp; omega)).grown g6 (by simp; omega)
      replace hl0 := hl0.later hbW
      replace h2 := h2.later hbW
      clear HL0 HL2 hM2 hN2 g5 g6 b4 hbW o3 o4 o5 o6
      have e1 := run_str bt Try.underlying9 r3
      have e2 := run_str bt Try.underlying9 r4
      have e3 := run_str bt Try.underlying9 r5
      have e4 := run_str bt Try.underlying9 h2
      go_upto_region 5 with (fail)
      refine wp_region_lit ?_
      refine wpList_plain rfl (fun K hK => ?_); go_simp; with_reducible refine hK _ _ ?_; clear hK K
      refine wpList_ld1 (t := 31) (cs := sgC a b c d f wi sP ur A3 n3 q3 A4 n4 k4) 24 (.tmp 50) rfl (by rfl) rfl (hM) rfl Try.underlying24 rfl ?_
      iterate 2 (refine wpList_plain rfl (fun K hK => ?_); go_simp; with_reducible refine hK _ _ ?_; clear hK K)
      refine wpList_ld1 (t := 26) (cs := sgC a b c d f wi sP ur A5 n5 k5 A6 n6 k6) 24 (.tmp 53) rfl (by rfl) rfl (hN) rfl Try.underlying24 rfl ?_
      iterate 3 (refine wpList_plain rfl (fun K hK => ?_); go_simp; with_reducible refine hK _ _ ?_; clear hK K)
      refine wpList_step (fun K hK => ?_); go_simp; with_reducible refine hK _ _ ?_; clear hK K
      refine wpList_ld1 (t := 31) (cs := sgC a b c d f wi sP ur A3 n3 q3 A4 n4 k4) 22 (.tmp 58) rfl (by go_simp) rfl (hM) rfl Try.underlying22 rfl ?_
      refine wpList_step (fun K hK => ?_); go_simp; with_reducible refine hK _ _ ?_; clear hK K
      refine wpList_ld1 (t := 26) (cs := sgC a b c d f wi sP ur A5 n5 k5 A6 n6 k6) 22 (.tmp 60) rfl (by go_simp) rfl (hN) rfl Try.underlying22 rfl ?_
      refine wpList_step (fun K hK => ?_); go_simp; with_reducible refine hK _ _ ?_; clear hK K
      iterate 2 (refine wpList_plain rfl (fun K hK => ?_); go_simp; with_reducible refine hK _ _ ?_; clear hK K)
      refine wpList_step (fun K hK => ?_); go_simp; with_reducible refine hK _ _ ?_; clear hK K
      refine wpList_ld1 (t := 31) (cs := sgC a b c d f wi sP ur A3 n3 q3 A4 n4 k4) 5 (.tmp 65) rfl (by go_simp) rfl (hM) rfl Try.underlying5 rfl ?_
      refine wpList_step (fun K hK => ?_); go_simp; with_reducible refine hK _ _ ?_; clear hK K
      refine wpList_ld1 (t := 31) (cs := sgC a b c d f wi sm ur A n k A2 n2 k2) 5 (.tmp 67) rfl (by go_simp) rfl (hX) rfl Try.underlying5 rfl ?_
      refine wpList_step (fun K hK => ?_); go_simp; with_reducible refine hK _ _ ?_; clear hK K
      iterate 2 (refine wpList_plain rfl (fun K hK => ?_); go_simp; with_reducible refine hK _ _ ?_; clear hK K)
      refine wpList_step (fun K hK => ?_); go_simp; with_reducible refine hK _ _ ?_; clear hK K
      refine wpList_ld1 (t := 31) (cs := sgC a b c d f wi sP ur A3 n3 q3 A4 n4 k4) 22 (.tmp 72) rfl (by go_simp) rfl (hM) rfl Try.underlying22 rfl ?_
      refine wpList_step (fun K hK => ?_); go_simp; with_reducible refine hK _ _ ?_; clear hK K
      refine wpList_ld1 (t := 31) (cs := sgC a b c d f wi sm ur A n k A2 n2 k2) 22 (.tmp 74) rfl (by go_simp) rfl (hX) rfl Try.underlying22 rfl ?_
      refine wpList_step (fun K hK => ?_); go_simp; with_reducible refine hK _ _ ?_; clear hK K
      iterate 2 (refine wpList_plain rfl (fun K hK => ?_); go_simp; with_reducible refine hK _ _ ?_; clear hK K)
      refine wpList_step (fun K hK => ?_); go_simp; with_reducible refine hK _ _ ?_; clear hK K
      refine wpList_ld1 (t := 31) (cs := sgC a b c d f wi sP ur A3 n3 q3 A4 n4 k4) 23 (.tmp 79) rfl (by go_simp) rfl (hM) rfl Try.underlying23 rfl ?_
      refine wpList_step (fun K hK => ?_); go_simp; with_reducible refine hK _ _ ?_; clear hK K
      refine wpList_ld1 (t := 31) (cs := sgC a b c d f wi sm ur A n k A2 n2 k2) 23 (.tmp 81) rfl (by go_simp) rfl (hX) rfl Try.underlying23 rfl ?_
      refine wpList_step (fun K hK => ?_); go_simp; with_reducible refine hK _ _ ?_; clear hK K
      iterate 2 (refine wpList_plain rfl (fun K hK => ?_); go_simp; with_reducible refine hK _ _ ?_; clear hK K)
      refine wpList_step (fun K hK => ?_); go_simp; with_reducible refine hK _ _ ?_; clear hK K
      refine wpList_ld1 (t := 31) (cs := sgC a b c d f wi sP ur A3 n3 q3 A4 n4 k4) 24 (.tmp 86) rfl (by go_simp) rfl (hM) rfl Try.underlying24 rfl ?_
      iterate 2 (refine wpList_step (fun K hK => ?_); go_simp; with_reducible refine hK _ _ ?_; clear hK K)
      refine wpList_ld1 (t := 31) (cs := sgC a b c d f wi sm ur A n k A2 n2 k2) 24 (.tmp 89) rfl (by go_simp) rfl (hX) rfl Try.underlying24 rfl ?_
      iterate 2 (refine wpList_step (fun K hK => ?_); go_simp; with_reducible refine hK _ _ ?_; clear hK K)
      refine wpList_plain rfl (fun K hK => ?_); go_simp; with_reducible refine hK _ _ ?_; clear hK K
      clear e1 e2 e3 e4 hM hN r3 r4 r5 r6
      go_upto_region 7 with (fail)
      have HR1 := Lib.hid (fun W => refAdrRight s6 sh sl W k1 k2')
      have HR2 := Lib.hid (fun W => refAdrRight d6 dh dl W k3 k4')
      generalize adrR s6 sh sl = q1 at *
      generalize adrR d6 dh dl = q2 at *
      by_cases hr : n ≤ 40 ∧ n % 4 = 0
      · have HTR := Lib.hid (fun W => refTcpRight_yes a b c d f wi sm ur A n k A2 n2 k2 W hr.1 hr.2 (by omega))
        cases q1 with
        | false =>
          refine wp_region_lit ?_
          refine wpList_ldA (t := 26) 26 (.tmp 4) rfl rfl (sgC a b c d f wi sm ur A n k A2 n2 k2) rfl (hS) (whole_ _) u1 u2 (szSR _ _ _ _ _ _ _ _ _ _ _ _ _ _ ) ?_
          refine wpList_plain rfl (fun K hK => ?_)
          go_simp
          refine (HTR.out _).mono ?_
          rintro e w1 ⟨bs7, d7, rfl, rfl⟩
          with_reducible refine hK _ _ ?_
          clear hK K
          iterate 2 (refine wpList_plain rfl (fun K hK => ?_); go_simp; with_reducible refine hK _ _ ?_; clear hK K)
          refine wpList_ldG (t := 29) 29 (.tmp 6) rfl (by go_simp) (adC s6 sh sl) rfl ((hA.later (below_plus _ _ _))) (whole_ _) y1 y2 (szAd _ _ _) ?_
          simp only [Act.put, List.setIfInBounds_toArray, List.set_cons_zero, List.set_cons_succ]
          refine wpList_step (fun K hK => ?_)
          go_simp
          refine (HR1.out _).mono ?_
          rintro e w1 ⟨bs8, d8, rfl, rfl⟩
          with_reducible refine hK _ _ ?_
          clear hK K
          refine wpList_step (fun K hK => ?_); go_simp; with_reducible refine hK _ _ ?_; clear hK K
          iterate 2 (refine wpList_plain rfl (fun K hK => ?_); go_simp; with_reducible refine hK _ _ ?_; clear hK K)
          (with_reducible refine wpList_skip ?_ ?_); (· first | (go_simp; done) | (go_simp; intro h; cases h)); simp only [Act.put, List.setIfInBounds_toArray, List.set_cons_zero, List.set_cons_succ]
          iterate 2 ((with_reducible refine wpList_skip ?_ ?_); (· first | (go_simp; done) | (go_simp; intro h; cases h)); simp only [Act.put, List.setIfInBounds_toArray, List.set_cons_zero, List.set_cons_succ])
          iterate 2 (refine wpList_plain rfl (fun K hK => ?_); go_simp; with_reducible refine hK _ _ ?_; clear hK K)
          iterate 5 ((with_reducible refine wpList_skip ?_ ?_); (· first | (go_simp; done) | (go_simp; intro h; cases h)); simp only [Act.put, List.setIfInBounds_toArray, List.set_cons_zero, List.set_cons_succ])
          refine wpList_plain rfl (fun K hK => ?_); go_simp; with_reducible refine hK _ _ ?_; clear hK K
          go_wp2_with (go_at_call 7; refine (awake44 _).mono ?_; rintro e w1 ⟨bs3, d3, rfl, rfl⟩)
          go_ret
          exact RetV.mk (belowP (belowP (belowP be bs7 d7) bs8 d8) bs3 d3)
        | true =>
          cases q2 with
          | false =>
            refine wp_region_lit ?_
            refine wpList_ldA (t := 26) 26 (.tmp 4) rfl rfl (sgC a b c d f wi sm ur A n k A2 n2 k2) rfl (hS) (whole_ _) u1 u2 (szSR _ _ _ _ _ _ _ _ _ _ _ _ _ _ ) ?_
            refine wpList_plain rfl (fun K hK => ?_)
            go_simp
            refine (HTR.out _).mono ?_
            rintro e w1 ⟨bs7, d7, rfl, rfl⟩
            with_reducible refine hK _ _ ?_
            clear hK K
            iterate 2 (refine wpList_plain rfl (fun K hK => ?_); go_simp; with_reducible refine hK _ _ ?_; clear hK K)
            refine wpList_ldG (t := 29) 29 (.tmp 6) rfl (by go_simp) (adC s6 sh sl) rfl ((hA.later (below_plus _ _ _))) (whole_ _) y1 y2 (szAd _ _ _) ?_
            simp only [Act.put, List.setIfInBounds_toArray, List.set_cons_zero, List.set_cons_succ]
            refine wpList_step (fun K hK => ?_)
            go_simp
            refine (HR1.out _).mono ?_
            rintro e w1 ⟨bs8, d8, rfl, rfl⟩
            with_reducible refine hK _ _ ?_
            clear hK K
            refine wpList_step (fun K hK => ?_); go_simp; with_reducible refine hK _ _ ?_; clear hK K
            iterate 2 (refine wpList_plain rfl (fun K hK => ?_); go_simp; with_reducible refine hK _ _ ?_; clear hK K)
            refine wpList_ldG (t := 29) 29 (.tmp 7) rfl (by go_simp) (adC d6 dh dl) rfl (((hB.later (below_plus _ _ _)).later (below_plus _ _ _))) (whole_ _) y1 y2 (szAd _ _ _) ?_
            simp only [Act.put, List.setIfInBounds_toArray, List.set_cons_zero, List.set_cons_succ]
            refine wpList_step (fun K hK => ?_)
            go_simp
            refine (HR2.out _).mono ?_
            rintro e w1 ⟨bs9, d9, rfl, rfl⟩
            with_reducible refine hK _ _ ?_
            clear hK K
            refine wpList_step (fun K hK => ?_); go_simp; with_reducible refine hK _ _ ?_; clear hK K
            iterate 2 (refine wpList_plain rfl (fun K hK => ?_); go_simp; with_reducible refine hK _ _ ?_; clear hK K)
            iterate 5 ((with_reducible refine wpList_skip ?_ ?_); (· first | (go_simp; done) | (go_simp; intro h; cases h)); simp only [Act.put, List.setIfInBounds_toArray, List.set_cons_zero, List.set_cons_succ])
            refine wpList_plain rfl (fun K hK => ?_); go_simp; with_reducible refine hK _ _ ?_; clear hK K
            go_wp2_with (go_at_call 7; refine (awake44 _).mono ?_; rintro e w1 ⟨bs3, d3, rfl, rfl⟩)
            go_ret
            exact RetV.mk (belowP (belowP (belowP (belowP be bs7 d7) bs8 d8) bs9 d9) bs3 d3)
          | true =>
            by_cases h6 : s6 = d6
            · have h6b : (s6 == d6) = true := by simp [h6]
              clear h6
              refine wp_region_lit ?_
              refine wpList_ldA (t := 26) 26 (.tmp 4) rfl rfl (sgC a b c d f wi sm ur A n k A2 n2 k2) rfl (hS) (whole_ _) u1 u2 (szSR _ _ _ _ _ _ _ _ _ _ _ _ _ _ ) ?_
              refine wpList_plain rfl (fun K hK => ?_)
              go_simp
              refine (HTR.out _).mono ?_
              rintro e w1 ⟨bs7, d7, rfl, rfl⟩
              with_reducible refine hK _ _ ?_
              clear hK K
              iterate 2 (refine wpList_plain rfl (fun K hK => ?_); go_simp; with_reducible refine hK _ _ ?_; clear hK K)
              refine wpList_ldG (t := 29) 29 (.tmp 6) rfl (by go_simp) (adC s6 sh sl) rfl ((hA.later (below_plus _ _ _))) (whole_ _) y1 y2 (szAd _ _ _) ?_
              simp only [Act.put, List.setIfInBounds_toArray, List.set_cons_zero, List.set_cons_succ]
              refine wpList_step (fun K hK => ?_)
              go_simp
              refine (HR1.out _).mono ?_
              rintro e w1 ⟨bs8, d8, rfl, rfl⟩
              with_reducible refine hK _ _ ?_
              clear hK K
              refine wpList_step (fun K hK => ?_); go_simp; with_reducible refine hK _ _ ?_; clear hK K
              iterate 2 (refine wpList_plain rfl (fun K hK => ?_); go_simp; with_reducible refine hK _ _ ?_; clear hK K)
              refine wpList_ldG (t := 29) 29 (.tmp 7) rfl (by go_simp) (adC d6 dh dl) rfl (((hB.later (below_plus _ _ _)).later (below_plus _ _ _))) (whole_ _) y1 y2 (szAd _ _ _) ?_
              simp only [Act.put, List.setIfInBounds_toArray, List.set_cons_zero, List.set_cons_succ]
              refine wpList_step (fun K hK => ?_)
              go_simp
              refine (HR2.out _).mono ?_
              rintro e w1 ⟨bs9, d9, rfl, rfl⟩
              with_reducible refine hK _ _ ?_
              clear hK K
              refine wpList_step (fun K hK => ?_); go_simp; with_reducible refine hK _ _ ?_; clear hK K
              iterate 2 (refine wpList_plain rfl (fun K hK => ?_); go_simp; with_reducible refine hK _ _ ?_; clear hK K)
              refine wpList_step (fun K hK => ?_); go_simp; with_reducible refine hK _ _ ?_; clear hK K
              refine wpList_ld1 (t := 29) (cs := adC s6 sh sl) 4 (.tmp 108) rfl (by go_simp) rfl ((((hA.later (below_plus _ _ _)).later (below_plus _ _ _)).later (below_plus _ _ _))) rfl Try.underlying4 rfl ?_
              refine wpList_step (fun K hK => ?_); go_simp; with_reducible refine hK _ _ ?_; clear hK K
              refine wpList_ld1 (t := 29) (cs := adC d6 dh dl) 4 (.tmp 110) rfl (by go_simp) rfl ((((hB.later (below_plus _ _ _)).later (below_plus _ _ _)).later (below_plus _ _ _))) rfl Try.underlying4 rfl ?_
              refine wpList_step (fun K hK => ?_); go_simp; with_reducible refine hK _ _ ?_; clear hK K
              refine wpList_plain rfl (fun K hK => ?_); go_simp; with_reducible refine hK _ _ ?_; clear hK K
              replace be := belowP (belowP (belowP be bs7 d7) bs8 d8) bs9 d9
              have bZ := ((below_plus W6 bs7 d7).trans ((below_plus _ bs8 d8).mono (below_plus W6 bs7 d7).size)).trans ((below_plus _ bs9 d9).mono ((below_plus W6 bs7 d7).trans ((below_plus _ bs8 d8).mono (below_plus W6 bs7 d7).size)).size)
              replace hA := hA.later bZ
              replace hB := hB.later bZ
              replace hX := hX.later bZ
              replace hl0 := hl0.later bZ
              replace h2 := h2.later bZ
              clear bZ hS HTR HR1 HR2
              generalize (plus (plus (plus W6 bs7 d7) bs8 d8) bs9 d9) = W7 at *
              go_upto_region 9 with (fail)
              clear h6b
              have hlen : l.length = n := HLN.out
              have hlen2 : l2.length = n2 := HLN2.out
              have HSU := Lib.hid (fun W (h : Rb W A n k l) (h' : Rb W A2 n2 k2 l2) => segSummed a b c d f wi sm ur A n k A2 n2 k2 s6 sh sl d6 dh dl l l2 W ha hb hc hd hf hwi hur k1 k2' k3 k4' h h' hr.1 hr.2 (by omega))
              obtain ⟨L', s', hP⟩ : ∃ L' s', clampO l f most (sumOfT s6 sh sl d6 dh dl a b c d f wi ur l l2) = (L', s') := ⟨_, _, rfl⟩
              have hfine := clamp_fine s6 sh sl d6 dh dl a b c d f wi ur most l l2 (by omega) (by omega) hmo L' s' hP
              have hU : sumOfT s6 sh sl d6 dh dl a b c d f wi ur l l2 < 65536 := by unfold sumOfT; omega
              have hL' : L'.length = n := by have := clampO_len l f most (sumOfT s6 sh sl d6 dh dl a b c d f wi ur l l2); rw [hP] at this; exact this.trans hlen
              have hs' : s' < 65536 := by have := clampO_sm l f most _ hU; rw [hP] at this; exact this
              rw [hL'] at hfine
              generalize sumOfT s6 sh sl d6 dh dl a b c d f wi ur l l2 = sU at *
              have HCL := Lib.hid (fun A n k A2 n2 k2 W (h : Rb W A n k l) (h' : Rb W A2 n2 k2 l2) => clamp_any a b c d f wi sU ur A n k A2 n2 k2 l l2 most W hf hU hmo h h' (by have := h.1; omega) (by have := h'.1; omega))
              rw [hP] at HCL
              simp only [] at HCL
              clear hP
              have HBY := Lib.hid (fun A7 n7 k7 A8 n8 k8 W (h : Rb W A7 n7 k7 L') (h' : Rb W A8 n8 k8 l2) => (show Calls Try.prog 14 #[.agg (sgC a b c d f wi s' ur A7 n7 k7 A8 n8 k8).toArray] W (RetB W (tcpB a b c d (80 + n / 4 * 16) f wi s' ur L' l2)) from by
                have e : n7 = n := by have := h.1; omega
                subst e
                exact tcpBytes_yes a b c d f wi s' ur A7 n7 k7 A8 n8 k8 L' l2 W ha hb hc hd hf hwi hs' hur h h' hr.1 hr.2 (by have := h'.1; omega)))
              have hTl : (tcpB a b c d (80 + n / 4 * 16) f wi s' ur L' l2).length ≤ 65535 := by rw [tcpB_len]; omega
              generalize tcpB a b c d (80 + n / 4 * 16) f wi s' ur L' l2 = T at *
              have HFI := Lib.hid (fun A7 n7 k7 W (h : Rb W A7 n7 k7 T) => (show Calls Try.prog 12 #[.slice A7 n7 k7, .agg (adC s6 sh sl).toArray, .agg (adC d6 dh dl).toArray] W (RetV W (.bool true)) from by
                have h7 := tcpFine A7 n7 k7 s6 sh sl d6 dh dl T W k1 k2' k3 k4' h (by have := h.1; omega)
                rw [hfine] at h7
                exact h7))
              have HL0 := Lib.hid (fun W (h : Below W7.heap.size W7 W) => hl0.later h)
              have HL2 := Lib.hid (fun W (h : Below W7.heap.size W7 W) => h2.later h)
              clear hfine hU hs' hL' hTl hlen hlen2 hr
              go_wp2
              refine wp_relS 14 128 rfl (by kernel_rfl) (by kernel_rfl) ?_
              apply Steps.one (MP.eq _) 1 rfl
              · intro o ho FA x hO hD K hK
                obtain rfl := Option.some.inj ho.symm
                clear ho
                have e9 := hO 9 (by kernel_rfl)
                simp only [eval_tmp, List.getElem?_toArray, List.getElem?_cons_succ, List.getElem?_cons_zero, Option.getD_some] at e9
                have ev9 := Lib.hid ((eval_tmp FA 9).trans e9)
                clear hO hD
                refine wanted_if rfl ?_
                refine wp_ldA 31 (.tmp 9) rfl (sgC a b c d f wi sm ur A n k A2 n2 k2) ev9.out (hX.later (below_plus _ _ _)) (whole_ _) x1 x2 (szSG _ _ _ _ _ _ _ _ _ _ _ _ _ _ ) ?_
                exact hK.out _ _ (Ex.refl _) rfl
              apply Steps.one (MP.eq _) 2 rfl
              · intro o ho FA x hO hD K hK
                obtain rfl := Option.some.inj ho.symm
                clear ho
                have e6 := hO 6 (by kernel_rfl)
                simp only [eval_tmp, List.getElem?_toArray, List.getElem?_cons_succ, List.getElem?_cons_zero, Option.getD_some] at e6
                have ev6 := Lib.hid ((eval_tmp FA 6).trans e6)
                clear hO hD
                refine wanted_if rfl ?_
                refine wp_ldA 29 (.tmp 6) rfl (adC s6 sh sl) ev6.out (hA.later (below_plus _ _ _)) (whole_ _) y1 y2 (szAd _ _ _) ?_
                exact hK.out _ _ (Ex.refl _) rfl
              apply Steps.one (MP.eq _) 3 rfl
              · intro o ho FA x hO hD K hK
                obtain rfl := Option.some.inj ho.symm
                clear ho
                have e7 := hO 7 (by kernel_rfl)
                simp only [eval_tmp, List.getElem?_toArray, List.getElem?_cons_succ, List.getElem?_cons_zero, Option.getD_some] at e7
                have ev7 := Lib.hid ((eval_tmp FA 7).trans e7)
                clear hO hD
                refine wanted_if rfl ?_
                refine wp_ldA 29 (.tmp 7) rfl (adC d6 dh dl) ev7.out (hB.later (below_plus _ _ _)) (whole_ _) y1 y2 (szAd _ _ _) ?_
                exact hK.out _ _ (Ex.refl _) rfl
              apply Steps.one (MP.sgR a b c d f wi sU ur l l2) 4 rfl
              · intro o ho FA x hO hD K hK
                obtain rfl := Option.some.inj ho.symm
                clear ho
                have ev115 : FA.eval (.tmp 115) = _ := hD 0 115 (by kernel_rfl)
                have e115 := (eval_tmp FA 115).symm.trans ev115
                replace ev115 := Lib.hid ev115
                have ev116 : FA.eval (.tmp 116) = _ := hD 1 116 (by kernel_rfl)
                have e116 := (eval_tmp FA 116).symm.trans ev116
                replace ev116 := Lib.hid ev116
                have ev117 : FA.eval (.tmp 117) = _ := hD 2 117 (by kernel_rfl)
                have e117 := (eval_tmp FA 117).symm.trans ev117
                replace ev117 := Lib.hid ev117
                clear hO hD
                go_simp
                refine (HSU.out _ (HL0.out _ (below_plus _ _ _)) (HL2.out _ (below_plus _ _ _))).mono ?_
                rintro e w1 ⟨A7, n7, k7, A8, n8, k8, rfl, hb7, h7, h8⟩
                exact hK.out _ _ (Ex.of hb7) ⟨_, _, _, _, _, _, rfl, h7.rb, h8.rb⟩
              apply Steps.one (MP.eq _) 5 rfl
              · intro o ho FA x hO hD K hK
                obtain rfl := Option.some.inj ho.symm
                clear ho
                have e1 := hO 1 (by kernel_rfl)
                simp only [eval_tmp, List.getElem?_toArray, List.getElem?_cons_succ, List.getElem?_cons_zero, Option.getD_some] at e1
                have ev1 := Lib.hid ((eval_tmp FA 1).trans e1)
                clear hO hD
                go_simp
                exact hK.out _ _ (Ex.refl _) rfl
              apply Steps.one (MP.sgR a b c d f wi s' ur L' l2) 6 rfl
              · intro o ho FA x hO hD K hK
                obtain rfl := Option.some.inj ho.symm
                clear ho
                have f118 := hD 3 118 (by kernel_rfl)
                generalize eu118 : FA.eval (.tmp 118) = u118 at f118
                have e118 := (eval_tmp FA 118).symm.trans eu118
                have ev118 := Lib.hid eu118
                clear eu118
                have ev119 : FA.eval (.tmp 119) = _ := hD 4 119 (by kernel_rfl)
                have e119 := (eval_tmp FA 119).symm.trans ev119
                replace ev119 := Lib.hid ev119
                clear hO hD
                obtain ⟨A7, n7, k7, A8, n8, k8, rfl, h7, h8⟩ := f118
                go_simp
                refine (HCL.out _ _ _ _ _ _ _ h7 h8).mono ?_
                rintro e w1 ⟨A9, n9, k9, A10, n10, k10, rfl, hb9, h9, h10, -, -⟩
                exact hK.out _ _ (Ex.of hb9) ⟨_, _, _, _, _, _, rfl, h9, h10⟩
              apply Steps.one (MP.rb T) 7 rfl
              · intro o ho FA x hO hD K hK
                obtain rfl := Option.some.inj ho.symm
                clear ho
                have f120 := hD 5 120 (by kernel_rfl)
                generalize eu120 : FA.eval (.tmp 120) = u120 at f120
                have e120 := (eval_tmp FA 120).symm.trans eu120
                have ev120 := Lib.hid eu120
                clear eu120
                clear hO hD
                obtain ⟨A7, n7, k7, A8, n8, k8, rfl, h7, h8⟩ := f120
                go_simp
                refine (HBY.out _ _ _ _ _ _ _ h7 h8).mono ?_
                rintro e w1 ⟨A9, n9, k9, bs9, d9, rfl, rfl, h9⟩
                exact hK.out _ _ (Ex.plus_ _ _ _) ⟨_, _, _, rfl, h9.rb⟩
              apply Steps.one (MP.eq _) 8 rfl
              · intro o ho FA x hO hD K hK
                obtain rfl := Option.some.inj ho.symm
                clear ho
                have e6 := hO 6 (by kernel_rfl)
                simp only [eval_tmp, List.getElem?_toArray, List.getElem?_cons_succ, List.getElem?_cons_zero, Option.getD_some] at e6
                have ev6 := Lib.hid ((eval_tmp FA 6).trans e6)
                clear hO hD
                refine wanted_if rfl ?_
                refine wp_ldA 29 (.tmp 6) rfl (adC s6 sh sl) ev6.out (hA.later (below_plus _ _ _)) (whole_ _) y1 y2 (szAd _ _ _) ?_
                exact hK.out _ _ (Ex.refl _) rfl
              apply Steps.one (MP.eq _) 9 rfl
              · intro o ho FA x hO hD K hK
                obtain rfl := Option.some.inj ho.symm
                clear ho
                have e7 := hO 7 (by kernel_rfl)
                simp only [eval_tmp, List.getElem?_toArray, List.getElem?_cons_succ, List.getElem?_cons_zero, Option.getD_some] at e7
                have ev7 := Lib.hid ((eval_tmp FA 7).trans e7)
                clear hO hD
                refine wanted_if rfl ?_
                refine wp_ldA 29 (.tmp 7) rfl (adC d6 dh dl) ev7.out (hB.later (below_plus _ _ _)) (whole_ _) y1 y2 (szAd _ _ _) ?_
                exact hK.out _ _ (Ex.refl _) rfl
              apply Steps.one (MP.eq (.bool true)) 10 rfl
              · intro o ho FA x hO hD K hK
                obtain rfl := Option.some.inj ho.symm
                clear ho
                have f121 := hD 6 121 (by kernel_rfl)
                generalize eu121 : FA.eval (.tmp 121) = u121 at f121
                have e121 := (eval_tmp FA 121).symm.trans eu121
                have ev121 := Lib.hid eu121
                clear eu121
                have ev122 : FA.eval (.tmp 122) = _ := hD 7 122 (by kernel_rfl)
                have e122 := (eval_tmp FA 122).symm.trans ev122
                replace ev122 := Lib.hid ev122
                have ev123 : FA.eval (.tmp 123) = _ := hD 8 123 (by kernel_rfl)
                have e123 := (eval_tmp FA 123).symm.trans ev123
                replace ev123 := Lib.hid ev123
                clear hO hD
                obtain ⟨A7, n7, k7, rfl, h7⟩ := f121
                go_simp
                refine (HFI.out _ _ _ _ h7).mono ?_
                rintro e w1 ⟨bs9, d9, rfl, rfl⟩
                exact hK.out _ _ (Ex.plus_ _ _ _) rfl
              apply Steps.one (MP.eq _) 11 rfl
              · intro o ho FA x hO hD K hK
                obtain rfl := Option.some.inj ho.symm
                clear ho
                have ev124 : FA.eval (.tmp 124) = _ := hD 9 124 (by kernel_rfl)
                have e124 := (eval_tmp FA 124).symm.trans ev124
                replace ev124 := Lib.hid ev124
                clear hO hD
                go_simp
                exact hK.out _ _ (Ex.refl _) rfl
              apply Steps.one (MP.eq _) 12 rfl
              · intro o ho FA x hO hD K hK
                obtain rfl := Option.some.inj ho.symm
                clear ho
                have ev125 : FA.eval (.tmp 125) = _ := hD 10 125 (by kernel_rfl)
                have e125 := (eval_tmp FA 125).symm.trans ev125
                replace ev125 := Lib.hid ev125
                first | have ge125 := slot_of e125 | have ge125 := slot_un e125
                clear hO hD
                refine wanted_ifG (by go_simp) ?_
                go_simp
                refine (awake44 _).mono ?_
                rintro e w1 ⟨bs9, d9, rfl, rfl⟩
                exact hK.out _ _ (Ex.plus_ _ _ _) rfl
              apply Steps.one (MP.eq _) 13 rfl
              · intro o ho FA x hO hD K hK
                obtain rfl := Option.some.inj ho.symm
                clear ho
                have ev125 : FA.eval (.tmp 125) = _ := hD 10 125 (by kernel_rfl)
                have e125 := (eval_tmp FA 125).symm.trans ev125
                replace ev125 := Lib.hid ev125
                have ev126 : FA.eval (.tmp 126) = _ := hD 11 126 (by kernel_rfl)
                have e126 := (eval_tmp FA 126).symm.trans ev126
                replace ev126 := Lib.hid ev126
                clear hO hD
                go_simp
                exact hK.out _ _ (Ex.refl _) rfl
              apply Steps.one (MP.eq _) 14 rfl
              · intro o ho FA x hO hD K hK
                obtain rfl := Option.some.inj ho.symm
                clear ho
                have ev127 : FA.eval (.tmp 127) = _ := hD 12 127 (by kernel_rfl)
                have e127 := (eval_tmp FA 127).symm.trans ev127
                replace ev127 := Lib.hid ev127
                clear hO hD
                go_simp
                exact hK.out _ _ (Ex.refl _) rfl
              refine Steps.fin_ (fun vs x hp => ?_)
              have p0 : vs 0 = _ := hp 0 (by omega)
              have p1 : vs 1 = _ := hp 1 (by omega)
              have p2 : vs 2 = _ := hp 2 (by omega)
              have p3 := hp 3 (by omega)
              have p4 : vs 4 = _ := hp 4 (by omega)
              have p5 := hp 5 (by omega)
              have p6 := hp 6 (by omega)
              have p7 : vs 7 = _ := hp 7 (by omega)
              have p8 : vs 8 = _ := hp 8 (by omega)
              have p9 : vs 9 = _ := hp 9 (by omega)
              have p10 : vs 10 = _ := hp 10 (by omega)
              have p11 : vs 11 = _ := hp 11 (by omega)
              have p12 : vs 12 = _ := hp 12 (by omega)
              have p13 : vs 13 = _ := hp 13 (by omega)
              clear hp
              simp only [List.take_succ_cons, List.take_zero, List.drop_succ_cons, List.drop_zero, putAll, Nat.zero_add, Nat.reduceAdd, Act.put, List.setIfInBounds_toArray, List.set_cons_zero, List.set_cons_succ, p0, p1, p2, p4, p7, p8, p9, p10, p11, p12, p13]
              clear p0 p1 p2 p4 p7 p8 p9 p10 p11 p12 p13
              generalize vs 3 = y3 at *
              generalize vs 5 = y5 at *
              generalize vs 6 = y6 at *
              clear vs
              go_wp2
              go_ret
              exact RetV.mk (belowP be x.bs x.d)
            · have h6b : (s6 == d6) = false := by simpa using h6
              refine wp_region_lit ?_
              refine wpList_ldA (t := 26) 26 (.tmp 4) rfl rfl (sgC a b c d f wi sm ur A n k A2 n2 k2) rfl (hS) (whole_ _) u1 u2 (szSR _ _ _ _ _ _ _ _ _ _ _ _ _ _ ) ?_
              refine wpList_plain rfl (fun K hK => ?_)
              go_simp
              refine (HTR.out _).mono ?_
              rintro e w1 ⟨bs7, d7, rfl, rfl⟩
              with_reducible refine hK _ _ ?_
              clear hK K
              iterate 2 (refine wpList_plain rfl (fun K hK => ?_); go_simp; with_reducible refine hK _ _ ?_; clear hK K)
              refine wpList_ldG (t := 29) 29 (.tmp 6) rfl (by go_simp) (adC s6 sh sl) rfl ((hA.later (below_plus _ _ _))) (whole_ _) y1 y2 (szAd _ _ _) ?_
              simp only [Act.put, List.setIfInBounds_toArray, List.set_cons_zero, List.set_cons_succ]
              refine wpList_step (fun K hK => ?_)
              go_simp
              refine (HR1.out _).mono ?_
              rintro e w1 ⟨bs8, d8, rfl, rfl⟩
              with_reducible refine hK _ _ ?_
              clear hK K
              refine wpList_step (fun K hK => ?_); go_simp; with_reducible refine hK _ _ ?_; clear hK K
              iterate 2 (refine wpList_plain rfl (fun K hK => ?_); go_simp; with_reducible refine hK _ _ ?_; clear hK K)
              refine wpList_ldG (t := 29) 29 (.tmp 7) rfl (by go_simp) (adC d6 dh dl) rfl (((hB.later (below_plus _ _ _)).later (below_plus _ _ _))) (whole_ _) y1 y2 (szAd _ _ _) ?_
              simp only [Act.put, List.setIfInBounds_toArray, List.set_cons_zero, List.set_cons_succ]
              refine wpList_step (fun K hK => ?_)
              go_simp
              refine (HR2.out _).mono ?_
              rintro e w1 ⟨bs9, d9, rfl, rfl⟩
              with_reducible refine hK _ _ ?_
              clear hK K
              refine wpList_step (fun K hK => ?_); go_simp; with_reducible refine hK _ _ ?_; clear hK K
              iterate 2 (refine wpList_plain rfl (fun K hK => ?_); go_simp; with_reducible refine hK _ _ ?_; clear hK K)
              refine wpList_step (fun K hK => ?_); go_simp; with_reducible refine hK _ _ ?_; clear hK K
              refine wpList_ld1 (t := 29) (cs := adC s6 sh sl) 4 (.tmp 108) rfl (by go_simp) rfl ((((hA.later (below_plus _ _ _)).later (below_plus _ _ _)).later (below_plus _ _ _))) rfl Try.underlying4 rfl ?_
              refine wpList_step (fun K hK => ?_); go_simp; with_reducible refine hK _ _ ?_; clear hK K
              refine wpList_ld1 (t := 29) (cs := adC d6 dh dl) 4 (.tmp 110) rfl (by go_simp) rfl ((((hB.later (below_plus _ _ _)).later (below_plus _ _ _)).later (below_plus _ _ _))) rfl Try.underlying4 rfl ?_
              refine wpList_step (fun K hK => ?_); go_simp; with_reducible refine hK _ _ ?_; clear hK K
              refine wpList_plain rfl (fun K hK => ?_); go_simp; with_reducible refine hK _ _ ?_; clear hK K
              go_wp2_with (go_at_call 7; refine (awake44 _).mono ?_; rintro e w1 ⟨bs3, d3, rfl, rfl⟩)
              go_ret
              exact RetV.mk (belowP (belowP (belowP (belowP be bs7 d7) bs8 d8) bs9 d9) bs3 d3)
      · have HTR := Lib.hid (fun W => refTcpRight_no a b c d f wi sm ur A n k A2 n2 k2 W (by omega) (by omega))
        refine wp_region_lit ?_
        refine wpList_ldA (t := 26) 26 (.tmp 4) rfl rfl (sgC a b c d f wi sm ur A n k A2 n2 k2) rfl (hS) (whole_ _) u1 u2 (szSR _ _ _ _ _ _ _ _ _ _ _ _ _ _ ) ?_
        refine wpList_plain rfl (fun K hK => ?_)
        go_simp
        refine (HTR.out _).mono ?_
        rintro e w1 ⟨bs7, d7, rfl, rfl⟩
        with_reducible refine hK _ _ ?_
        clear hK K
        iterate 2 (refine wpList_plain rfl (fun K hK => ?_); go_simp; with_reducible refine hK _ _ ?_; clear hK K)
        (with_reducible refine wpList_skip ?_ ?_); (· first | (go_simp; done) | (go_simp; intro h; cases h)); simp only [Act.put, List.setIfInBounds_toArray, List.set_cons_zero, List.set_cons_succ]
        iterate 2 ((with_reducible refine wpList_skip ?_ ?_); (· first | (go_simp; done) | (go_simp; intro h; cases h)); simp only [Act.put, List.setIfInBounds_toArray, List.set_cons_zero, List.set_cons_succ])
        iterate 2 (refine wpList_plain rfl (fun K hK => ?_); go_simp; with_reducible refine hK _ _ ?_; clear hK K)
        (with_reducible refine wpList_skip ?_ ?_); (· first | (go_simp; done) | (go_simp; intro h; cases h)); simp only [Act.put, List.setIfInBounds_toArray, List.set_cons_zero, List.set_cons_succ]
        iterate 2 ((with_reducible refine wpList_skip ?_ ?_); (· first | (go_simp; done) | (go_simp; intro h; cases h)); simp only [Act.put, List.setIfInBounds_toArray, List.set_cons_zero, List.set_cons_succ])
        iterate 2 (refine wpList_plain rfl (fun K hK => ?_); go_simp; with_reducible refine hK _ _ ?_; clear hK K)
        iterate 5 ((with_reducible refine wpList_skip ?_ ?_); (· first | (go_simp; done) | (go_simp; intro h; cases h)); simp only [Act.put, List.setIfInBounds_toArray, List.set_cons_zero, List.set_cons_succ])
        refine wpList_plain rfl (fun K hK => ?_); go_simp; with_reducible refine hK _ _ ?_; clear hK K
        go_wp2_with (go_at_call 7; refine (awake44 _).mono ?_; rintro e w1 ⟨bs3, d3, rfl, rfl⟩)
        go_ret
        exact RetV.mk (belowP (belowP be bs7 d7) bs3 d3)
    · have i2 : (500 : Int) < (n2 : Int) := by omega
      go_wp2_with (go_at_call 7; refine (awake44 _).mono ?_; rintro e w1 ⟨bs3, d3, rfl, rfl⟩)
      go_ret
      exact RetV.mk (belowP be _ _)
  · have i1 : (200 : Int) < (n : Int) := by omega
    go_wp2_with (go_at_call 7; refine (awake44 _).mono ?_; rintro e w1 ⟨bs3, d3, rfl, rfl⟩)
    go_ret
    exact RetV.mk (belowP be _ _)
end Go.Proofs.Ytknoenceccpkhaa

/- Addresses that came in; lists of a known length. -/
namespace Go.Proofs.Ytknoenceccpkhaa
open Go.RowKit Go.ChangeShapes Go.WideShapes
set_option linter.unusedVariables false

theorem list3 {α : Type} {l : List α} (h : l.length = 3) : ∃ a b c, l = [a, b, c] := by
  match l, h with
  | [a, b, c], _ => exact ⟨a, b, c, rfl⟩
set_option maxRecDepth 100000 in
theorem open_adr_cells {H : Type} {enc : TypeId × Value → H} {W : World} {m : Nat} {cs : List Value} {y : DataW H × List MemPlace}
    (hf : DataW.trod enc Try.prog W 0 (fun _ => true) true m 29 cs = some y) : ∃ six, ∃ ah al : Nat, cs = [.bool six, .int .u64 ah, .int .u64 al] ∧ ah < 18446744073709551616 ∧ al < 18446744073709551616 := by
  obtain ⟨xs, n, _, _, hl, hlen, hg⟩ := DataW.trod_struct Try.underlying29 hf
  have hC0 : Try.prog.cellsOf 4 = 1 := by kernel_rfl
  have hC1 : Try.prog.cellsOf 27 = 1 := by kernel_rfl
  have hCR : Try.prog.cellsOf 29 = 3 := by kernel_rfl
  rw [hCR] at hl
  obtain ⟨c0, c1, c2, rfl⟩ := list3 hl
  have hx : xs.length = 3 := by rw [hlen]; rfl
  obtain ⟨x0, x1, x2, rfl⟩ := list3 hx
  have h0 := hg 0 _ rfl
  have h1 := hg 1 _ rfl
  have h2 := hg 2 _ rfl
  simp only [List.getElem_toArray, List.getElem_cons_zero, List.getElem_cons_succ, hC0, hC1, List.drop_zero, List.drop_succ_cons, List.take_succ_cons, List.take_zero, List.getElem?_cons_zero, List.getElem?_cons_succ] at h0 h1 h2
  obtain ⟨b, hb, _⟩ := DataW.trod_bool Try.underlying4 h0
  obtain ⟨z1, hz1, _, hw1⟩ := DataW.trod_int Try.underlying27 h1
  obtain ⟨z2, hz2, _, hw2⟩ := DataW.trod_int Try.underlying27 h2
  have b1 := bounds_u64 hw1
  have b2 := bounds_u64 hw2
  simp only [List.cons.injEq, and_true] at hb hz1 hz2
  subst hb hz1 hz2
  exact ⟨b, z1.toNat, z2.toNat, by simp; omega, by omega, by omega⟩
set_option maxRecDepth 100000 in
theorem open_adr {H : Type} {enc : TypeId × Value → H} {W : World} {base : Nat} {v : Value} {d : DataW H} {p : List MemPlace} (hv : Value.okWide Try.prog W .any base 29 v)
    (h : DataW.Trod enc Try.prog W 0 (fun _ => true) true 29 v d p) : ∃ six, ∃ ah al : Nat, v = .agg #[.bool six, .int .u64 ah, .int .u64 al] ∧ ah < 18446744073709551616 ∧ al < 18446744073709551616 := by
  obtain ⟨cs, rfl, hsz⟩ := okWide_struct Try.underlying29 hv
  obtain ⟨fuel, hf⟩ := h
  obtain ⟨six, ah, al, hc, h1, h2⟩ := open_adr_cells hf
  refine ⟨six, ah, al, ?_, h1, h2⟩
  simp only [Value.cells] at hc
  congr 1
  exact Array.toList_inj.1 hc
end Go.Proofs.Ytknoenceccpkhaa

/- OptionClamps: the arguments that came in, and the row. -/
namespace Go.Proofs.Ytknoenceccpkhaa
open Go.RowKit Go.ChangeShapes Go.WideShapes
set_option linter.unusedVariables false

set_option maxRecDepth 100000 in
theorem open_segN {H : Type} {enc : TypeId × Value → H} {W : World} {base : Nat} {v : Value} {dt : DataW H} {p : List MemPlace} (hv : Value.okWide Try.prog W .any base 26 v) (h : DataW.Trod enc Try.prog W 0 (fun _ => true) true 26 v dt p) :
    ∃ a b c d f wi sm ur : Nat, ∃ A n k A' n' k', ∃ l l' : List UInt8, v = .agg (sgC a b c d f wi sm ur A n k A' n' k').toArray ∧ (a < 65536 ∧ b < 65536 ∧ c < 4294967296 ∧ d < 4294967296 ∧ f < 256 ∧ wi < 65536 ∧ sm < 65536 ∧ ur < 65536) ∧ Rb W A n k l ∧ Rb W A' n' k' l' ∧ k ≤ maxLen ∧ k' ≤ maxLen := by
  obtain ⟨cs, rfl, hl, m, hf⟩ := open_struct Try.underlying26 (by kernel_rfl) (by kernel_rfl) hv h
  obtain ⟨u0, u1, u2, u3, u4, u5, u6, u7, u8, u9, rfl⟩ := list10 hl
  obtain ⟨_, _, e0, t0⟩ := hf 0 _ rfl
  obtain ⟨_, _, e1, t1⟩ := hf 1 _ rfl
  obtain ⟨_, _, e2, t2⟩ := hf 2 _ rfl
  obtain ⟨_, _, e3, t3⟩ := hf 3 _ rfl
  obtain ⟨_, _, e4, t4⟩ := hf 4 _ rfl
  obtain ⟨_, _, e5, t5⟩ := hf 5 _ rfl
  obtain ⟨_, _, e6, t6⟩ := hf 6 _ rfl
  obtain ⟨_, _, e7, t7⟩ := hf 7 _ rfl
  obtain ⟨_, _, e8, t8⟩ := hf 8 _ rfl
  obtain ⟨_, _, e9, t9⟩ := hf 9 _ rfl
  simp only [List.getElem?_cons_zero, List.getElem?_cons_succ, Option.some.injEq] at e0 e1 e2 e3 e4 e5 e6 e7 e8 e9
  subst e0 e1 e2 e3 e4 e5 e6 e7 e8 e9
  obtain ⟨a, x0, -, w0⟩ := DataW.trod_int Try.underlying22 t0
  have v0 := bounds_u16 w0
  obtain ⟨b, x1, -, w1⟩ := DataW.trod_int Try.underlying22 t1
  have v1 := bounds_u16 w1
  obtain ⟨c, x2, -, w2⟩ := DataW.trod_int Try.underlying23 t2
  have v2 := bounds_u32 w2
  obtain ⟨d, x3, -, w3⟩ := DataW.trod_int Try.underlying23 t3
  have v3 := bounds_u32 w3
  obtain ⟨f, x4, -, w4⟩ := DataW.trod_int Try.underlying5 t4
  have v4 := bounds_u8 w4
  obtain ⟨wi, x5, -, w5⟩ := DataW.trod_int Try.underlying22 t5
  have v5 := bounds_u16 w5
  obtain ⟨sm, x6, -, w6⟩ := DataW.trod_int Try.underlying22 t6
  have v6 := bounds_u16 w6
  obtain ⟨ur, x7, -, w7⟩ := DataW.trod_int Try.underlying22 t7
  have v7 := bounds_u16 w7
  obtain ⟨A, n, k, l, x8, hk, hr⟩ := open_bytes_cell Try.underlying24 Try.underlying5 (by kernel_rfl) t8
  obtain ⟨A', n', k', l', x9, hk', hr'⟩ := open_bytes_cell Try.underlying24 Try.underlying5 (by kernel_rfl) t9
  simp only [List.cons.injEq, and_true] at x0 x1 x2 x3 x4 x5 x6 x7
  subst x0 x1 x2 x3 x4 x5 x6 x7 x8 x9
  refine ⟨a.toNat, b.toNat, c.toNat, d.toNat, f.toNat, wi.toNat, sm.toNat, ur.toNat, A, n, k, A', n', k', l, l', ?_, by omega, hr, hr', hk, hk'⟩
  unfold sgC
  rw [Int.toNat_of_nonneg (by omega), Int.toNat_of_nonneg (by omega), Int.toNat_of_nonneg (by omega), Int.toNat_of_nonneg (by omega), Int.toNat_of_nonneg (by omega), Int.toNat_of_nonneg (by omega), Int.toNat_of_nonneg (by omega), Int.toNat_of_nonneg (by omega)]
theorem optionClamps_row (W : World) (a b c d f wi sm ur : Nat) (A : Option Addr) (n k : Nat) (A2 : Option Addr) (n2 k2 : Nat) (l l2 : List UInt8) (ha : a < 65536) (hb : b < 65536) (hc : c < 4294967296) (hd : d < 4294967296) (hf : f < 256) (hwi : wi < 65536) (hsm : sm < 65536) (hur : ur < 65536) (h : Rb W A n k l) (h2 : Rb W A2 n2 k2 l2) (hk : k ≤ maxLen) (hk2 : k2 ≤ maxLen) (m : Int) (hm : 0 ≤ m ∧ m ≤ 65535)
    (s6 : Bool) (sh sl : Nat) (q1 : sh < 18446744073709551616) (q2 : sl < 18446744073709551616) (d6 : Bool) (dh dl : Nat) (q3 : dh < 18446744073709551616) (q4 : dl < 18446744073709551616) :
    Calls Try.prog 3 #[.agg (sgC a b c d f wi sm ur A n k A2 n2 k2).toArray, .int .u16 m, .agg #[.bool s6, .int .u64 (sh : Int), .int .u64 (sl : Int)], .agg #[.bool d6, .int .u64 (dh : Int), .int .u64 (dl : Int)]] W fun e W' => e = .returned (.bool true) ∧ Below W.heap.size W W' := by
  obtain ⟨m, rfl⟩ := Int.eq_ofNat_of_zero_le hm.1
  have e : maxLen ≤ 9223372036854775807 := by decide
  have h9 := optionClamps_walk a b c d f wi sm ur A n k A2 n2 k2 s6 sh sl d6 dh dl l l2 m W ha hb hc hd hf hwi hsm hur (by omega) q1 q2 q3 q4 h h2 (by have := h.2.1; omega) (by have := h2.2.1; omega)
  refine h9.mono ?_
  rintro e w' ⟨bs, dd, rfl, rfl⟩
  exact ⟨rfl, below_plus _ _ _⟩
end Go.Proofs.Ytknoenceccpkhaa

