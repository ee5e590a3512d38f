/- The law IcmpWrites (chapter 8). -/
import Derived.Test.YtldecdeiibfekaaIcmX
import Derived.Test.YtldecdeiibfekaaIcmpW
import Derived.Test.YtldecdeiibfekaaIcmpP
import Derived.Deep.CutBlock
namespace Go.Proofs.Ytldecdeiibfekaa
open Go.RowKit
set_option linter.unusedVariables false
set_option linter.unusedSimpArgs false
attribute [local go_sem ↓] sliced_cut
attribute [local go_sem] cutA_zero

theorem fd_fill (t : Nat) : fd (t + (65535 - fd t)) = 65535 := by
  unfold fd
  split <;> split <;> omega
theorem tot_word (p r : List UInt8) (c : Nat) (hp : p.length % 2 = 0) (hc : c < 65536) : tot false (p ++ dig c 2 ++ r) = tot false p + c + tot false r := by
  rw [dig2 c hc, tot_append, tot_append, if_pos hp]
  rw [if_pos (by rw [List.length_append]; simp; omega)]
  simp only [tot, UInt8.toNat_ofNat']
  simp
  omega
theorem icT_sum (s6 : Bool) (sh sl : Nat) (d6 : Bool) (dh dl : Nat) (a b c d : Nat) (l : List UInt8) (ha : a < 256) (hb : b < 256) (hc : c < 65536) : icT s6 sh sl d6 dh dl a b c d l = icT s6 sh sl d6 dh dl a b 0 d l + c := by
  have e : ∀ c, icP s6 sh sl d6 dh dl (8 + l.length) ++ icmpB a b c d l = (icP s6 sh sl d6 dh dl (8 + l.length) ++ (dig a 1 ++ dig b 1)) ++ dig c 2 ++ (dig d 4 ++ l) := fun c => by simp [icmpB]
  have hp : (icP s6 sh sl d6 dh dl (8 + l.length) ++ (dig a 1 ++ dig b 1)).length % 2 = 0 := by
    have := icP_even s6 sh sl d6 dh dl (8 + l.length)
    simp [dig_length]
    omega
  unfold icT
  rw [e, e, tot_word _ _ _ hp hc, tot_word _ _ _ hp (by omega)]
  omega
theorem icT_fine (s6 : Bool) (sh sl : Nat) (d6 : Bool) (dh dl : Nat) (a b d : Nat) (l : List UInt8) (ha : a < 256) (hb : b < 256) : 65535 - fd (icT s6 sh sl d6 dh dl a b (65535 - fd (icT s6 sh sl d6 dh dl a b 0 d l)) d l) = 0 := by
  rw [icT_sum s6 sh sl d6 dh dl a b (65535 - fd (icT s6 sh sl d6 dh dl a b 0 d l)) d l ha hb (by omega), fd_fill]
theorem icmpBack (a b c d : Nat) (l : List UInt8) (ha : a < 256) (hb : b < 256) (hc : c < 65536) (hd : d < 4294967296) (A : Option Addr) (n k : Nat) (w : World) (h : Rb w A n k (icmpB a b c d l)) (hn : n ≤ 10000) : Calls Try.prog 18 #[.slice A n k] w (RetM2 w a b c d l (.int .i64 0)) := by
  have hl : n = 8 + l.length := by rw [← h.1, icmpB_length]
  have x0 : num ((icmpB a b c d l).take 1) = a := by unfold icmpB; have := num_mid [] (dig b 1 ++ dig c 2 ++ dig d 4 ++ l) a 1 0 rfl (by omega); simpa [List.append_assoc] using this
  have x1 : num (((icmpB a b c d l).drop 1).take 1) = b := by unfold icmpB; have := num_mid (dig a 1) (dig c 2 ++ dig d 4 ++ l) b 1 1 (by simp [dig_length]) (by omega); simpa [List.append_assoc] using this
  have x2 : num (((icmpB a b c d l).drop 2).take 2) = c := by unfold icmpB; have := num_mid (dig a 1 ++ dig b 1) (dig d 4 ++ l) c 2 2 (by simp [dig_length]) (by omega); simpa [List.append_assoc] using this
  have x3 : num (((icmpB a b c d l).drop 4).take 4) = d := by unfold icmpB; have := num_mid (dig a 1 ++ dig b 1 ++ dig c 2) l d 4 4 (by simp [dig_length]) (by omega); simpa [List.append_assoc] using this
  have x4 : (icmpB a b c d l).drop 8 = l := by unfold icmpB; rw [List.drop_left' (by simp [dig_length])]
  have := icmpParse_any A n k _ w h (by omega) (by omega)
  rw [x0, x1, x2, x3, x4] at this
  exact this
theorem msToV (a b c d : Nat) (A : Option Addr) (n k : Nat) (w : World) : Calls Try.prog 17 #[.agg (msgC a b c d A n k).toArray] w (RetV w (.agg (msgC a b c d A n k).toArray)) := by
  unfold msgC
  go_enter Try.func17, Try.ntmps17
  go_wp2
  refine bodyPost_ret (v := .agg #[.int .u8 (a : Int), .int .u8 (b : Int), .int .u16 (c : Int), .int .u32 (d : Int), .slice A n k]) (by simp [results, Try.results17, go_sem]) rfl (RetV.mk ?_)
  exact Below.allocS (Below.allocS (Below.refl _ _) _) _
theorem msOfV (a b c d : Nat) (A : Option Addr) (n k : Nat) (w : World) : Calls Try.prog 22 #[.agg (msgC a b c d A n k).toArray] w (RetV w (.agg (msgC a b c d A n k).toArray)) :=
  (icmpOf_any (a : Int) b c d A n k w).mono fun _ _ ⟨he, bs, d, hw⟩ => ⟨bs, d, he, hw⟩
theorem msSameV (a b c d : Nat) (A : Option Addr) (n k : Nat) (A' : Option Addr) (n' k' : Nat) (l : List UInt8) (w : World) (h : Rb w A n k l) (h' : Rb w A' n' k' l) : Calls Try.prog 21 #[.agg (msgC a b c d A n k).toArray, .agg (msgC a b c d A' n' k').toArray] w (RetV w (.bool true)) :=
  (icmpSame_any (a : Int) b c d A n k A' n' k' l w h h').mono fun _ _ ⟨he, bs, d, hw⟩ => ⟨bs, d, he, hw⟩
theorem msAwakeV (w : World) : Calls Try.prog 16 #[] w (RetV w (.bool true)) := (icmpAwake w).mono fun _ _ ⟨he, bs, d, hw⟩ => ⟨bs, d, he, hw⟩
/-- may an address be? -/
def adOK (six : Bool) (h l : Nat) : Bool := six || (decide (h = 0) && decide (l < 4294967296))
theorem refAdrRight (six : Bool) (h l : Nat) (w : World) (hl : l < 18446744073709551616) : Calls Try.prog 15 #[.agg (adC six h l).toArray] w (RetV w (.bool (adOK six h l))) := by
  unfold adC
  cases six
  · by_cases h0 : h = 0
    · subst h0
      by_cases h1 : l < 4294967296
      · have t1 : decide (l ≤ 4294967295) = true := by simp; omega
        have hz : Hid (adOK false 0 l = true) := Lib.hid (by simp [adOK]; omega)
        go_enter Try.func15, Try.ntmps15
        go_wp2
        go_ret
        exact RetV.is_ (by rw [hz.out]; simp; try omega) (Below.allocS (Below.refl _ _) _)
      · have t1 : decide (l ≤ 4294967295) = false := by simp; omega
        have hz : Hid (adOK false 0 l = false) := Lib.hid (by simp [adOK]; omega)
        go_enter Try.func15, Try.ntmps15
        go_wp2
        go_ret
        exact RetV.is_ (by rw [hz.out]; simp; try omega) (Below.allocS (Below.refl _ _) _)
    · have e1 : ((h : Int) == 0) = false := by rw [beq_eq_false_iff_ne]; omega
      have hz : Hid (adOK false h l = false) := Lib.hid (by simp [adOK]; omega)
      clear h0
      go_enter Try.func15, Try.ntmps15
      go_wp2
      go_ret
      exact RetV.is_ (by rw [hz.out]; rfl) (Below.allocS (Below.refl _ _) _)
  · go_enter Try.func15, Try.ntmps15
    go_wp2
    go_ret
    exact RetV.is_ rfl (Below.allocS (Below.refl _ _) _)
set_option maxHeartbeats 4000000 in
set_option maxRecDepth 100000 in
theorem icmpWrites_walk (w : World) (a b c d : Nat) (A : Option Addr) (n k : Nat) (l : List UInt8) (ha : a < 256) (hb : b < 256) (hc : c < 65536) (hd : d < 4294967296) (s6 : Bool) (sh sl : Nat) (d6 : Bool) (dh dl : Nat) (k1 : sh < 18446744073709551616) (k2 : sl < 18446744073709551616) (k3 : dh < 18446744073709551616) (k4 : dl < 18446744073709551616) (h : Rb w A n k l) (hk : k ≤ maxLen) :
    Calls Try.prog 3 #[.agg (msgC a b c d A n k).toArray, .agg (adC s6 sh sl).toArray, .agg (adC d6 dh dl).toArray] w fun e w' => e = .returned (.bool true) ∧ Below w.heap.size w w' := by
  have hnk := h.2.1
  simp only [maxLen] at hk
  obtain ⟨dx, u1, u2⟩ := rowMs
  obtain ⟨dr, r1, r2⟩ := rowMr
  obtain ⟨dy, ya1, ya2⟩ := rowAd
  have hM : Bk (((w.alloc (.cells (msgC a b c d A n k).toArray 26)).alloc (.cells (adC s6 sh sl).toArray 29)).alloc (.cells (adC d6 dh dl).toArray 29)) w.heap.size 26 (msgC a b c d A n k) := ((Bk.new w 26 (msgC a b c d A n k).toArray).alloc _).alloc _
  have hS : Bk (((w.alloc (.cells (msgC a b c d A n k).toArray 26)).alloc (.cells (adC s6 sh sl).toArray 29)).alloc (.cells (adC d6 dh dl).toArray 29)) (w.heap.size + 1) 29 (adC s6 sh sl) := (Bk.newK _ _ _ (by simp) rfl).alloc _
  have hDs : Bk (((w.alloc (.cells (msgC a b c d A n k).toArray 26)).alloc (.cells (adC s6 sh sl).toArray 29)).alloc (.cells (adC d6 dh dl).toArray 29)) (w.heap.size + 1 + 1) 29 (adC d6 dh dl) := Bk.newK _ _ _ (by simp) rfl
  have be : Below w.heap.size w (((w.alloc (.cells (msgC a b c d A n k).toArray 26)).alloc (.cells (adC s6 sh sl).toArray 29)).alloc (.cells (adC d6 dh dl).toArray 29)) := Below.allocS (Below.allocS (Below.allocS (Below.refl _ _) _) _) _
  have q0 : (((w.alloc (.cells (msgC a b c d A n k).toArray 26)).alloc (.cells (adC s6 sh sl).toArray 29)).alloc (.cells (adC d6 dh dl).toArray 29)).cell? ⟨w.heap.size, 4, none⟩ = some (.slice A n k) := hM.cell 4
  have q1 : (((w.alloc (.cells (msgC a b c d A n k).toArray 26)).alloc (.cells (adC s6 sh sl).toArray 29)).alloc (.cells (adC d6 dh dl).toArray 29)).cell? ⟨w.heap.size + 1, 0, none⟩ = some (.bool s6) := hS.cell 0
  have q2 : (((w.alloc (.cells (msgC a b c d A n k).toArray 26)).alloc (.cells (adC s6 sh sl).toArray 29)).alloc (.cells (adC d6 dh dl).toArray 29)).cell? ⟨w.heap.size + 1 + 1, 0, none⟩ = some (.bool d6) := hDs.cell 0
  have HR1 := Lib.hid (fun w => refAdrRight s6 sh sl w k2)
  have HR2 := Lib.hid (fun w => refAdrRight d6 dh dl w k4)
  have HAW := Lib.hid msAwakeV
  by_cases hn : n ≤ 3000
  · have t0 : decide ((3000 : Int) < (n : Int)) = false := by simp; omega
    cases ho1 : adOK s6 sh sl
    · rw [ho1] at HR1
      clear ho1
      go_enter Try.func3, Try.ntmps3
      go_upto_region 1 with (fail)
      generalize ((w.alloc (.cells (msgC a b c d A n k).toArray 26)).alloc (.cells (adC s6 sh sl).toArray 29)).alloc (.cells (adC d6 dh dl).toArray 29) = W at *
      have zS := hS.lt
      have zD := hDs.lt
      go_wp2_with (first
        | (refine at_op (.load 29 (.tmp 4)) rfl ?_; refine wpList_ldG (t := 29) 29 (.tmp 4) rfl rfl (adC s6 sh sl) rfl (by with_reducible repeat (first | exact hS | refine Bk.later ?_ (below_plus _ _ _) | refine Bk.alloc ?_ _)) (whole_ _) ya1 ya2 (szAd _ _ _) ?_)
        | (refine at_op (.load 29 (.tmp 5)) rfl ?_; refine wpList_ldG (t := 29) 29 (.tmp 5) rfl rfl (adC d6 dh dl) rfl (by with_reducible repeat (first | exact hDs | refine Bk.later ?_ (below_plus _ _ _) | refine Bk.alloc ?_ _)) (whole_ _) ya1 ya2 (szAd _ _ _) ?_)
        | (go_at_call 15; (with_reducible refine (HR1.out _).mono ?_); rintro e w1 ⟨bs1, d1, rfl, rfl⟩)
        | (go_at_call 15; (with_reducible refine (HR2.out _).mono ?_); rintro e w1 ⟨bs2, d2, rfl, rfl⟩)
        | (go_at_call 16; refine (HAW.out _).mono ?_; rintro e w1 ⟨bs3, d3, rfl, rfl⟩))
      go_ret
      refine ⟨rfl, ?_⟩
      repeat (first | exact be | refine belowP ?_ _ _)
    · rw [ho1] at HR1
      cases ho2 : adOK d6 dh dl
      · rw [ho2] at HR2
        clear ho1 ho2
        go_enter Try.func3, Try.ntmps3
        go_upto_region 1 with (fail)
        generalize ((w.alloc (.cells (msgC a b c d A n k).toArray 26)).alloc (.cells (adC s6 sh sl).toArray 29)).alloc (.cells (adC d6 dh dl).toArray 29) = W at *
        have zS := hS.lt
        have zD := hDs.lt
        go_wp2_with (first
          | (refine at_op (.load 29 (.tmp 4)) rfl ?_; refine wpList_ldG (t := 29) 29 (.tmp 4) rfl rfl (adC s6 sh sl) rfl (by with_reducible repeat (first | exact hS | refine Bk.later ?_ (below_plus _ _ _) | refine Bk.alloc ?_ _)) (whole_ _) ya1 ya2 (szAd _ _ _) ?_)
          | (refine at_op (.load 29 (.tmp 5)) rfl ?_; refine wpList_ldG (t := 29) 29 (.tmp 5) rfl rfl (adC d6 dh dl) rfl (by with_reducible repeat (first | exact hDs | refine Bk.later ?_ (below_plus _ _ _) | refine Bk.alloc ?_ _)) (whole_ _) ya1 ya2 (szAd _ _ _) ?_)
          | (go_at_call 15; (with_reducible refine (HR1.out _).mono ?_); rintro e w1 ⟨bs1, d1, rfl, rfl⟩)
          | (go_at_call 15; (with_reducible refine (HR2.out _).mono ?_); rintro e w1 ⟨bs2, d2, rfl, rfl⟩)
          | (go_at_call 16; refine (HAW.out _).mono ?_; rintro e w1 ⟨bs3, d3, rfl, rfl⟩))
        go_ret
        refine ⟨rfl, ?_⟩
        repeat (first | exact be | refine belowP ?_ _ _)
      · rw [ho2] at HR2
        clear ho1 ho2
        by_cases h6 : s6 = d6
        · subst h6
          have HTO := Lib.hid (fun w => msToV a b c d A n k w)
          have HB := Lib.hid (fun w (h : Rb w A n k l) => icmpBytes a b c d A n k l w ha hb hc hd h (by omega))
          have HRB := Lib.hid (fun w (h : Rb w A n k l) => refIcmpBytes a b c d A n k l w ha hb hc hd h (by omega))
          have HPB := Lib.hid (fun A4 n4 k4 w (h : Rb w A4 n4 k4 (icmpB a b c d l)) (hn : n4 ≤ 10000) => icmpBack a b c d l ha hb hc hd A4 n4 k4 w h hn)
          have HBL : Hid ((icmpB a b c d l).length = 8 + n) := Lib.hid (by rw [icmpB_length, h.1])
          have HS1 := Lib.hid (fun w (h : Rb w A n k l) => icmpSummed a b c d A n k s6 sh sl s6 dh dl l w ha hb hc hd k1 k2 k3 k4 h (by omega))
          have HS2 := Lib.hid (fun w (h : Rb w A n k l) => refIcmpSummed a b c d A n k s6 sh sl s6 dh dl l w ha hb hc hd k1 k2 k3 k4 h (by omega))
          have HF1 := Lib.hid (fun w (h : Rb w A n k l) => icmpFine a b c d A n k s6 sh sl s6 dh dl l w ha hb hc hd k1 k2 k3 k4 h (by omega))
          have HCK := Lib.hid (fun w (h : Rb w A n k l) => refCheck a b c d A n k s6 sh sl s6 dh dl l w ha hb hc hd k1 k2 k3 k4 h (by omega))
          have hs := Nat.sub_le 65535 (fd (icT s6 sh sl s6 dh dl a b 0 d l))
          have hz2 := icT_fine s6 sh sl s6 dh dl a b d l ha hb
          have HF2 : Hid (∀ w A6 n6 c6, Rb w A6 n6 c6 l → Calls Try.prog 28 #[.agg (msgC a b (65535 - fd (icT s6 sh sl s6 dh dl a b 0 d l)) d A6 n6 c6).toArray, .agg (adC s6 sh sl).toArray, .agg (adC s6 dh dl).toArray] w (RetV w (.bool true))) := Lib.hid (fun w A6 n6 c6 h6 => by
            have := icmpFine a b (65535 - fd (icT s6 sh sl s6 dh dl a b 0 d l)) d A6 n6 c6 s6 sh sl s6 dh dl l w ha hb (by omega) hd k1 k2 k3 k4 h6 (by have := h6.1; have := h.1; omega)
            rw [hz2] at this
            exact this)
          generalize 65535 - fd (icT s6 sh sl s6 dh dl a b 0 d l) = s at *
          clear hz2
          obtain ⟨fz, hfz⟩ : ∃ fz, fz = (65535 - fd (icT s6 sh sl s6 dh dl a b c d l) == 0) := ⟨_, rfl⟩
          rw [← hfz] at HF1
          generalize 65535 - fd (icT s6 sh sl s6 dh dl a b c d l) = z0 at *
          have hz0 : ((z0 : Int) == 0) = fz := by rw [hfz, Bool.eq_iff_iff]; simp
          clear hfz
          generalize icmpB a b c d l = Bx at *
          have h0 := h
          go_enter Try.func3, Try.ntmps3
          go_upto_region 1 with (fail)
          generalize ((w.alloc (.cells (msgC a b c d A n k).toArray 26)).alloc (.cells (adC s6 sh sl).toArray 29)).alloc (.cells (adC s6 dh dl).toArray 29) = W at *
          have zS := hS.lt
          have zD := hDs.lt
          go_upto_region 3 with (first
            | (refine at_op (.load 29 (.tmp 4)) rfl ?_; refine wpList_ldG (t := 29) 29 (.tmp 4) rfl rfl (adC s6 sh sl) rfl (by with_reducible repeat (first | exact hS | refine Bk.later ?_ (below_plus _ _ _) | refine Bk.alloc ?_ _)) (whole_ _) ya1 ya2 (szAd _ _ _) ?_)
            | (refine at_op (.load 29 (.tmp 5)) rfl ?_; refine wpList_ldG (t := 29) 29 (.tmp 5) rfl rfl (adC s6 dh dl) rfl (by with_reducible repeat (first | exact hDs | refine Bk.later ?_ (below_plus _ _ _) | refine Bk.alloc ?_ _)) (whole_ _) ya1 ya2 (szAd _ _ _) ?_)
            | (go_at_call 15; (with_reducible refine (HR1.out _).mono ?_); rintro e w1 ⟨bs1, d1, rfl, rfl⟩)
            | (go_at_call 15; (with_reducible refine (HR2.out _).mono ?_); rintro e w1 ⟨bs2, d2, rfl, rfl⟩))
          refine gen_world (fun W' => Bk W' w.heap.size 26 (msgC a b c d A n k) ∧ Bk W' (w.heap.size + 1) 29 (adC s6 sh sl) ∧ Bk W' (w.heap.size + 1 + 1) 29 (adC s6 dh dl) ∧ Below w.heap.size w W') ⟨(hM.later (below_plus _ _ _)).later (below_plus _ _ _), (hS.later (below_plus _ _ _)).later (below_plus _ _ _), (hDs.later (below_plus _ _ _)).later (below_plus _ _ _), belowP (belowP be _ _) _ _⟩ ?_
          clear hM hS hDs be q0 q1 q2 zS zD
          rintro W2 ⟨hM, hS, hDs, be⟩
          have zb := be.size
          have zD := hDs.lt
          go_upto_region 4 with (first
            | (refine at_op (.load 26 (.tmp 3)) rfl ?_; refine wpList_ldA (t := 26) 26 (.tmp 3) rfl rfl (msgC a b c d A n k) rfl (by with_reducible repeat (first | exact hM | refine Bk.later ?_ (below_plus _ _ _) | refine Bk.alloc ?_ _)) (whole_ _) r1 r2 (szMr _ _ _ _ _ _ _) ?_)
            | (go_at_call 17; refine (HTO.out _).mono ?_; rintro e w1 ⟨bs3, d3, rfl, rfl⟩)
            | (refine at_op (.store 32 (.tmp 7) (.tmp 37)) rfl ?_; refine wpList_stA (t := 32) 32 (.tmp 7) (.tmp 37) rfl rfl (msgC a b c d A n k) ((msgC 0 0 0 0 none 0 0)) rfl (msgC_one _ _ _ _ _ _ _) rfl rfl ?_ (szMs _ _ _ _ _ _ _) ?_; (· refine Bk.newK _ _ _ ?_ rfl; simp [size_plus]); intro W3 hX hgr))
          have b3 := below_grown (Below.allocS (below_plus W2 bs3 d3) (.cells #[.int .u8 0, .int .u8 0, .int .u16 0, .int .u32 0, .slice none 0 0] 32)) hgr (by omega)
          replace hM := hM.later b3
          replace hS := hS.later b3
          replace hDs := hDs.later b3
          replace be := be.trans (b3.mono zb)
          have hg7 : w.heap.size + 1 + 1 < W2.heap.size + bs3.length := by omega
          generalize W2.heap.size + bs3.length = g7 at *
          clear hgr b3 zb zD W2
          have h4 := h0.later be
          go_upto_region 5 with (first
            | (refine at_op (.load 32 (.tmp 7)) rfl ?_; refine wpList_ldA (t := 32) 32 (.tmp 7) rfl rfl (msgC a b c d A n k) rfl (by with_reducible repeat (first | exact hX | refine Bk.later ?_ (below_plus _ _ _) | refine Bk.alloc ?_ _)) (whole_ _) u1 u2 (szMs _ _ _ _ _ _ _) ?_)
            | (go_at_call 19; refine (HB.out _ h4).mono ?_; rintro e w1 ⟨A4, n4, c4, bs4, d4, rfl, rfl, ho4⟩)
            | (go_at_call 18; refine (HPB.out _ _ _ _ ho4.rb (by rw [← ho4.1, HBL.out]; omega)).mono ?_; rintro e w1 ⟨A5, n5, c5, bs5, d5, rfl, rfl, ho5⟩)
            | (refine at_op (.store 32 (.tmp 8) (.tmp 42)) rfl ?_; refine wpList_stA (t := 32) 32 (.tmp 8) (.tmp 42) rfl rfl (msgC a b c d A5 n5 c5) ((msgC 0 0 0 0 none 0 0)) rfl (msgC_one _ _ _ _ _ _ _) rfl rfl ?_ (szMs _ _ _ _ _ _ _) ?_; (· refine Bk.newK _ _ _ ?_ rfl; simp [size_plus]); intro W5 hY hgr))
          have b5 := below_grown (Below.allocS (belowP (below_plus W3 bs4 d4) bs5 d5) (.cells #[.int .u8 0, .int .u8 0, .int .u16 0, .int .u32 0, .slice none 0 0] 32)) hgr (by omega)
          have b6 := below_grown (Below.allocS (Below.refl _ (plus (plus W3 bs4 d4) bs5 d5)) (.cells #[.int .u8 0, .int .u8 0, .int .u16 0, .int .u32 0, .slice none 0 0] 32)) hgr (by simp [size_plus])
          have zb := be.size
          have z7 := hX.lt
          replace hM := hM.later b5
          replace hS := hS.later b5
          replace hDs := hDs.later b5
          replace hX := hX.later b5
          have hy := (ho5.rb).later b6
          replace be := be.trans (b5.mono zb)
          have hg8 : g7 < W3.heap.size + bs4.length + bs5.length := by omega
          generalize W3.heap.size + bs4.length + bs5.length = g8 at *
          clear hgr b5 b6 zb z7 h4 ho4 ho5 W3 HPB HBL HTO
          replace h := h0.later be
          go_wp2
          refine wp_rel 18 119 rfl (by kernel_rfl) (by kernel_rfl) (fun i => match i with | 0 => MP.eq (.agg (msgC a b c d A n k).toArray) | 1 => MP.rb Bx | 2 => MP.eq (.string ⟨Bx.toArray⟩) | 3 => MP.eq (.agg (msgC a b c d A n k).toArray) | 4 => MP.rb Bx | 5 => MP.eq (.string ⟨Bx.toArray⟩) | 6 => MP.eq (.bool false) | 7 => MP.eq (.bool false) | 8 => MP.eq (.agg (msgC a b c d A5 n5 c5).toArray) | 9 => MP.eq (.agg (msgC a b c d A5 n5 c5).toArray) | 10 => MP.eq (.agg (msgC a b c d A n k).toArray) | 11 => MP.eq (.bool true) | 12 => MP.eq (.bool false) | 13 => MP.eq (.bool false) | 14 => MP.eq (.bool false) | 15 => MP.eq (.int .i64 0) | 16 => MP.eq (.bool false) | 17 => MP.eq (.bool false) | _ => MP.any) ?_ ?_
          · intro i hi o ho FA x hO hD K hK
            match i, hi, ho, hO, hD, hK with
            | 0, _, ho, hO, hD, hK => 
              obtain rfl := Option.some.inj ho.symm
              clear ho
              have ev7 : FA.eval (.tmp 7) = .pointer (some ⟨g7, 0, none⟩) := hO 7 (by kernel_rfl)
              have e7 : FA.tmps[7]?.getD undef = .pointer (some ⟨g7, 0, none⟩) := by simpa [Act.eval] using ev7
              replace ev7 := Lib.hid ev7
              clear hO hD
              refine wanted_ifG (by go_simp) ?_
              refine wp_load_mid 32 (.tmp 7) rfl (g7) 0 ev7.out (msgC a b c d A n k) _ (Bk.range (hX.later (below_plus _ _ _))) u1 u2 (szMs _ _ _ _ _ _ _) ?_
              exact hK.out _ _ (Ex.refl _) rfl
            | 1, _, ho, hO, hD, hK => 
              obtain rfl := Option.some.inj ho.symm
              clear ho
              have ev44 : FA.eval (.tmp 44) = .agg (msgC a b c d A n k).toArray := hD 0 44 (by kernel_rfl)
              have e44 : FA.tmps[44]?.getD undef = .agg (msgC a b c d A n k).toArray := by simpa [Act.eval] using ev44
              replace ev44 := Lib.hid ev44
              clear hO hD
              go_simp
              refine (HB.out _ (h.plus_ _ _)).mono ?_
              rintro e w1 ⟨A3, n3, c3, bs2, d2, rfl, rfl, ho2⟩
              exact hK.out _ _ (Ex.plus_ _ _ _) ⟨_, _, _, rfl, ho2.rb⟩
            | 2, _, ho, hO, hD, hK => 
              obtain rfl := Option.some.inj ho.symm
              clear ho
              have f45 := hD 1 45 (by kernel_rfl)
              generalize eu45 : FA.eval (.tmp 45) = u45 at f45
              have e45 : FA.tmps[45]?.getD undef = u45 := by rw [← eu45]; simp [Act.eval]
              have ev45 := Lib.hid eu45
              clear eu45
              clear hO hD
              obtain ⟨A1, n1, c1, rfl, hr1⟩ := f45
              have es := run_str bt Try.underlying9 hr1
              go_simp
              exact hK.out _ _ (Ex.refl _) rfl
            | 3, _, ho, hO, hD, hK => 
              obtain rfl := Option.some.inj ho.symm
              clear ho
              have ev3 : FA.eval (.tmp 3) = .pointer (some ⟨w.heap.size, 0, none⟩) := hO 3 (by kernel_rfl)
              have e3 : FA.tmps[3]?.getD undef = .pointer (some ⟨w.heap.size, 0, none⟩) := by simpa [Act.eval] using ev3
              replace ev3 := Lib.hid ev3
              clear hO hD
              refine wanted_ifG (by go_simp) ?_
              refine wp_load_mid 26 (.tmp 3) rfl (w.heap.size) 0 ev3.out (msgC a b c d A n k) _ (Bk.range (hM.later (below_plus _ _ _))) r1 r2 (szMr _ _ _ _ _ _ _) ?_
              exact hK.out _ _ (Ex.refl _) rfl
            | 4, _, ho, hO, hD, hK => 
              obtain rfl := Option.some.inj ho.symm
              clear ho
              have ev47 : FA.eval (.tmp 47) = .agg (msgC a b c d A n k).toArray := hD 3 47 (by kernel_rfl)
              have e47 : FA.tmps[47]?.getD undef = .agg (msgC a b c d A n k).toArray := by simpa [Act.eval] using ev47
              replace ev47 := Lib.hid ev47
              clear hO hD
              go_simp
              refine (HRB.out _ (h.plus_ _ _)).mono ?_
              rintro e w1 ⟨A3, n3, c3, bs2, d2, rfl, rfl, ho2⟩
              exact hK.out _ _ (Ex.plus_ _ _ _) ⟨_, _, _, rfl, ho2.rb⟩
            | 5, _, ho, hO, hD, hK => 
              obtain rfl := Option.some.inj ho.symm
              clear ho
              have f48 := hD 4 48 (by kernel_rfl)
              generalize eu48 : FA.eval (.tmp 48) = u48 at f48
              have e48 : FA.tmps[48]?.getD undef = u48 := by rw [← eu48]; simp [Act.eval]
              have ev48 := Lib.hid eu48
              clear eu48
              clear hO hD
              obtain ⟨A1, n1, c1, rfl, hr1⟩ := f48
              have es := run_str bt Try.underlying9 hr1
              go_simp
              exact hK.out _ _ (Ex.refl _) rfl
            | 6, _, ho, hO, hD, hK => 
              obtain rfl := Option.some.inj ho.symm
              clear ho
              have ev46 : FA.eval (.tmp 46) = .string ⟨Bx.toArray⟩ := hD 2 46 (by kernel_rfl)
              have e46 : FA.tmps[46]?.getD undef = .string ⟨Bx.toArray⟩ := by simpa [Act.eval] using ev46
              replace ev46 := Lib.hid ev46
              have ev49 : FA.eval (.tmp 49) = .string ⟨Bx.toArray⟩ := hD 5 49 (by kernel_rfl)
              have e49 : FA.tmps[49]?.getD undef = .string ⟨Bx.toArray⟩ := by simpa [Act.eval] using ev49
              replace ev49 := Lib.hid ev49
              clear hO hD
              go_simp
              exact hK.out _ _ (Ex.refl _) rfl
            | 7, _, ho, hO, hD, hK => 
              obtain rfl := Option.some.inj ho.symm
              clear ho
              have ev50 : FA.eval (.tmp 50) = .bool false := hD 6 50 (by kernel_rfl)
              have e50 : FA.tmps[50]?.getD undef = .bool false := by simpa [Act.eval] using ev50
              replace ev50 := Lib.hid ev50
              clear hO hD
              go_simp
              exact hK.out _ _ (Ex.refl _) rfl
            | 8, _, ho, hO, hD, hK => 
              obtain rfl := Option.some.inj ho.symm
              clear ho
              have ev8 : FA.eval (.tmp 8) = .pointer (some ⟨g8, 0, none⟩) := hO 8 (by kernel_rfl)
              have e8 : FA.tmps[8]?.getD undef = .pointer (some ⟨g8, 0, none⟩) := by simpa [Act.eval] using ev8
              replace ev8 := Lib.hid ev8
              have ev51 : FA.eval (.tmp 51) = .bool false := hD 7 51 (by kernel_rfl)
              have e51 : FA.tmps[51]?.getD undef = .bool false := by simpa [Act.eval] using ev51
              replace ev51 := Lib.hid ev51
              have ge51 := slot_of e51
              clear hO hD
              refine wanted_ifG (by go_simp) ?_
              refine wp_load_mid 32 (.tmp 8) rfl (g8) 0 ev8.out (msgC a b c d A5 n5 c5) _ (Bk.range (hY.later (below_plus _ _ _))) u1 u2 (szMs _ _ _ _ _ _ _) ?_
              exact hK.out _ _ (Ex.refl _) rfl
            | 9, _, ho, hO, hD, hK => 
              obtain rfl := Option.some.inj ho.symm
              clear ho
              have ev52 : FA.eval (.tmp 52) = .agg (msgC a b c d A5 n5 c5).toArray := hD 8 52 (by kernel_rfl)
              have e52 : FA.tmps[52]?.getD undef = .agg (msgC a b c d A5 n5 c5).toArray := by simpa [Act.eval] using ev52
              replace ev52 := Lib.hid ev52
              have ev51 : FA.eval (.tmp 51) = .bool false := hD 7 51 (by kernel_rfl)
              have e51 : FA.tmps[51]?.getD undef = .bool false := by simpa [Act.eval] using ev51
              replace ev51 := Lib.hid ev51
              have ge51 := slot_of e51
              clear hO hD
              go_simp
              refine (msOfV a b c d A5 n5 c5 _).mono ?_
              rintro e w1 ⟨bs2, d2, rfl, rfl⟩
              exact hK.out _ _ (Ex.plus_ _ _ _) rfl
            | 10, _, ho, hO, hD, hK => 
              obtain rfl := Option.some.inj ho.symm
              clear ho
              have ev3 : FA.eval (.tmp 3) = .pointer (some ⟨w.heap.size, 0, none⟩) := hO 3 (by kernel_rfl)
              have e3 : FA.tmps[3]?.getD undef = .pointer (some ⟨w.heap.size, 0, none⟩) := by simpa [Act.eval] using ev3
              replace ev3 := Lib.hid ev3
              have ev51 : FA.eval (.tmp 51) = .bool false := hD 7 51 (by kernel_rfl)
              have e51 : FA.tmps[51]?.getD undef = .bool false := by simpa [Act.eval] using ev51
              replace ev51 := Lib.hid ev51
              have ge51 := slot_of e51
              clear hO hD
              refine wanted_ifG (by go_simp) ?_
              refine wp_load_mid 26 (.tmp 3) rfl (w.heap.size) 0 ev3.out (msgC a b c d A n k) _ (Bk.range (hM.later (below_plus _ _ _))) r1 r2 (szMr _ _ _ _ _ _ _) ?_
              exact hK.out _ _ (Ex.refl _) rfl
            | 11, _, ho, hO, hD, hK => 
              obtain rfl := Option.some.inj ho.symm
              clear ho
              have ev53 : FA.eval (.tmp 53) = .agg (msgC a b c d A5 n5 c5).toArray := hD 9 53 (by kernel_rfl)
              have e53 : FA.tmps[53]?.getD undef = .agg (msgC a b c d A5 n5 c5).toArray := by simpa [Act.eval] using ev53
              replace ev53 := Lib.hid ev53
              have ev54 : FA.eval (.tmp 54) = .agg (msgC a b c d A n k).toArray := hD 10 54 (by kernel_rfl)
              have e54 : FA.tmps[54]?.getD undef = .agg (msgC a b c d A n k).toArray := by simpa [Act.eval] using ev54
              replace ev54 := Lib.hid ev54
              have ev51 : FA.eval (.tmp 51) = .bool false := hD 7 51 (by kernel_rfl)
              have e51 : FA.tmps[51]?.getD undef = .bool false := by simpa [Act.eval] using ev51
              replace ev51 := Lib.hid ev51
              have ge51 := slot_of e51
              clear hO hD
              go_simp
              refine (msSameV a b c d A5 n5 c5 A n k l _ (hy.plus_ _ _) (h.plus_ _ _)).mono ?_
              rintro e w1 ⟨bs2, d2, rfl, rfl⟩
              exact hK.out _ _ (Ex.plus_ _ _ _) rfl
            | 12, _, ho, hO, hD, hK => 
              obtain rfl := Option.some.inj ho.symm
              clear ho
              have ev55 : FA.eval (.tmp 55) = .bool true := hD 11 55 (by kernel_rfl)
              have e55 : FA.tmps[55]?.getD undef = .bool true := by simpa [Act.eval] using ev55
              replace ev55 := Lib.hid ev55
              have ev51 : FA.eval (.tmp 51) = .bool false := hD 7 51 (by kernel_rfl)
              have e51 : FA.tmps[51]?.getD undef = .bool false := by simpa [Act.eval] using ev51
              replace ev51 := Lib.hid ev51
              have ge51 := slot_of e51
              clear hO hD
              go_simp
              exact hK.out _ _ (Ex.refl _) rfl
            | 13, _, ho, hO, hD, hK => 
              obtain rfl := Option.some.inj ho.symm
              clear ho
              have ev51 : FA.eval (.tmp 51) = .bool false := hD 7 51 (by kernel_rfl)
              have e51 : FA.tmps[51]?.getD undef = .bool false := by simpa [Act.eval] using ev51
              replace ev51 := Lib.hid ev51
              have ev56 : FA.eval (.tmp 56) = .bool false := hD 12 56 (by kernel_rfl)
              have e56 : FA.tmps[56]?.getD undef = .bool false := by simpa [Act.eval] using ev56
              replace ev56 := Lib.hid ev56
              clear hO hD
              go_simp
              exact hK.out _ _ (Ex.refl _) rfl
            | 14, _, ho, hO, hD, hK => 
              obtain rfl := Option.some.inj ho.symm
              clear ho
              have ev57 : FA.eval (.tmp 57) = .bool false := hD 13 57 (by kernel_rfl)
              have e57 : FA.tmps[57]?.getD undef = .bool false := by simpa [Act.eval] using ev57
              replace ev57 := Lib.hid ev57
              clear hO hD
              go_simp
              exact hK.out _ _ (Ex.refl _) rfl
            | 15, _, ho, hO, hD, hK => 
              obtain rfl := Option.some.inj ho.symm
              clear ho
              have ev9 : FA.eval (.tmp 9) = .int .i64 0 := hO 9 (by kernel_rfl)
              have e9 : FA.tmps[9]?.getD undef = .int .i64 0 := by simpa [Act.eval] using ev9
              replace ev9 := Lib.hid ev9
              have ev58 : FA.eval (.tmp 58) = .bool false := hD 14 58 (by kernel_rfl)
              have e58 : FA.tmps[58]?.getD undef = .bool false := by simpa [Act.eval] using ev58
              replace ev58 := Lib.hid ev58
              have ge58 := slot_of e58
              clear hO hD
              go_simp
              exact hK.out _ _ (Ex.refl _) rfl
            | 16, _, ho, hO, hD, hK => 
              obtain rfl := Option.some.inj ho.symm
              clear ho
              have ev59 : FA.eval (.tmp 59) = .int .i64 0 := hD 15 59 (by kernel_rfl)
              have e59 : FA.tmps[59]?.getD undef = .int .i64 0 := by simpa [Act.eval] using ev59
              replace ev59 := Lib.hid ev59
              have ev58 : FA.eval (.tmp 58) = .bool false := hD 14 58 (by kernel_rfl)
              have e58 : FA.tmps[58]?.getD undef = .bool false := by simpa [Act.eval] using ev58
              replace ev58 := Lib.hid ev58
              have ge58 := slot_of e58
              clear hO hD
              go_simp
              exact hK.out _ _ (Ex.refl _) rfl
            | 17, _, ho, hO, hD, hK => 
              obtain rfl := Option.some.inj ho.symm
              clear ho
              have ev58 : FA.eval (.tmp 58) = .bool false := hD 14 58 (by kernel_rfl)
              have e58 : FA.tmps[58]?.getD undef = .bool false := by simpa [Act.eval] using ev58
              replace ev58 := Lib.hid ev58
              have ev60 : FA.eval (.tmp 60) = .bool false := hD 16 60 (by kernel_rfl)
              have e60 : FA.tmps[60]?.getD undef = .bool false := by simpa [Act.eval] using ev60
              replace ev60 := Lib.hid ev60
              clear hO hD
              go_simp
              exact hK.out _ _ (Ex.refl _) rfl
            | (k + 18), hi, _, _, _, _ => exact absurd hi (by omega)
          intro vs x hp
          have p0 : vs 0 = .agg (msgC a b c d A n k).toArray := hp 0 (by omega)
          have p1 := hp 1 (by omega)
          have p2 : vs 2 = .string ⟨Bx.toArray⟩ := hp 2 (by omega)
          have p3 : vs 3 = .agg (msgC a b c d A n k).toArray := hp 3 (by omega)
          have p4 := hp 4 (by omega)
          have p5 : vs 5 = .string ⟨Bx.toArray⟩ := hp 5 (by omega)
          have p6 : vs 6 = .bool false := hp 6 (by omega)
          have p7 : vs 7 = .bool false := hp 7 (by omega)
          have p8 : vs 8 = .agg (msgC a b c d A5 n5 c5).toArray := hp 8 (by omega)
          have p9 : vs 9 = .agg (msgC a b c d A5 n5 c5).toArray := hp 9 (by omega)
          have p10 : vs 10 = .agg (msgC a b c d A n k).toArray := hp 10 (by omega)
          have p11 : vs 11 = .bool true := hp 11 (by omega)
          have p12 : vs 12 = .bool false := hp 12 (by omega)
          have p13 : vs 13 = .bool false := hp 13 (by omega)
          have p14 : vs 14 = .bool false := hp 14 (by omega)
          have p15 : vs 15 = .int .i64 0 := hp 15 (by omega)
          have p16 : vs 16 = .bool false := hp 16 (by omega)
          have p17 : vs 17 = .bool false := hp 17 (by omega)
          clear hp
          simp only [List.take_succ_cons, List.take_zero, List.drop_succ_cons, List.drop_zero, putAll, Nat.zero_add, Nat.reduceAdd, Act.put, List.setIfInBounds_toArray, List.set_cons_zero, List.set_cons_succ, p0, p2, p3, p5, p6, p7, p8, p9, p10, p11, p12, p13, p14, p15, p16, p17]
          clear p0 p2 p3 p5 p6 p7 p8 p9 p10 p11 p12 p13 p14 p15 p16 p17
          generalize vs 1 = y1 at *
          generalize vs 4 = y4 at *
          clear vs
          replace hM := hM.later (below_plus _ x.bs x.d)
          replace hS := hS.later (below_plus _ x.bs x.d)
          replace hDs := hDs.later (below_plus _ x.bs x.d)
          replace hX := hX.later (below_plus _ x.bs x.d)
          replace be := belowP be x.bs x.d
          generalize plus W5 x.bs x.d = W6 at *
          go_upto_block 0 with (fail)
          refine gen_world (fun W' => Bk W' w.heap.size 26 (msgC a b c d A n k) ∧ Bk W' (w.heap.size + 1) 29 (adC s6 sh sl) ∧ Bk W' (w.heap.size + 1 + 1) 29 (adC s6 dh dl) ∧ Bk W' g7 32 (msgC a b c d A n k) ∧ Below w.heap.size w W' ∧ Bk W' W6.heap.size 4 [.bool false, .bool true]) ⟨hM.alloc _, hS.alloc _, hDs.alloc _, hX.alloc _, Below.allocS be _, Bk.newK _ _ _ rfl rfl⟩ ?_
          clear hM hS hDs hX hY be hy h
          generalize W6.heap.size = g9
          rintro W7 ⟨hM, hS, hDs, hX, be, hL⟩
          go_wp2
          go_loopw [64] (fun i wr => ∃ j : Nat, j ≤ 2 ∧ i = .int .i64 j ∧ Below W7.heap.size W7 wr) (fun i _ => 2 - (intOf i).toNat)
          case atStart => exact ⟨0, by omega, rfl, Below.refl _ _⟩
          case round =>
            obtain ⟨j, hj, rfl, hb⟩ := hrel
            replace hM := hM.later hb
            replace hX := hX.later hb
            replace hL := hL.later hb
            have q0 : wr.cell? ⟨g9, 0, none⟩ = some (.bool false) := hL.cell 0
            have q1 : wr.cell? ⟨g9, 1, none⟩ = some (.bool true) := hL.cell 1
            by_cases h0' : j = 0
            · subst h0'
              go_upto_region 13 with (fail)
              go_wp2
              refine wp_rel 17 119 rfl (by kernel_rfl) (by kernel_rfl) (fun i => match i with | 0 => MP.eq (.agg (msgC a b c d A n k).toArray) | 1 => MP.eq (.bool false) | 2 => MP.eq (.bool (icE false a)) | 3 => MP.eq (.agg (msgC a b c d A n k).toArray) | 4 => MP.eq (.bool false) | 5 => MP.eq (.bool (icE false a)) | 6 => MP.eq (.bool false) | 7 => MP.eq (.bool false) | 8 => MP.eq (.agg (msgC a b c d A n k).toArray) | 9 => MP.eq (.bool false) | 10 => MP.eq (.bool ((a : Int) == 8)) | 11 => MP.eq (.pointer (some ⟨w.heap.size, 0, none⟩)) | 12 => MP.eq (.int .u8 (a : Int)) | 13 => MP.eq (.int .u8 8) | 14 => MP.eq (.bool ((a : Int) == 8)) | 15 => MP.eq (.bool false) | 16 => MP.eq (.bool false) | _ => MP.any) ?_ ?_
              · intro i hi o ho FA x hO hD K hK
                match i, hi, ho, hO, hD, hK with
                | 0, _, ho, hO, hD, hK => 
                  obtain rfl := Option.some.inj ho.symm
                  clear ho
                  have ev7 : FA.eval (.tmp 7) = .pointer (some ⟨g7, 0, none⟩) := hO 7 (by kernel_rfl)
                  have e7 : FA.tmps[7]?.getD undef = .pointer (some ⟨g7, 0, none⟩) := by simpa [Act.eval] using ev7
                  replace ev7 := Lib.hid ev7
                  clear hO hD
                  refine wanted_ifG (by go_simp) ?_
                  refine wp_load_mid 32 (.tmp 7) rfl (g7) 0 ev7.out (msgC a b c d A n k) _ (Bk.range (hX.later (below_plus _ _ _))) u1 u2 (szMs _ _ _ _ _ _ _) ?_
                  exact hK.out _ _ (Ex.refl _) rfl
                | 1, _, ho, hO, hD, hK => 
                  obtain rfl := Option.some.inj ho.symm
                  clear ho
                  have ev11 : FA.eval (.tmp 11) = .bool false := hO 11 (by kernel_rfl)
                  have e11 : FA.tmps[11]?.getD undef = .bool false := by simpa [Act.eval] using ev11
                  replace ev11 := Lib.hid ev11
                  clear hO hD
                  go_simp
                  exact hK.out _ _ (Ex.refl _) rfl
                | 2, _, ho, hO, hD, hK => 
                  obtain rfl := Option.some.inj ho.symm
                  clear ho
                  have ev69 : FA.eval (.tmp 69) = .agg (msgC a b c d A n k).toArray := hD 0 69 (by kernel_rfl)
                  have e69 : FA.tmps[69]?.getD undef = .agg (msgC a b c d A n k).toArray := by simpa [Act.eval] using ev69
                  replace ev69 := Lib.hid ev69
                  have ev70 : FA.eval (.tmp 70) = .bool false := hD 1 70 (by kernel_rfl)
                  have e70 : FA.tmps[70]?.getD undef = .bool false := by simpa [Act.eval] using ev70
                  replace ev70 := Lib.hid ev70
                  clear hO hD
                  go_simp
                  refine (icmpError a b c d A n k false _).mono ?_
                  rintro e w1 ⟨bs2, d2, rfl, rfl⟩
                  exact hK.out _ _ (Ex.plus_ _ _ _) rfl
                | 3, _, ho, hO, hD, hK => 
                  obtain rfl := Option.some.inj ho.symm
                  clear ho
                  have ev3 : FA.eval (.tmp 3) = .pointer (some ⟨w.heap.size, 0, none⟩) := hO 3 (by kernel_rfl)
                  have e3 : FA.tmps[3]?.getD undef = .pointer (some ⟨w.heap.size, 0, none⟩) := by simpa [Act.eval] using ev3
                  replace ev3 := Lib.hid ev3
                  clear hO hD
                  refine wanted_ifG (by go_simp) ?_
                  refine wp_load_mid 26 (.tmp 3) rfl (w.heap.size) 0 ev3.out (msgC a b c d A n k) _ (Bk.range (hM.later (below_plus _ _ _))) r1 r2 (szMr _ _ _ _ _ _ _) ?_
                  exact hK.out _ _ (Ex.refl _) rfl
                | 4, _, ho, hO, hD, hK => 
                  obtain rfl := Option.some.inj ho.symm
                  clear ho
                  have ev11 : FA.eval (.tmp 11) = .bool false := hO 11 (by kernel_rfl)
                  have e11 : FA.tmps[11]?.getD undef = .bool false := by simpa [Act.eval] using ev11
                  replace ev11 := Lib.hid ev11
                  clear hO hD
                  go_simp
                  exact hK.out _ _ (Ex.refl _) rfl
                | 5, _, ho, hO, hD, hK => 
                  obtain rfl := Option.some.inj ho.symm
                  clear ho
                  have ev72 : FA.eval (.tmp 72) = .agg (msgC a b c d A n k).toArray := hD 3 72 (by kernel_rfl)
                  have e72 : FA.tmps[72]?.getD undef = .agg (msgC a b c d A n k).toArray := by simpa [Act.eval] using ev72
                  replace ev72 := Lib.hid ev72
                  have ev73 : FA.eval (.tmp 73) = .bool false := hD 4 73 (by kernel_rfl)
                  have e73 : FA.tmps[73]?.getD undef = .bool false := by simpa [Act.eval] using ev73
                  replace ev73 := Lib.hid ev73
                  clear hO hD
                  go_simp
                  refine (refIcmpError a b c d A n k false _).mono ?_
                  rintro e w1 ⟨bs2, d2, rfl, rfl⟩
                  exact hK.out _ _ (Ex.plus_ _ _ _) rfl
                | 6, _, ho, hO, hD, hK => 
                  obtain rfl := Option.some.inj ho.symm
                  clear ho
                  have ev71 : FA.eval (.tmp 71) = .bool (icE false a) := hD 2 71 (by kernel_rfl)
                  have e71 : FA.tmps[71]?.getD undef = .bool (icE false a) := by simpa [Act.eval] using ev71
                  replace ev71 := Lib.hid ev71
                  have ev74 : FA.eval (.tmp 74) = .bool (icE false a) := hD 5 74 (by kernel_rfl)
                  have e74 : FA.tmps[74]?.getD undef = .bool (icE false a) := by simpa [Act.eval] using ev74
                  replace ev74 := Lib.hid ev74
                  clear hO hD
                  go_simp
                  exact hK.out _ _ (Ex.refl _) rfl
                | 7, _, ho, hO, hD, hK => 
                  obtain rfl := Option.some.inj ho.symm
                  clear ho
                  have ev75 : FA.eval (.tmp 75) = .bool false := hD 6 75 (by kernel_rfl)
                  have e75 : FA.tmps[75]?.getD undef = .bool false := by simpa [Act.eval] using ev75
                  replace ev75 := Lib.hid ev75
                  clear hO hD
                  go_simp
                  exact hK.out _ _ (Ex.refl _) rfl
                | 8, _, ho, hO, hD, hK => 
                  obtain rfl := Option.some.inj ho.symm
                  clear ho
                  have ev7 : FA.eval (.tmp 7) = .pointer (some ⟨g7, 0, none⟩) := hO 7 (by kernel_rfl)
                  have e7 : FA.tmps[7]?.getD undef = .pointer (some ⟨g7, 0, none⟩) := by simpa [Act.eval] using ev7
                  replace ev7 := Lib.hid ev7
                  have ev76 : FA.eval (.tmp 76) = .bool false := hD 7 76 (by kernel_rfl)
                  have e76 : FA.tmps[76]?.getD undef = .bool false := by simpa [Act.eval] using ev76
                  replace ev76 := Lib.hid ev76
                  have ge76 := slot_of e76
                  clear hO hD
                  refine wanted_ifG (by go_simp) ?_
                  refine wp_load_mid 32 (.tmp 7) rfl (g7) 0 ev7.out (msgC a b c d A n k) _ (Bk.range (hX.later (below_plus _ _ _))) u1 u2 (szMs _ _ _ _ _ _ _) ?_
                  exact hK.out _ _ (Ex.refl _) rfl
                | 9, _, ho, hO, hD, hK => 
                  obtain rfl := Option.some.inj ho.symm
                  clear ho
                  have ev11 : FA.eval (.tmp 11) = .bool false := hO 11 (by kernel_rfl)
                  have e11 : FA.tmps[11]?.getD undef = .bool false := by simpa [Act.eval] using ev11
                  replace ev11 := Lib.hid ev11
                  have ev76 : FA.eval (.tmp 76) = .bool false := hD 7 76 (by kernel_rfl)
                  have e76 : FA.tmps[76]?.getD undef = .bool false := by simpa [Act.eval] using ev76
                  replace ev76 := Lib.hid ev76
                  have ge76 := slot_of e76
                  clear hO hD
                  go_simp
                  exact hK.out _ _ (Ex.refl _) rfl
                | 10, _, ho, hO, hD, hK => 
                  obtain rfl := Option.some.inj ho.symm
                  clear ho
                  have ev77 : FA.eval (.tmp 77) = .agg (msgC a b c d A n k).toArray := hD 8 77 (by kernel_rfl)
                  have e77 : FA.tmps[77]?.getD undef = .agg (msgC a b c d A n k).toArray := by simpa [Act.eval] using ev77
                  replace ev77 := Lib.hid ev77
                  have ev78 : FA.eval (.tmp 78) = .bool false := hD 9 78 (by kernel_rfl)
                  have e78 : FA.tmps[78]?.getD undef = .bool false := by simpa [Act.eval] using ev78
                  replace ev78 := Lib.hid ev78
                  have ev76 : FA.eval (.tmp 76) = .bool false := hD 7 76 (by kernel_rfl)
                  have e76 : FA.tmps[76]?.getD undef = .bool false := by simpa [Act.eval] using ev76
                  replace ev76 := Lib.hid ev76
                  have ge76 := slot_of e76
                  clear hO hD
                  go_simp
                  refine (icmpEcho a b c d A n k false _).mono ?_
                  rintro e w1 ⟨bs2, d2, rfl, rfl⟩
                  exact hK.out _ _ (Ex.plus_ _ _ _) rfl
                | 11, _, ho, hO, hD, hK => 
                  obtain rfl := Option.some.inj ho.symm
                  clear ho
                  have ev3 : FA.eval (.tmp 3) = .pointer (some ⟨w.heap.size, 0, none⟩) := hO 3 (by kernel_rfl)
                  have e3 : FA.tmps[3]?.getD undef = .pointer (some ⟨w.heap.size, 0, none⟩) := by simpa [Act.eval] using ev3
                  replace ev3 := Lib.hid ev3
                  have ev76 : FA.eval (.tmp 76) = .bool false := hD 7 76 (by kernel_rfl)
                  have e76 : FA.tmps[76]?.getD undef = .bool false := by simpa [Act.eval] using ev76
                  replace ev76 := Lib.hid ev76
                  have ge76 := slot_of e76
                  clear hO hD
                  go_simp
                  exact hK.out _ _ (Ex.refl _) rfl
                | 12, _, ho, hO, hD, hK => 
                  obtain rfl := Option.some.inj ho.symm
                  clear ho
                  have ev80 : FA.eval (.tmp 80) = .pointer (some ⟨w.heap.size, 0, none⟩) := hD 11 80 (by kernel_rfl)
                  have e80 : FA.tmps[80]?.getD undef = .pointer (some ⟨w.heap.size, 0, none⟩) := by simpa [Act.eval] using ev80
                  replace ev80 := Lib.hid ev80
                  have ev76 : FA.eval (.tmp 76) = .bool false := hD 7 76 (by kernel_rfl)
                  have e76 : FA.tmps[76]?.getD undef = .bool false := by simpa [Act.eval] using ev76
                  replace ev76 := Lib.hid ev76
                  have ge76 := slot_of e76
                  clear hO hD
                  have cc : ∀ bs d, (plus wr bs d).cell? ⟨w.heap.size, 0, none⟩ = some (.int .u8 (a : Int)) := fun bs d => (hM.later (below_plus _ bs d)).cell 0
                  have cc2 := cc x.bs x.d
                  clear cc
                  go_simp
                  exact hK.out _ _ (Ex.refl _) rfl
                | 13, _, ho, hO, hD, hK => 
                  obtain rfl := Option.some.inj ho.symm
                  clear ho
                  have ev12 : FA.eval (.tmp 12) = .int .u8 8 := hO 12 (by kernel_rfl)
                  have e12 : FA.tmps[12]?.getD undef = .int .u8 8 := by simpa [Act.eval] using ev12
                  replace ev12 := Lib.hid ev12
                  have ev76 : FA.eval (.tmp 76) = .bool false := hD 7 76 (by kernel_rfl)
                  have e76 : FA.tmps[76]?.getD undef = .bool false := by simpa [Act.eval] using ev76
                  replace ev76 := Lib.hid ev76
                  have ge76 := slot_of e76
                  clear hO hD
                  go_simp
                  exact hK.out _ _ (Ex.refl _) rfl
                | 14, _, ho, hO, hD, hK => 
                  obtain rfl := Option.some.inj ho.symm
                  clear ho
                  have ev81 : FA.eval (.tmp 81) = .int .u8 (a : Int) := hD 12 81 (by kernel_rfl)
                  have e81 : FA.tmps[81]?.getD undef = .int .u8 (a : Int) := by simpa [Act.eval] using ev81
                  replace ev81 := Lib.hid ev81
                  have ev82 : FA.eval (.tmp 82) = .int .u8 8 := hD 13 82 (by kernel_rfl)
                  have e82 : FA.tmps[82]?.getD undef = .int .u8 8 := by simpa [Act.eval] using ev82
                  replace ev82 := Lib.hid ev82
                  have ev76 : FA.eval (.tmp 76) = .bool false := hD 7 76 (by kernel_rfl)
                  have e76 : FA.tmps[76]?.getD undef = .bool false := by simpa [Act.eval] using ev76
                  replace ev76 := Lib.hid ev76
                  have ge76 := slot_of e76
                  clear hO hD
                  go_simp
                  exact hK.out _ _ (Ex.refl _) rfl
                | 15, _, ho, hO, hD, hK => 
                  obtain rfl := Option.some.inj ho.symm
                  clear ho
                  have ev79 : FA.eval (.tmp 79) = .bool ((a : Int) == 8) := hD 10 79 (by kernel_rfl)
                  have e79 : FA.tmps[79]?.getD undef = .bool ((a : Int) == 8) := by simpa [Act.eval] using ev79
                  replace ev79 := Lib.hid ev79
                  have ev83 : FA.eval (.tmp 83) = .bool ((a : Int) == 8) := hD 14 83 (by kernel_rfl)
                  have e83 : FA.tmps[83]?.getD undef = .bool ((a : Int) == 8) := by simpa [Act.eval] using ev83
                  replace ev83 := Lib.hid ev83
                  have ev76 : FA.eval (.tmp 76) = .bool false := hD 7 76 (by kernel_rfl)
                  have e76 : FA.tmps[76]?.getD undef = .bool false := by simpa [Act.eval] using ev76
                  replace ev76 := Lib.hid ev76
                  have ge76 := slot_of e76
                  clear hO hD
                  go_simp
                  exact hK.out _ _ (Ex.refl _) rfl
                | 16, _, ho, hO, hD, hK => 
                  obtain rfl := Option.some.inj ho.symm
                  clear ho
                  have ev76 : FA.eval (.tmp 76) = .bool false := hD 7 76 (by kernel_rfl)
                  have e76 : FA.tmps[76]?.getD undef = .bool false := by simpa [Act.eval] using ev76
                  replace ev76 := Lib.hid ev76
                  have ev84 : FA.eval (.tmp 84) = .bool false := hD 15 84 (by kernel_rfl)
                  have e84 : FA.tmps[84]?.getD undef = .bool false := by simpa [Act.eval] using ev84
                  replace ev84 := Lib.hid ev84
                  clear hO hD
                  go_simp
                  exact hK.out _ _ (Ex.refl _) rfl
                | (k + 17), hi, _, _, _, _ => exact absurd hi (by omega)
              intro vs x hp
              have p0 : vs 0 = .agg (msgC a b c d A n k).toArray := hp 0 (by omega)
              have p1 : vs 1 = .bool false := hp 1 (by omega)
              have p2 : vs 2 = .bool (icE false a) := hp 2 (by omega)
              have p3 : vs 3 = .agg (msgC a b c d A n k).toArray := hp 3 (by omega)
              have p4 : vs 4 = .bool false := hp 4 (by omega)
              have p5 : vs 5 = .bool (icE false a) := hp 5 (by omega)
              have p6 : vs 6 = .bool false := hp 6 (by omega)
              have p7 : vs 7 = .bool false := hp 7 (by omega)
              have p8 : vs 8 = .agg (msgC a b c d A n k).toArray := hp 8 (by omega)
              have p9 : vs 9 = .bool false := hp 9 (by omega)
              have p10 : vs 10 = .bool ((a : Int) == 8) := hp 10 (by omega)
              have p11 : vs 11 = .pointer (some ⟨w.heap.size, 0, none⟩) := hp 11 (by omega)
              have p12 : vs 12 = .int .u8 (a : Int) := hp 12 (by omega)
              have p13 : vs 13 = .int .u8 8 := hp 13 (by omega)
              have p14 : vs 14 = .bool ((a : Int) == 8) := hp 14 (by omega)
              have p15 : vs 15 = .bool false := hp 15 (by omega)
              have p16 : vs 16 = .bool false := hp 16 (by omega)
              clear hp
              simp only [List.take_succ_cons, List.take_zero, List.drop_succ_cons, List.drop_zero, putAll, Nat.zero_add, Nat.reduceAdd, Act.put, List.setIfInBounds_toArray, List.set_cons_zero, List.set_cons_succ, p0, p1, p2, p3, p4, p5, p6, p7, p8, p9, p10, p11, p12, p13, p14, p15, p16]
              clear p0 p1 p2 p3 p4 p5 p6 p7 p8 p9 p10 p11 p12 p13 p14 p15 p16
              clear vs
              go_wp2
              go_roundw
              case rel => exact ⟨1, by omega, rfl, hb.trans (belowP (Below.refl _ _) _ _ |>.mono hb.size)⟩
              case measure => simp [intOf]
            · by_cases h1' : j = 1
              · subst h1'
                go_upto_region 13 with (fail)
                go_wp2
                refine wp_rel 17 119 rfl (by kernel_rfl) (by kernel_rfl) (fun i => match i with | 0 => MP.eq (.agg (msgC a b c d A n k).toArray) | 1 => MP.eq (.bool true) | 2 => MP.eq (.bool (icE true a)) | 3 => MP.eq (.agg (msgC a b c d A n k).toArray) | 4 => MP.eq (.bool true) | 5 => MP.eq (.bool (icE true a)) | 6 => MP.eq (.bool false) | 7 => MP.eq (.bool false) | 8 => MP.eq (.agg (msgC a b c d A n k).toArray) | 9 => MP.eq (.bool true) | 10 => MP.eq (.bool ((a : Int) == 128)) | 11 => MP.eq (.pointer (some ⟨w.heap.size, 0, none⟩)) | 12 => MP.eq (.int .u8 (a : Int)) | 13 => MP.eq (.int .u8 128) | 14 => MP.eq (.bool ((a : Int) == 128)) | 15 => MP.eq (.bool false) | 16 => MP.eq (.bool false) | _ => MP.any) ?_ ?_
                · intro i hi o ho FA x hO hD K hK
                  match i, hi, ho, hO, hD, hK with
                  | 0, _, ho, hO, hD, hK => 
                    obtain rfl := Option.some.inj ho.symm
                    clear ho
                    have ev7 : FA.eval (.tmp 7) = .pointer (some ⟨g7, 0, none⟩) := hO 7 (by kernel_rfl)
                    have e7 : FA.tmps[7]?.getD undef = .pointer (some ⟨g7, 0, none⟩) := by simpa [Act.eval] using ev7
                    replace ev7 := Lib.hid ev7
                    clear hO hD
                    refine wanted_ifG (by go_simp) ?_
                    refine wp_load_mid 32 (.tmp 7) rfl (g7) 0 ev7.out (msgC a b c d A n k) _ (Bk.range (hX.later (below_plus _ _ _))) u1 u2 (szMs _ _ _ _ _ _ _) ?_
                    exact hK.out _ _ (Ex.refl _) rfl
                  | 1, _, ho, hO, hD, hK => 
                    obtain rfl := Option.some.inj ho.symm
                    clear ho
                    have ev11 : FA.eval (.tmp 11) = .bool true := hO 11 (by kernel_rfl)
                    have e11 : FA.tmps[11]?.getD undef = .bool true := by simpa [Act.eval] using ev11
                    replace ev11 := Lib.hid ev11
                    clear hO hD
                    go_simp
                    exact hK.out _ _ (Ex.refl _) rfl
                  | 2, _, ho, hO, hD, hK => 
                    obtain rfl := Option.some.inj ho.symm
                    clear ho
                    have ev69 : FA.eval (.tmp 69) = .agg (msgC a b c d A n k).toArray := hD 0 69 (by kernel_rfl)
                    have e69 : FA.tmps[69]?.getD undef = .agg (msgC a b c d A n k).toArray := by simpa [Act.eval] using ev69
                    replace ev69 := Lib.hid ev69
                    have ev70 : FA.eval (.tmp 70) = .bool true := hD 1 70 (by kernel_rfl)
                    have e70 : FA.tmps[70]?.getD undef = .bool true := by simpa [Act.eval] using ev70
                    replace ev70 := Lib.hid ev70
                    clear hO hD
                    go_simp
                    refine (icmpError a b c d A n k true _).mono ?_
                    rintro e w1 ⟨bs2, d2, rfl, rfl⟩
                    exact hK.out _ _ (Ex.plus_ _ _ _) rfl
                  | 3, _, ho, hO, hD, hK => 
                    obtain rfl := Option.some.inj ho.symm
                    clear ho
                    have ev3 : FA.eval (.tmp 3) = .pointer (some ⟨w.heap.size, 0, none⟩) := hO 3 (by kernel_rfl)
                    have e3 : FA.tmps[3]?.getD undef = .pointer (some ⟨w.heap.size, 0, none⟩) := by simpa [Act.eval] using ev3
                    replace ev3 := Lib.hid ev3
                    clear hO hD
                    refine wanted_ifG (by go_simp) ?_
                    refine wp_load_mid 26 (.tmp 3) rfl (w.heap.size) 0 ev3.out (msgC a b c d A n k) _ (Bk.range (hM.later (below_plus _ _ _))) r1 r2 (szMr _ _ _ _ _ _ _) ?_
                    exact hK.out _ _ (Ex.refl _) rfl
                  | 4, _, ho, hO, hD, hK => 
                    obtain rfl := Option.some.inj ho.symm
                    clear ho
                    have ev11 : FA.eval (.tmp 11) = .bool true := hO 11 (by kernel_rfl)
                    have e11 : FA.tmps[11]?.getD undef = .bool true := by simpa [Act.eval] using ev11
                    replace ev11 := Lib.hid ev11
                    clear hO hD
                    go_simp
                    exact hK.out _ _ (Ex.refl _) rfl
                  | 5, _, ho, hO, hD, hK => 
                    obtain rfl := Option.some.inj ho.symm
                    clear ho
                    have ev72 : FA.eval (.tmp 72) = .agg (msgC a b c d A n k).toArray := hD 3 72 (by kernel_rfl)
                    have e72 : FA.tmps[72]?.getD undef = .agg (msgC a b c d A n k).toArray := by simpa [Act.eval] using ev72
                    replace ev72 := Lib.hid ev72
                    have ev73 : FA.eval (.tmp 73) = .bool true := hD 4 73 (by kernel_rfl)
                    have e73 : FA.tmps[73]?.getD undef = .bool true := by simpa [Act.eval] using ev73
                    replace ev73 := Lib.hid ev73
                    clear hO hD
                    go_simp
                    refine (refIcmpError a b c d A n k true _).mono ?_
                    rintro e w1 ⟨bs2, d2, rfl, rfl⟩
                    exact hK.out _ _ (Ex.plus_ _ _ _) rfl
                  | 6, _, ho, hO, hD, hK => 
                    obtain rfl := Option.some.inj ho.symm
                    clear ho
                    have ev71 : FA.eval (.tmp 71) = .bool (icE true a) := hD 2 71 (by kernel_rfl)
                    have e71 : FA.tmps[71]?.getD undef = .bool (icE true a) := by simpa [Act.eval] using ev71
                    replace ev71 := Lib.hid ev71
                    have ev74 : FA.eval (.tmp 74) = .bool (icE true a) := hD 5 74 (by kernel_rfl)
                    have e74 : FA.tmps[74]?.getD undef = .bool (icE true a) := by simpa [Act.eval] using ev74
                    replace ev74 := Lib.hid ev74
                    clear hO hD
                    go_simp
                    exact hK.out _ _ (Ex.refl _) rfl
                  | 7, _, ho, hO, hD, hK => 
                    obtain rfl := Option.some.inj ho.symm
                    clear ho
                    have ev75 : FA.eval (.tmp 75) = .bool false := hD 6 75 (by kernel_rfl)
                    have e75 : FA.tmps[75]?.getD undef = .bool false := by simpa [Act.eval] using ev75
                    replace ev75 := Lib.hid ev75
                    clear hO hD
                    go_simp
                    exact hK.out _ _ (Ex.refl _) rfl
                  | 8, _, ho, hO, hD, hK => 
                    obtain rfl := Option.some.inj ho.symm
                    clear ho
                    have ev7 : FA.eval (.tmp 7) = .pointer (some ⟨g7, 0, none⟩) := hO 7 (by kernel_rfl)
                    have e7 : FA.tmps[7]?.getD undef = .pointer (some ⟨g7, 0, none⟩) := by simpa [Act.eval] using ev7
                    replace ev7 := Lib.hid ev7
                    have ev76 : FA.eval (.tmp 76) = .bool false := hD 7 76 (by kernel_rfl)
                    have e76 : FA.tmps[76]?.getD undef = .bool false := by simpa [Act.eval] using ev76
                    replace ev76 := Lib.hid ev76
                    have ge76 := slot_of e76
                    clear hO hD
                    refine wanted_ifG (by go_simp) ?_
                    refine wp_load_mid 32 (.tmp 7) rfl (g7) 0 ev7.out (msgC a b c d A n k) _ (Bk.range (hX.later (below_plus _ _ _))) u1 u2 (szMs _ _ _ _ _ _ _) ?_
                    exact hK.out _ _ (Ex.refl _) rfl
                  | 9, _, ho, hO, hD, hK => 
                    obtain rfl := Option.some.inj ho.symm
                    clear ho
                    have ev11 : FA.eval (.tmp 11) = .bool true := hO 11 (by kernel_rfl)
                    have e11 : FA.tmps[11]?.getD undef = .bool true := by simpa [Act.eval] using ev11
                    replace ev11 := Lib.hid ev11
                    have ev76 : FA.eval (.tmp 76) = .bool false := hD 7 76 (by kernel_rfl)
                    have e76 : FA.tmps[76]?.getD undef = .bool false := by simpa [Act.eval] using ev76
                    replace ev76 := Lib.hid ev76
                    have ge76 := slot_of e76
                    clear hO hD
                    go_simp
                    exact hK.out _ _ (Ex.refl _) rfl
                  | 10, _, ho, hO, hD, hK => 
                    obtain rfl := Option.some.inj ho.symm
                    clear ho
                    have ev77 : FA.eval (.tmp 77) = .agg (msgC a b c d A n k).toArray := hD 8 77 (by kernel_rfl)
                    have e77 : FA.tmps[77]?.getD undef = .agg (msgC a b c d A n k).toArray := by simpa [Act.eval] using ev77
                    replace ev77 := Lib.hid ev77
                    have ev78 : FA.eval (.tmp 78) = .bool true := hD 9 78 (by kernel_rfl)
                    have e78 : FA.tmps[78]?.getD undef = .bool true := by simpa [Act.eval] using ev78
                    replace ev78 := Lib.hid ev78
                    have ev76 : FA.eval (.tmp 76) = .bool false := hD 7 76 (by kernel_rfl)
                    have e76 : FA.tmps[76]?.getD undef = .bool false := by simpa [Act.eval] using ev76
                    replace ev76 := Lib.hid ev76
                    have ge76 := slot_of e76
                    clear hO hD
                    go_simp
                    refine (icmpEcho a b c d A n k true _).mono ?_
                    rintro e w1 ⟨bs2, d2, rfl, rfl⟩
                    exact hK.out _ _ (Ex.plus_ _ _ _) rfl
                  | 11, _, ho, hO, hD, hK => 
                    obtain rfl := Option.some.inj ho.symm
                    clear ho
                    have ev3 : FA.eval (.tmp 3) = .pointer (some ⟨w.heap.size, 0, none⟩) := hO 3 (by kernel_rfl)
                    have e3 : FA.tmps[3]?.getD undef = .pointer (some ⟨w.heap.size, 0, none⟩) := by simpa [Act.eval] using ev3
                    replace ev3 := Lib.hid ev3
                    have ev76 : FA.eval (.tmp 76) = .bool false := hD 7 76 (by kernel_rfl)
                    have e76 : FA.tmps[76]?.getD undef = .bool false := by simpa [Act.eval] using ev76
                    replace ev76 := Lib.hid ev76
                    have ge76 := slot_of e76
                    clear hO hD
                    go_simp
                    exact hK.out _ _ (Ex.refl _) rfl
                  | 12, _, ho, hO, hD, hK => 
                    obtain rfl := Option.some.inj ho.symm
                    clear ho
                    have ev80 : FA.eval (.tmp 80) = .pointer (some ⟨w.heap.size, 0, none⟩) := hD 11 80 (by kernel_rfl)
                    have e80 : FA.tmps[80]?.getD undef = .pointer (some ⟨w.heap.size, 0, none⟩) := by simpa [Act.eval] using ev80
                    replace ev80 := Lib.hid ev80
                    have ev76 : FA.eval (.tmp 76) = .bool false := hD 7 76 (by kernel_rfl)
                    have e76 : FA.tmps[76]?.getD undef = .bool false := by simpa [Act.eval] using ev76
                    replace ev76 := Lib.hid ev76
                    have ge76 := slot_of e76
                    clear hO hD
                    have cc : ∀ bs d, (plus wr bs d).cell? ⟨w.heap.size, 0, none⟩ = some (.int .u8 (a : Int)) := fun bs d => (hM.later (below_plus _ bs d)).cell 0
                    have cc2 := cc x.bs x.d
                    clear cc
                    go_simp
                    exact hK.out _ _ (Ex.refl _) rfl
                  | 13, _, ho, hO, hD, hK => 
                    obtain rfl := Option.some.inj ho.symm
                    clear ho
                    have ev12 : FA.eval (.tmp 12) = .int .u8 128 := hO 12 (by kernel_rfl)
                    have e12 : FA.tmps[12]?.getD undef = .int .u8 128 := by simpa [Act.eval] using ev12
                    replace ev12 := Lib.hid ev12
                    have ev76 : FA.eval (.tmp 76) = .bool false := hD 7 76 (by kernel_rfl)
                    have e76 : FA.tmps[76]?.getD undef = .bool false := by simpa [Act.eval] using ev76
                    replace ev76 := Lib.hid ev76
                    have ge76 := slot_of e76
                    clear hO hD
                    go_simp
                    exact hK.out _ _ (Ex.refl _) rfl
                  | 14, _, ho, hO, hD, hK => 
                    obtain rfl := Option.some.inj ho.symm
                    clear ho
                    have ev81 : FA.eval (.tmp 81) = .int .u8 (a : Int) := hD 12 81 (by kernel_rfl)
                    have e81 : FA.tmps[81]?.getD undef = .int .u8 (a : Int) := by simpa [Act.eval] using ev81
                    replace ev81 := Lib.hid ev81
                    have ev82 : FA.eval (.tmp 82) = .int .u8 128 := hD 13 82 (by kernel_rfl)
                    have e82 : FA.tmps[82]?.getD undef = .int .u8 128 := by simpa [Act.eval] using ev82
                    replace ev82 := Lib.hid ev82
                    have ev76 : FA.eval (.tmp 76) = .bool false := hD 7 76 (by kernel_rfl)
                    have e76 : FA.tmps[76]?.getD undef = .bool false := by simpa [Act.eval] using ev76
                    replace ev76 := Lib.hid ev76
                    have ge76 := slot_of e76
                    clear hO hD
                    go_simp
                    exact hK.out _ _ (Ex.refl _) rfl
                  | 15, _, ho, hO, hD, hK => 
                    obtain rfl := Option.some.inj ho.symm
                    clear ho
                    have ev79 : FA.eval (.tmp 79) = .bool ((a : Int) == 128) := hD 10 79 (by kernel_rfl)
                    have e79 : FA.tmps[79]?.getD undef = .bool ((a : Int) == 128) := by simpa [Act.eval] using ev79
                    replace ev79 := Lib.hid ev79
                    have ev83 : FA.eval (.tmp 83) = .bool ((a : Int) == 128) := hD 14 83 (by kernel_rfl)
                    have e83 : FA.tmps[83]?.getD undef = .bool ((a : Int) == 128) := by simpa [Act.eval] using ev83
                    replace ev83 := Lib.hid ev83
                    have ev76 : FA.eval (.tmp 76) = .bool false := hD 7 76 (by kernel_rfl)
                    have e76 : FA.tmps[76]?.getD undef = .bool false := by simpa [Act.eval] using ev76
                    replace ev76 := Lib.hid ev76
                    have ge76 := slot_of e76
                    clear hO hD
                    go_simp
                    exact hK.out _ _ (Ex.refl _) rfl
                  | 16, _, ho, hO, hD, hK => 
                    obtain rfl := Option.some.inj ho.symm
                    clear ho
                    have ev76 : FA.eval (.tmp 76) = .bool false := hD 7 76 (by kernel_rfl)
                    have e76 : FA.tmps[76]?.getD undef = .bool false := by simpa [Act.eval] using ev76
                    replace ev76 := Lib.hid ev76
                    have ev84 : FA.eval (.tmp 84) = .bool false := hD 15 84 (by kernel_rfl)
                    have e84 : FA.tmps[84]?.getD undef = .bool false := by simpa [Act.eval] using ev84
                    replace ev84 := Lib.hid ev84
                    clear hO hD
                    go_simp
                    exact hK.out _ _ (Ex.refl _) rfl
                  | (k + 17), hi, _, _, _, _ => exact absurd hi (by omega)
                intro vs x hp
                have p0 : vs 0 = .agg (msgC a b c d A n k).toArray := hp 0 (by omega)
                have p1 : vs 1 = .bool true := hp 1 (by omega)
                have p2 : vs 2 = .bool (icE true a) := hp 2 (by omega)
                have p3 : vs 3 = .agg (msgC a b c d A n k).toArray := hp 3 (by omega)
                have p4 : vs 4 = .bool true := hp 4 (by omega)
                have p5 : vs 5 = .bool (icE true a) := hp 5 (by omega)
                have p6 : vs 6 = .bool false := hp 6 (by omega)
                have p7 : vs 7 = .bool false := hp 7 (by omega)
                have p8 : vs 8 = .agg (msgC a b c d A n k).toArray := hp 8 (by omega)
                have p9 : vs 9 = .bool true := hp 9 (by omega)
                have p10 : vs 10 = .bool ((a : Int) == 128) := hp 10 (by omega)
                have p11 : vs 11 = .pointer (some ⟨w.heap.size, 0, none⟩) := hp 11 (by omega)
                have p12 : vs 12 = .int .u8 (a : Int) := hp 12 (by omega)
                have p13 : vs 13 = .int .u8 128 := hp 13 (by omega)
                have p14 : vs 14 = .bool ((a : Int) == 128) := hp 14 (by omega)
                have p15 : vs 15 = .bool false := hp 15 (by omega)
                have p16 : vs 16 = .bool false := hp 16 (by omega)
                clear hp
                simp only [List.take_succ_cons, List.take_zero, List.drop_succ_cons, List.drop_zero, putAll, Nat.zero_add, Nat.reduceAdd, Act.put, List.setIfInBounds_toArray, List.set_cons_zero, List.set_cons_succ, p0, p1, p2, p3, p4, p5, p6, p7, p8, p9, p10, p11, p12, p13, p14, p15, p16]
                clear p0 p1 p2 p3 p4 p5 p6 p7 p8 p9 p10 p11 p12 p13 p14 p15 p16
                clear vs
                go_wp2
                go_roundw
                case rel => exact ⟨2, by omega, rfl, hb.trans (belowP (Below.refl _ _) _ _ |>.mono hb.size)⟩
                case measure => simp [intOf]
              · obtain rfl : j = 2 := by omega
                replace hS := hS.later hb
                replace hDs := hDs.later hb
                have zb := be.size
                replace be := be.trans (hb.mono zb)
                have h8 := h0.later be
                clear hL q0 q1 zb
                go_upto_region 17 with (first
                  | (refine at_op (.load 32 (.tmp 7)) rfl ?_; refine wpList_ldA (t := 32) 32 (.tmp 7) rfl rfl (msgC a b c d A n k) rfl (by with_reducible repeat (first | exact hX | refine Bk.later ?_ (below_plus _ _ _) | refine Bk.alloc ?_ _)) (whole_ _) u1 u2 (szMs _ _ _ _ _ _ _) ?_)
                  | (refine at_op (.load 29 (.tmp 4)) rfl ?_; refine wpList_ldA (t := 29) 29 (.tmp 4) rfl rfl (adC s6 sh sl) rfl (by with_reducible repeat (first | exact hS | refine Bk.later ?_ (below_plus _ _ _) | refine Bk.alloc ?_ _)) (whole_ _) ya1 ya2 (szAd _ _ _) ?_)
                  | (refine at_op (.load 29 (.tmp 5)) rfl ?_; refine wpList_ldA (t := 29) 29 (.tmp 5) rfl rfl (adC s6 dh dl) rfl (by with_reducible repeat (first | exact hDs | refine Bk.later ?_ (below_plus _ _ _) | refine Bk.alloc ?_ _)) (whole_ _) ya1 ya2 (szAd _ _ _) ?_)
                  | (go_at_call 26; refine (HS1.out _ h8).mono ?_; rintro e w1 ⟨A6, n6, c6, bs6, d6, rfl, rfl, hr6⟩)
                  | (refine at_op (.store 32 (.tmp 13) (.tmp 90)) rfl ?_; refine wpList_stA (t := 32) 32 (.tmp 13) (.tmp 90) rfl rfl (msgC a b s d A6 n6 c6) ((msgC 0 0 0 0 none 0 0)) rfl (msgC_one _ _ _ _ _ _ _) rfl rfl ?_ (szMs _ _ _ _ _ _ _) ?_; (· refine Bk.newK _ _ _ ?_ rfl; simp [size_plus]); intro W8 hZ hgr))
                have b8 := below_grown (Below.allocS (below_plus wr bs6 d6) (.cells #[.int .u8 0, .int .u8 0, .int .u16 0, .int .u32 0, .slice none 0 0] 32)) hgr (by omega)
                have b9 := below_grown (Below.allocS (Below.refl _ (plus wr bs6 d6)) (.cells #[.int .u8 0, .int .u8 0, .int .u16 0, .int .u32 0, .slice none 0 0] 32)) hgr (by simp [size_plus])
                have zb := be.size
                replace hM := hM.later b8
                replace hS := hS.later b8
                replace hDs := hDs.later b8
                replace hX := hX.later b8
                have hz := hr6.later b9
                replace be := be.trans (b8.mono zb)
                replace h := h0.later be
                generalize wr.heap.size + bs6.length = g13 at *
                clear hgr b8 b9 zb h8 hr6
                go_wp2
                refine wp_rel 29 119 rfl (by kernel_rfl) (by kernel_rfl) (fun i => match i with | 0 => MP.eq (.agg (msgC a b s d A6 n6 c6).toArray) | 1 => MP.eq (.agg (msgC a b s d A6 n6 c6).toArray) | 2 => MP.eq (.agg (msgC a b c d A n k).toArray) | 3 => MP.eq (.agg (adC s6 sh sl).toArray) | 4 => MP.eq (.agg (adC s6 dh dl).toArray) | 5 => MP.eq (.agg (msgC a b s d A n k).toArray) | 6 => MP.eq (.bool true) | 7 => MP.eq (.bool true) | 8 => MP.eq (.agg (msgC a b c d A n k).toArray) | 9 => MP.eq (.agg (adC s6 sh sl).toArray) | 10 => MP.eq (.agg (adC s6 dh dl).toArray) | 11 => MP.eq (.bool fz) | 12 => MP.eq (.agg (msgC a b c d A n k).toArray) | 13 => MP.eq (.agg (adC s6 sh sl).toArray) | 14 => MP.eq (.agg (adC s6 dh dl).toArray) | 15 => MP.eq (.int .u16 (z0 : Int)) | 16 => MP.eq (.bool fz) | 17 => MP.eq (.bool true) | 18 => MP.eq (.bool true) | 19 => MP.eq (.bool true) | 20 => MP.eq (.agg (msgC a b s d A6 n6 c6).toArray) | 21 => MP.eq (.agg (adC s6 sh sl).toArray) | 22 => MP.eq (.agg (adC s6 dh dl).toArray) | 23 => MP.eq (.bool true) | 24 => MP.eq (.bool true) | 25 => MP.eq (.bool true) | 26 => MP.eq (.bool true) | 27 => MP.eq (.bool true) | 28 => MP.eq (.bool true) | _ => MP.any) ?_ ?_
                · intro i hi o ho FA x hO hD K hK
                  match i, hi, ho, hO, hD, hK with
                  | 0, _, ho, hO, hD, hK => 
                    obtain rfl := Option.some.inj ho.symm
                    clear ho
                    have ev13 : FA.eval (.tmp 13) = .pointer (some ⟨g13, 0, none⟩) := hO 13 (by kernel_rfl)
                    have e13 : FA.tmps[13]?.getD undef = .pointer (some ⟨g13, 0, none⟩) := by simpa [Act.eval] using ev13
                    replace ev13 := Lib.hid ev13
                    clear hO hD
                    refine wanted_ifG (by go_simp) ?_
                    refine wp_load_mid 32 (.tmp 13) rfl (g13) 0 ev13.out (msgC a b s d A6 n6 c6) _ (Bk.range (hZ.later (below_plus _ _ _))) u1 u2 (szMs _ _ _ _ _ _ _) ?_
                    exact hK.out _ _ (Ex.refl _) rfl
                  | 1, _, ho, hO, hD, hK => 
                    obtain rfl := Option.some.inj ho.symm
                    clear ho
                    have ev91 : FA.eval (.tmp 91) = .agg (msgC a b s d A6 n6 c6).toArray := hD 0 91 (by kernel_rfl)
                    have e91 : FA.tmps[91]?.getD undef = .agg (msgC a b s d A6 n6 c6).toArray := by simpa [Act.eval] using ev91
                    replace ev91 := Lib.hid ev91
                    clear hO hD
                    go_simp
                    refine (msOfV a b s d A6 n6 c6 _).mono ?_
                    rintro e w1 ⟨bs2, d2, rfl, rfl⟩
                    exact hK.out _ _ (Ex.plus_ _ _ _) rfl
                  | 2, _, ho, hO, hD, hK => 
                    obtain rfl := Option.some.inj ho.symm
                    clear ho
                    have ev3 : FA.eval (.tmp 3) = .pointer (some ⟨w.heap.size, 0, none⟩) := hO 3 (by kernel_rfl)
                    have e3 : FA.tmps[3]?.getD undef = .pointer (some ⟨w.heap.size, 0, none⟩) := by simpa [Act.eval] using ev3
                    replace ev3 := Lib.hid ev3
                    clear hO hD
                    refine wanted_ifG (by go_simp) ?_
                    refine wp_load_mid 26 (.tmp 3) rfl (w.heap.size) 0 ev3.out (msgC a b c d A n k) _ (Bk.range (hM.later (below_plus _ _ _))) r1 r2 (szMr _ _ _ _ _ _ _) ?_
                    exact hK.out _ _ (Ex.refl _) rfl
                  | 3, _, ho, hO, hD, hK => 
                    obtain rfl := Option.some.inj ho.symm
                    clear ho
                    have ev4 : FA.eval (.tmp 4) = .pointer (some ⟨w.heap.size + 1, 0, none⟩) := hO 4 (by kernel_rfl)
                    have e4 : FA.tmps[4]?.getD undef = .pointer (some ⟨w.heap.size + 1, 0, none⟩) := by simpa [Act.eval] using ev4
                    replace ev4 := Lib.hid ev4
                    clear hO hD
                    refine wanted_ifG (by go_simp) ?_
                    refine wp_load_mid 29 (.tmp 4) rfl (w.heap.size + 1) 0 ev4.out (adC s6 sh sl) _ (Bk.range (hS.later (below_plus _ _ _))) ya1 ya2 (szAd _ _ _) ?_
                    exact hK.out _ _ (Ex.refl _) rfl
                  | 4, _, ho, hO, hD, hK => 
                    obtain rfl := Option.some.inj ho.symm
                    clear ho
                    have ev5 : FA.eval (.tmp 5) = .pointer (some ⟨w.heap.size + 1 + 1, 0, none⟩) := hO 5 (by kernel_rfl)
                    have e5 : FA.tmps[5]?.getD undef = .pointer (some ⟨w.heap.size + 1 + 1, 0, none⟩) := by simpa [Act.eval] using ev5
                    replace ev5 := Lib.hid ev5
                    clear hO hD
                    refine wanted_ifG (by go_simp) ?_
                    refine wp_load_mid 29 (.tmp 5) rfl (w.heap.size + 1 + 1) 0 ev5.out (adC s6 dh dl) _ (Bk.range (hDs.later (below_plus _ _ _))) ya1 ya2 (szAd _ _ _) ?_
                    exact hK.out _ _ (Ex.refl _) rfl
                  | 5, _, ho, hO, hD, hK => 
                    obtain rfl := Option.some.inj ho.symm
                    clear ho
                    have ev93 : FA.eval (.tmp 93) = .agg (msgC a b c d A n k).toArray := hD 2 93 (by kernel_rfl)
                    have e93 : FA.tmps[93]?.getD undef = .agg (msgC a b c d A n k).toArray := by simpa [Act.eval] using ev93
                    replace ev93 := Lib.hid ev93
                    have ev94 : FA.eval (.tmp 94) = .agg (adC s6 sh sl).toArray := hD 3 94 (by kernel_rfl)
                    have e94 : FA.tmps[94]?.getD undef = .agg (adC s6 sh sl).toArray := by simpa [Act.eval] using ev94
                    replace ev94 := Lib.hid ev94
                    have ev95 : FA.eval (.tmp 95) = .agg (adC s6 dh dl).toArray := hD 4 95 (by kernel_rfl)
                    have e95 : FA.tmps[95]?.getD undef = .agg (adC s6 dh dl).toArray := by simpa [Act.eval] using ev95
                    replace ev95 := Lib.hid ev95
                    clear hO hD
                    go_simp
                    refine (HS2.out _ (h.plus_ _ _)).mono ?_
                    rintro e w1 ⟨bs2, d2, rfl, rfl⟩
                    exact hK.out _ _ (Ex.plus_ _ _ _) rfl
                  | 6, _, ho, hO, hD, hK => 
                    obtain rfl := Option.some.inj ho.symm
                    clear ho
                    have ev92 : FA.eval (.tmp 92) = .agg (msgC a b s d A6 n6 c6).toArray := hD 1 92 (by kernel_rfl)
                    have e92 : FA.tmps[92]?.getD undef = .agg (msgC a b s d A6 n6 c6).toArray := by simpa [Act.eval] using ev92
                    replace ev92 := Lib.hid ev92
                    have ev96 : FA.eval (.tmp 96) = .agg (msgC a b s d A n k).toArray := hD 5 96 (by kernel_rfl)
                    have e96 : FA.tmps[96]?.getD undef = .agg (msgC a b s d A n k).toArray := by simpa [Act.eval] using ev96
                    replace ev96 := Lib.hid ev96
                    clear hO hD
                    go_simp
                    refine (msSameV a b s d A6 n6 c6 A n k l _ (hz.plus_ _ _) (h.plus_ _ _)).mono ?_
                    rintro e w1 ⟨bs2, d2, rfl, rfl⟩
                    exact hK.out _ _ (Ex.plus_ _ _ _) rfl
                  | 7, _, ho, hO, hD, hK => 
                    obtain rfl := Option.some.inj ho.symm
                    clear ho
                    have ev97 : FA.eval (.tmp 97) = .bool true := hD 6 97 (by kernel_rfl)
                    have e97 : FA.tmps[97]?.getD undef = .bool true := by simpa [Act.eval] using ev97
                    replace ev97 := Lib.hid ev97
                    clear hO hD
                    go_simp
                    exact hK.out _ _ (Ex.refl _) rfl
                  | 8, _, ho, hO, hD, hK => 
                    obtain rfl := Option.some.inj ho.symm
                    clear ho
                    have ev7 : FA.eval (.tmp 7) = .pointer (some ⟨g7, 0, none⟩) := hO 7 (by kernel_rfl)
                    have e7 : FA.tmps[7]?.getD undef = .pointer (some ⟨g7, 0, none⟩) := by simpa [Act.eval] using ev7
                    replace ev7 := Lib.hid ev7
                    have ev98 : FA.eval (.tmp 98) = .bool true := hD 7 98 (by kernel_rfl)
                    have e98 : FA.tmps[98]?.getD undef = .bool true := by simpa [Act.eval] using ev98
                    replace ev98 := Lib.hid ev98
                    have ge98 := slot_of e98
                    clear hO hD
                    refine wanted_ifG (by go_simp) ?_
                    refine wp_load_mid 32 (.tmp 7) rfl (g7) 0 ev7.out (msgC a b c d A n k) _ (Bk.range (hX.later (below_plus _ _ _))) u1 u2 (szMs _ _ _ _ _ _ _) ?_
                    exact hK.out _ _ (Ex.refl _) rfl
                  | 9, _, ho, hO, hD, hK => 
                    obtain rfl := Option.some.inj ho.symm
                    clear ho
                    have ev4 : FA.eval (.tmp 4) = .pointer (some ⟨w.heap.size + 1, 0, none⟩) := hO 4 (by kernel_rfl)
                    have e4 : FA.tmps[4]?.getD undef = .pointer (some ⟨w.heap.size + 1, 0, none⟩) := by simpa [Act.eval] using ev4
                    replace ev4 := Lib.hid ev4
                    have ev98 : FA.eval (.tmp 98) = .bool true := hD 7 98 (by kernel_rfl)
                    have e98 : FA.tmps[98]?.getD undef = .bool true := by simpa [Act.eval] using ev98
                    replace ev98 := Lib.hid ev98
                    have ge98 := slot_of e98
                    clear hO hD
                    refine wanted_ifG (by go_simp) ?_
                    refine wp_load_mid 29 (.tmp 4) rfl (w.heap.size + 1) 0 ev4.out (adC s6 sh sl) _ (Bk.range (hS.later (below_plus _ _ _))) ya1 ya2 (szAd _ _ _) ?_
                    exact hK.out _ _ (Ex.refl _) rfl
                  | 10, _, ho, hO, hD, hK => 
                    obtain rfl := Option.some.inj ho.symm
                    clear ho
                    have ev5 : FA.eval (.tmp 5) = .pointer (some ⟨w.heap.size + 1 + 1, 0, none⟩) := hO 5 (by kernel_rfl)
                    have e5 : FA.tmps[5]?.getD undef = .pointer (some ⟨w.heap.size + 1 + 1, 0, none⟩) := by simpa [Act.eval] using ev5
                    replace ev5 := Lib.hid ev5
                    have ev98 : FA.eval (.tmp 98) = .bool true := hD 7 98 (by kernel_rfl)
                    have e98 : FA.tmps[98]?.getD undef = .bool true := by simpa [Act.eval] using ev98
                    replace ev98 := Lib.hid ev98
                    have ge98 := slot_of e98
                    clear hO hD
                    refine wanted_ifG (by go_simp) ?_
                    refine wp_load_mid 29 (.tmp 5) rfl (w.heap.size + 1 + 1) 0 ev5.out (adC s6 dh dl) _ (Bk.range (hDs.later (below_plus _ _ _))) ya1 ya2 (szAd _ _ _) ?_
                    exact hK.out _ _ (Ex.refl _) rfl
                  | 11, _, ho, hO, hD, hK => 
                    obtain rfl := Option.some.inj ho.symm
                    clear ho
                    have ev99 : FA.eval (.tmp 99) = .agg (msgC a b c d A n k).toArray := hD 8 99 (by kernel_rfl)
                    have e99 : FA.tmps[99]?.getD undef = .agg (msgC a b c d A n k).toArray := by simpa [Act.eval] using ev99
                    replace ev99 := Lib.hid ev99
                    have ev100 : FA.eval (.tmp 100) = .agg (adC s6 sh sl).toArray := hD 9 100 (by kernel_rfl)
                    have e100 : FA.tmps[100]?.getD undef = .agg (adC s6 sh sl).toArray := by simpa [Act.eval] using ev100
                    replace ev100 := Lib.hid ev100
                    have ev101 : FA.eval (.tmp 101) = .agg (adC s6 dh dl).toArray := hD 10 101 (by kernel_rfl)
                    have e101 : FA.tmps[101]?.getD undef = .agg (adC s6 dh dl).toArray := by simpa [Act.eval] using ev101
                    replace ev101 := Lib.hid ev101
                    have ev98 : FA.eval (.tmp 98) = .bool true := hD 7 98 (by kernel_rfl)
                    have e98 : FA.tmps[98]?.getD undef = .bool true := by simpa [Act.eval] using ev98
                    replace ev98 := Lib.hid ev98
                    have ge98 := slot_of e98
                    clear hO hD
                    go_simp
                    refine (HF1.out _ (h.plus_ _ _)).mono ?_
                    rintro e w1 ⟨bs2, d2, rfl, rfl⟩
                    exact hK.out _ _ (Ex.plus_ _ _ _) rfl
                  | 12, _, ho, hO, hD, hK => 
                    obtain rfl := Option.some.inj ho.symm
                    clear ho
                    have ev3 : FA.eval (.tmp 3) = .pointer (some ⟨w.heap.size, 0, none⟩) := hO 3 (by kernel_rfl)
                    have e3 : FA.tmps[3]?.getD undef = .pointer (some ⟨w.heap.size, 0, none⟩) := by simpa [Act.eval] using ev3
                    replace ev3 := Lib.hid ev3
                    have ev98 : FA.eval (.tmp 98) = .bool true := hD 7 98 (by kernel_rfl)
                    have e98 : FA.tmps[98]?.getD undef = .bool true := by simpa [Act.eval] using ev98
                    replace ev98 := Lib.hid ev98
                    have ge98 := slot_of e98
                    clear hO hD
                    refine wanted_ifG (by go_simp) ?_
                    refine wp_load_mid 26 (.tmp 3) rfl (w.heap.size) 0 ev3.out (msgC a b c d A n k) _ (Bk.range (hM.later (below_plus _ _ _))) r1 r2 (szMr _ _ _ _ _ _ _) ?_
                    exact hK.out _ _ (Ex.refl _) rfl
                  | 13, _, ho, hO, hD, hK => 
                    obtain rfl := Option.some.inj ho.symm
                    clear ho
                    have ev4 : FA.eval (.tmp 4) = .pointer (some ⟨w.heap.size + 1, 0, none⟩) := hO 4 (by kernel_rfl)
                    have e4 : FA.tmps[4]?.getD undef = .pointer (some ⟨w.heap.size + 1, 0, none⟩) := by simpa [Act.eval] using ev4
                    replace ev4 := Lib.hid ev4
                    have ev98 : FA.eval (.tmp 98) = .bool true := hD 7 98 (by kernel_rfl)
                    have e98 : FA.tmps[98]?.getD undef = .bool true := by simpa [Act.eval] using ev98
                    replace ev98 := Lib.hid ev98
                    have ge98 := slot_of e98
                    clear hO hD
                    refine wanted_ifG (by go_simp) ?_
                    refine wp_load_mid 29 (.tmp 4) rfl (w.heap.size + 1) 0 ev4.out (adC s6 sh sl) _ (Bk.range (hS.later (below_plus _ _ _))) ya1 ya2 (szAd _ _ _) ?_
                    exact hK.out _ _ (Ex.refl _) rfl
                  | 14, _, ho, hO, hD, hK => 
                    obtain rfl := Option.some.inj ho.symm
                    clear ho
                    have ev5 : FA.eval (.tmp 5) = .pointer (some ⟨w.heap.size + 1 + 1, 0, none⟩) := hO 5 (by kernel_rfl)
                    have e5 : FA.tmps[5]?.getD undef = .pointer (some ⟨w.heap.size + 1 + 1, 0, none⟩) := by simpa [Act.eval] using ev5
                    replace ev5 := Lib.hid ev5
                    have ev98 : FA.eval (.tmp 98) = .bool true := hD 7 98 (by kernel_rfl)
                    have e98 : FA.tmps[98]?.getD undef = .bool true := by simpa [Act.eval] using ev98
                    replace ev98 := Lib.hid ev98
                    have ge98 := slot_of e98
                    clear hO hD
                    refine wanted_ifG (by go_simp) ?_
                    refine wp_load_mid 29 (.tmp 5) rfl (w.heap.size + 1 + 1) 0 ev5.out (adC s6 dh dl) _ (Bk.range (hDs.later (below_plus _ _ _))) ya1 ya2 (szAd _ _ _) ?_
                    exact hK.out _ _ (Ex.refl _) rfl
                  | 15, _, ho, hO, hD, hK => 
                    obtain rfl := Option.some.inj ho.symm
                    clear ho
                    have ev103 : FA.eval (.tmp 103) = .agg (msgC a b c d A n k).toArray := hD 12 103 (by kernel_rfl)
                    have e103 : FA.tmps[103]?.getD undef = .agg (msgC a b c d A n k).toArray := by simpa [Act.eval] using ev103
                    replace ev103 := Lib.hid ev103
                    have ev104 : FA.eval (.tmp 104) = .agg (adC s6 sh sl).toArray := hD 13 104 (by kernel_rfl)
                    have e104 : FA.tmps[104]?.getD undef = .agg (adC s6 sh sl).toArray := by simpa [Act.eval] using ev104
                    replace ev104 := Lib.hid ev104
                    have ev105 : FA.eval (.tmp 105) = .agg (adC s6 dh dl).toArray := hD 14 105 (by kernel_rfl)
                    have e105 : FA.tmps[105]?.getD undef = .agg (adC s6 dh dl).toArray := by simpa [Act.eval] using ev105
                    replace ev105 := Lib.hid ev105
                    have ev98 : FA.eval (.tmp 98) = .bool true := hD 7 98 (by kernel_rfl)
                    have e98 : FA.tmps[98]?.getD undef = .bool true := by simpa [Act.eval] using ev98
                    replace ev98 := Lib.hid ev98
                    have ge98 := slot_of e98
                    clear hO hD
                    go_simp
                    refine (HCK.out _ (h.plus_ _ _)).mono ?_
                    rintro e w1 ⟨bs2, d2, rfl, rfl⟩
                    exact hK.out _ _ (Ex.plus_ _ _ _) rfl
                  | 16, _, ho, hO, hD, hK => 
                    obtain rfl := Option.some.inj ho.symm
                    clear ho
                    have ev106 : FA.eval (.tmp 106) = .int .u16 (z0 : Int) := hD 15 106 (by kernel_rfl)
                    have e106 : FA.tmps[106]?.getD undef = .int .u16 (z0 : Int) := by simpa [Act.eval] using ev106
                    replace ev106 := Lib.hid ev106
                    have ev98 : FA.eval (.tmp 98) = .bool true := hD 7 98 (by kernel_rfl)
                    have e98 : FA.tmps[98]?.getD undef = .bool true := by simpa [Act.eval] using ev98
                    replace ev98 := Lib.hid ev98
                    have ge98 := slot_of e98
                    clear hO hD
                    go_simp
                    exact hK.out _ _ (Ex.refl _) rfl
                  | 17, _, ho, hO, hD, hK => 
                    obtain rfl := Option.some.inj ho.symm
                    clear ho
                    have ev102 : FA.eval (.tmp 102) = .bool fz := hD 11 102 (by kernel_rfl)
                    have e102 : FA.tmps[102]?.getD undef = .bool fz := by simpa [Act.eval] using ev102
                    replace ev102 := Lib.hid ev102
                    have ev107 : FA.eval (.tmp 107) = .bool fz := hD 16 107 (by kernel_rfl)
                    have e107 : FA.tmps[107]?.getD undef = .bool fz := by simpa [Act.eval] using ev107
                    replace ev107 := Lib.hid ev107
                    have ev98 : FA.eval (.tmp 98) = .bool true := hD 7 98 (by kernel_rfl)
                    have e98 : FA.tmps[98]?.getD undef = .bool true := by simpa [Act.eval] using ev98
                    replace ev98 := Lib.hid ev98
                    have ge98 := slot_of e98
                    clear hO hD
                    go_simp
                    exact hK.out _ _ (Ex.refl _) rfl
                  | 18, _, ho, hO, hD, hK => 
                    obtain rfl := Option.some.inj ho.symm
                    clear ho
                    have ev98 : FA.eval (.tmp 98) = .bool true := hD 7 98 (by kernel_rfl)
                    have e98 : FA.tmps[98]?.getD undef = .bool true := by simpa [Act.eval] using ev98
                    replace ev98 := Lib.hid ev98
                    have ev108 : FA.eval (.tmp 108) = .bool true := hD 17 108 (by kernel_rfl)
                    have e108 : FA.tmps[108]?.getD undef = .bool true := by simpa [Act.eval] using ev108
                    replace ev108 := Lib.hid ev108
                    clear hO hD
                    go_simp
                    exact hK.out _ _ (Ex.refl _) rfl
                  | 19, _, ho, hO, hD, hK => 
                    obtain rfl := Option.some.inj ho.symm
                    clear ho
                    have ev109 : FA.eval (.tmp 109) = .bool true := hD 18 109 (by kernel_rfl)
                    have e109 : FA.tmps[109]?.getD undef = .bool true := by simpa [Act.eval] using ev109
                    replace ev109 := Lib.hid ev109
                    clear hO hD
                    go_simp
                    exact hK.out _ _ (Ex.refl _) rfl
                  | 20, _, ho, hO, hD, hK => 
                    obtain rfl := Option.some.inj ho.symm
                    clear ho
                    have ev13 : FA.eval (.tmp 13) = .pointer (some ⟨g13, 0, none⟩) := hO 13 (by kernel_rfl)
                    have e13 : FA.tmps[13]?.getD undef = .pointer (some ⟨g13, 0, none⟩) := by simpa [Act.eval] using ev13
                    replace ev13 := Lib.hid ev13
                    have ev110 : FA.eval (.tmp 110) = .bool true := hD 19 110 (by kernel_rfl)
                    have e110 : FA.tmps[110]?.getD undef = .bool true := by simpa [Act.eval] using ev110
                    replace ev110 := Lib.hid ev110
                    have ge110 := slot_of e110
                    clear hO hD
                    refine wanted_ifG (by go_simp) ?_
                    refine wp_load_mid 32 (.tmp 13) rfl (g13) 0 ev13.out (msgC a b s d A6 n6 c6) _ (Bk.range (hZ.later (below_plus _ _ _))) u1 u2 (szMs _ _ _ _ _ _ _) ?_
                    exact hK.out _ _ (Ex.refl _) rfl
                  | 21, _, ho, hO, hD, hK => 
                    obtain rfl := Option.some.inj ho.symm
                    clear ho
                    have ev4 : FA.eval (.tmp 4) = .pointer (some ⟨w.heap.size + 1, 0, none⟩) := hO 4 (by kernel_rfl)
                    have e4 : FA.tmps[4]?.getD undef = .pointer (some ⟨w.heap.size + 1, 0, none⟩) := by simpa [Act.eval] using ev4
                    replace ev4 := Lib.hid ev4
                    have ev110 : FA.eval (.tmp 110) = .bool true := hD 19 110 (by kernel_rfl)
                    have e110 : FA.tmps[110]?.getD undef = .bool true := by simpa [Act.eval] using ev110
                    replace ev110 := Lib.hid ev110
                    have ge110 := slot_of e110
                    clear hO hD
                    refine wanted_ifG (by go_simp) ?_
                    refine wp_load_mid 29 (.tmp 4) rfl (w.heap.size + 1) 0 ev4.out (adC s6 sh sl) _ (Bk.range (hS.later (below_plus _ _ _))) ya1 ya2 (szAd _ _ _) ?_
                    exact hK.out _ _ (Ex.refl _) rfl
                  | 22, _, ho, hO, hD, hK => 
                    obtain rfl := Option.some.inj ho.symm
                    clear ho
                    have ev5 : FA.eval (.tmp 5) = .pointer (some ⟨w.heap.size + 1 + 1, 0, none⟩) := hO 5 (by kernel_rfl)
                    have e5 : FA.tmps[5]?.getD undef = .pointer (some ⟨w.heap.size + 1 + 1, 0, none⟩) := by simpa [Act.eval] using ev5
                    replace ev5 := Lib.hid ev5
                    have ev110 : FA.eval (.tmp 110) = .bool true := hD 19 110 (by kernel_rfl)
                    have e110 : FA.tmps[110]?.getD undef = .bool true := by simpa [Act.eval] using ev110
                    replace ev110 := Lib.hid ev110
                    have ge110 := slot_of e110
                    clear hO hD
                    refine wanted_ifG (by go_simp) ?_
                    refine wp_load_mid 29 (.tmp 5) rfl (w.heap.size + 1 + 1) 0 ev5.out (adC s6 dh dl) _ (Bk.range (hDs.later (below_plus _ _ _))) ya1 ya2 (szAd _ _ _) ?_
                    exact hK.out _ _ (Ex.refl _) rfl
                  | 23, _, ho, hO, hD, hK => 
                    obtain rfl := Option.some.inj ho.symm
                    clear ho
                    have ev111 : FA.eval (.tmp 111) = .agg (msgC a b s d A6 n6 c6).toArray := hD 20 111 (by kernel_rfl)
                    have e111 : FA.tmps[111]?.getD undef = .agg (msgC a b s d A6 n6 c6).toArray := by simpa [Act.eval] using ev111
                    replace ev111 := Lib.hid ev111
                    have ev112 : FA.eval (.tmp 112) = .agg (adC s6 sh sl).toArray := hD 21 112 (by kernel_rfl)
                    have e112 : FA.tmps[112]?.getD undef = .agg (adC s6 sh sl).toArray := by simpa [Act.eval] using ev112
                    replace ev112 := Lib.hid ev112
                    have ev113 : FA.eval (.tmp 113) = .agg (adC s6 dh dl).toArray := hD 22 113 (by kernel_rfl)
                    have e113 : FA.tmps[113]?.getD undef = .agg (adC s6 dh dl).toArray := by simpa [Act.eval] using ev113
                    replace ev113 := Lib.hid ev113
                    have ev110 : FA.eval (.tmp 110) = .bool true := hD 19 110 (by kernel_rfl)
                    have e110 : FA.tmps[110]?.getD undef = .bool true := by simpa [Act.eval] using ev110
                    replace ev110 := Lib.hid ev110
                    have ge110 := slot_of e110
                    clear hO hD
                    go_simp
                    refine (HF2.out _ _ _ _ (hz.plus_ _ _)).mono ?_
                    rintro e w1 ⟨bs2, d2, rfl, rfl⟩
                    exact hK.out _ _ (Ex.plus_ _ _ _) rfl
                  | 24, _, ho, hO, hD, hK => 
                    obtain rfl := Option.some.inj ho.symm
                    clear ho
                    have ev110 : FA.eval (.tmp 110) = .bool true := hD 19 110 (by kernel_rfl)
                    have e110 : FA.tmps[110]?.getD undef = .bool true := by simpa [Act.eval] using ev110
                    replace ev110 := Lib.hid ev110
                    have ev114 : FA.eval (.tmp 114) = .bool true := hD 23 114 (by kernel_rfl)
                    have e114 : FA.tmps[114]?.getD undef = .bool true := by simpa [Act.eval] using ev114
                    replace ev114 := Lib.hid ev114
                    clear hO hD
                    go_simp
                    exact hK.out _ _ (Ex.refl _) rfl
                  | 25, _, ho, hO, hD, hK => 
                    obtain rfl := Option.some.inj ho.symm
                    clear ho
                    have ev115 : FA.eval (.tmp 115) = .bool true := hD 24 115 (by kernel_rfl)
                    have e115 : FA.tmps[115]?.getD undef = .bool true := by simpa [Act.eval] using ev115
                    replace ev115 := Lib.hid ev115
                    clear hO hD
                    go_simp
                    exact hK.out _ _ (Ex.refl _) rfl
                  | 26, _, ho, hO, hD, hK => 
                    obtain rfl := Option.some.inj ho.symm
                    clear ho
                    have ev116 : FA.eval (.tmp 116) = .bool true := hD 25 116 (by kernel_rfl)
                    have e116 : FA.tmps[116]?.getD undef = .bool true := by simpa [Act.eval] using ev116
                    replace ev116 := Lib.hid ev116
                    have ge116 := slot_of e116
                    clear hO hD
                    go_simp
                    refine (HAW.out _).mono ?_
                    rintro e w1 ⟨bs2, d2, rfl, rfl⟩
                    exact hK.out _ _ (Ex.plus_ _ _ _) rfl
                  | 27, _, ho, hO, hD, hK => 
                    obtain rfl := Option.some.inj ho.symm
                    clear ho
                    have ev116 : FA.eval (.tmp 116) = .bool true := hD 25 116 (by kernel_rfl)
                    have e116 : FA.tmps[116]?.getD undef = .bool true := by simpa [Act.eval] using ev116
                    replace ev116 := Lib.hid ev116
                    have ev117 : FA.eval (.tmp 117) = .bool true := hD 26 117 (by kernel_rfl)
                    have e117 : FA.tmps[117]?.getD undef = .bool true := by simpa [Act.eval] using ev117
                    replace ev117 := Lib.hid ev117
                    clear hO hD
                    go_simp
                    exact hK.out _ _ (Ex.refl _) rfl
                  | 28, _, ho, hO, hD, hK => 
                    obtain rfl := Option.some.inj ho.symm
                    clear ho
                    have ev118 : FA.eval (.tmp 118) = .bool true := hD 27 118 (by kernel_rfl)
                    have e118 : FA.tmps[118]?.getD undef = .bool true := by simpa [Act.eval] using ev118
                    replace ev118 := Lib.hid ev118
                    clear hO hD
                    go_simp
                    exact hK.out _ _ (Ex.refl _) rfl
                  | (k + 29), hi, _, _, _, _ => exact absurd hi (by omega)
                intro vs x hp
                have p0 : vs 0 = .agg (msgC a b s d A6 n6 c6).toArray := hp 0 (by omega)
                have p1 : vs 1 = .agg (msgC a b s d A6 n6 c6).toArray := hp 1 (by omega)
                have p2 : vs 2 = .agg (msgC a b c d A n k).toArray := hp 2 (by omega)
                have p3 : vs 3 = .agg (adC s6 sh sl).toArray := hp 3 (by omega)
                have p4 : vs 4 = .agg (adC s6 dh dl).toArray := hp 4 (by omega)
                have p5 : vs 5 = .agg (msgC a b s d A n k).toArray := hp 5 (by omega)
                have p6 : vs 6 = .bool true := hp 6 (by omega)
                have p7 : vs 7 = .bool true := hp 7 (by omega)
                have p8 : vs 8 = .agg (msgC a b c d A n k).toArray := hp 8 (by omega)
                have p9 : vs 9 = .agg (adC s6 sh sl).toArray := hp 9 (by omega)
                have p10 : vs 10 = .agg (adC s6 dh dl).toArray := hp 10 (by omega)
                have p11 : vs 11 = .bool fz := hp 11 (by omega)
                have p12 : vs 12 = .agg (msgC a b c d A n k).toArray := hp 12 (by omega)
                have p13 : vs 13 = .agg (adC s6 sh sl).toArray := hp 13 (by omega)
                have p14 : vs 14 = .agg (adC s6 dh dl).toArray := hp 14 (by omega)
                have p15 : vs 15 = .int .u16 (z0 : Int) := hp 15 (by omega)
                have p16 : vs 16 = .bool fz := hp 16 (by omega)
                have p17 : vs 17 = .bool true := hp 17 (by omega)
                have p18 : vs 18 = .bool true := hp 18 (by omega)
                have p19 : vs 19 = .bool true := hp 19 (by omega)
                have p20 : vs 20 = .agg (msgC a b s d A6 n6 c6).toArray := hp 20 (by omega)
                have p21 : vs 21 = .agg (adC s6 sh sl).toArray := hp 21 (by omega)
                have p22 : vs 22 = .agg (adC s6 dh dl).toArray := hp 22 (by omega)
                have p23 : vs 23 = .bool true := hp 23 (by omega)
                have p24 : vs 24 = .bool true := hp 24 (by omega)
                have p25 : vs 25 = .bool true := hp 25 (by omega)
                have p26 : vs 26 = .bool true := hp 26 (by omega)
                have p27 : vs 27 = .bool true := hp 27 (by omega)
                have p28 : vs 28 = .bool true := hp 28 (by omega)
                clear hp
                simp only [List.take_succ_cons, List.take_zero, List.drop_succ_cons, List.drop_zero, putAll, Nat.zero_add, Nat.reduceAdd, Act.put, List.setIfInBounds_toArray, List.set_cons_zero, List.set_cons_succ, p0, p1, p2, p3, p4, p5, p6, p7, p8, p9, p10, p11, p12, p13, p14, p15, p16, p17, p18, p19, p20, p21, p22, p23, p24, p25, p26, p27, p28]
                clear p0 p1 p2 p3 p4 p5 p6 p7 p8 p9 p10 p11 p12 p13 p14 p15 p16 p17 p18 p19 p20 p21 p22 p23 p24 p25 p26 p27 p28
                clear vs
                go_wp2
                go_ret
                exact ⟨rfl, belowP be _ _⟩
        · cases s6
          · cases d6
            · exact absurd rfl h6
            · go_enter Try.func3, Try.ntmps3
              go_upto_region 1 with (fail)
              generalize ((w.alloc (.cells (msgC a b c d A n k).toArray 26)).alloc (.cells (adC false sh sl).toArray 29)).alloc (.cells (adC true dh dl).toArray 29) = W at *
              have zS := hS.lt
              have zD := hDs.lt
              go_wp2_with (first
                | (refine at_op (.load 29 (.tmp 4)) rfl ?_; refine wpList_ldG (t := 29) 29 (.tmp 4) rfl rfl (adC false sh sl) rfl (by with_reducible repeat (first | exact hS | refine Bk.later ?_ (below_plus _ _ _) | refine Bk.alloc ?_ _)) (whole_ _) ya1 ya2 (szAd _ _ _) ?_)
                | (refine at_op (.load 29 (.tmp 5)) rfl ?_; refine wpList_ldG (t := 29) 29 (.tmp 5) rfl rfl (adC true dh dl) rfl (by with_reducible repeat (first | exact hDs | refine Bk.later ?_ (below_plus _ _ _) | refine Bk.alloc ?_ _)) (whole_ _) ya1 ya2 (szAd _ _ _) ?_)
                | (go_at_call 15; (with_reducible refine (HR1.out _).mono ?_); rintro e w1 ⟨bs1, d1, rfl, rfl⟩)
                | (go_at_call 15; (with_reducible refine (HR2.out _).mono ?_); rintro e w1 ⟨bs2, d2, rfl, rfl⟩)
                | (go_at_call 16; refine (HAW.out _).mono ?_; rintro e w1 ⟨bs3, d3, rfl, rfl⟩))
              go_ret
              refine ⟨rfl, ?_⟩
              repeat (first | exact be | refine belowP ?_ _ _)
          · cases d6
            · go_enter Try.func3, Try.ntmps3
              go_upto_region 1 with (fail)
              generalize ((w.alloc (.cells (msgC a b c d A n k).toArray 26)).alloc (.cells (adC true sh sl).toArray 29)).alloc (.cells (adC false dh dl).toArray 29) = W at *
              have zS := hS.lt
              have zD := hDs.lt
              go_wp2_with (first
                | (refine at_op (.load 29 (.tmp 4)) rfl ?_; refine wpList_ldG (t := 29) 29 (.tmp 4) rfl rfl (adC true sh sl) rfl (by with_reducible repeat (first | exact hS | refine Bk.later ?_ (below_plus _ _ _) | refine Bk.alloc ?_ _)) (whole_ _) ya1 ya2 (szAd _ _ _) ?_)
                | (refine at_op (.load 29 (.tmp 5)) rfl ?_; refine wpList_ldG (t := 29) 29 (.tmp 5) rfl rfl (adC false dh dl) rfl (by with_reducible repeat (first | exact hDs | refine Bk.later ?_ (below_plus _ _ _) | refine Bk.alloc ?_ _)) (whole_ _) ya1 ya2 (szAd _ _ _) ?_)
                | (go_at_call 15; (with_reducible refine (HR1.out _).mono ?_); rintro e w1 ⟨bs1, d1, rfl, rfl⟩)
                | (go_at_call 15; (with_reducible refine (HR2.out _).mono ?_); rintro e w1 ⟨bs2, d2, rfl, rfl⟩)
                | (go_at_call 16; refine (HAW.out _).mono ?_; rintro e w1 ⟨bs3, d3, rfl, rfl⟩))
              go_ret
              refine ⟨rfl, ?_⟩
              repeat (first | exact be | refine belowP ?_ _ _)
            · exact absurd rfl h6
  · go_enter Try.func3, Try.ntmps3
    go_upto_region 1 with (fail)
    generalize ((w.alloc (.cells (msgC a b c d A n k).toArray 26)).alloc (.cells (adC s6 sh sl).toArray 29)).alloc (.cells (adC d6 dh dl).toArray 29) = W at *
    have zS := hS.lt
    have zD := hDs.lt
    go_wp2_with (first
      | (refine at_op (.load 29 (.tmp 4)) rfl ?_; refine wpList_ldG (t := 29) 29 (.tmp 4) rfl rfl (adC s6 sh sl) rfl (by with_reducible repeat (first | exact hS | refine Bk.later ?_ (below_plus _ _ _) | refine Bk.alloc ?_ _)) (whole_ _) ya1 ya2 (szAd _ _ _) ?_)
      | (refine at_op (.load 29 (.tmp 5)) rfl ?_; refine wpList_ldG (t := 29) 29 (.tmp 5) rfl rfl (adC d6 dh dl) rfl (by with_reducible repeat (first | exact hDs | refine Bk.later ?_ (below_plus _ _ _) | refine Bk.alloc ?_ _)) (whole_ _) ya1 ya2 (szAd _ _ _) ?_)
      | (go_at_call 15; (with_reducible refine (HR1.out _).mono ?_); rintro e w1 ⟨bs1, d1, rfl, rfl⟩)
      | (go_at_call 15; (with_reducible refine (HR2.out _).mono ?_); rintro e w1 ⟨bs2, d2, rfl, rfl⟩)
      | (go_at_call 16; refine (HAW.out _).mono ?_; rintro e w1 ⟨bs3, d3, rfl, rfl⟩))
    go_ret
    refine ⟨rfl, ?_⟩
    repeat (first | exact be | refine belowP ?_ _ _)
end Go.Proofs.Ytldecdeiibfekaa
