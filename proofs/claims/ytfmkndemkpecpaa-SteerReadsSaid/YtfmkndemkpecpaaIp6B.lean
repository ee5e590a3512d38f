/- addr.Of; headers of IPv6: header, Parse, Packet, Older. -/
import Derived.Test.YtfmkndemkpecpaaCom
import Derived.Test.YtfmkndemkpecpaaIp6A
import Derived.Deep.CutBlock
namespace Go.Proofs.Ytfmkndemkpecpaa
open Go.RowKit
set_option linter.unusedVariables false
set_option linter.unusedSimpArgs false
attribute [local go_sem ↓] sliced_cut
attribute [local go_sem] cutA_zero

def h6C (cl lb : Nat) (ln : Int) (nx ht : Nat) (s6 : Bool) (sh sl : Nat) (d6 : Bool) (dh dl : Nat) : List Value := [.int .u8 (cl : Int), .int .u32 (lb : Int), .int .i64 ln, .int .u8 (nx : Int), .int .u8 (ht : Int), .bool s6, .int .u64 (sh : Int), .int .u64 (sl : Int), .bool d6, .int .u64 (dh : Int), .int .u64 (dl : Int)]
theorem h6C_one (cl lb : Nat) (ln : Int) (nx ht : Nat) (s6 : Bool) (sh sl : Nat) (d6 : Bool) (dh dl : Nat) : ∀ u ∈ h6C cl lb ln nx ht s6 sh sl d6 dh dl, u.oneCell' = true := by
  intro u hu
  simp only [h6C, List.mem_cons, List.not_mem_nil, or_false] at hu
  rcases hu with rfl | rfl | rfl | rfl | rfl | rfl | rfl | rfl | rfl | rfl | rfl <;> rfl
theorem szH6 (cl lb : Nat) (ln : Int) (nx ht : Nat) (s6 : Bool) (sh sl : Nat) (d6 : Bool) (dh dl : Nat) : (Try.prog.info? 171).map (·.size) = some (h6C cl lb ln nx ht s6 sh sl d6 dh dl).length := by kernel_rfl
theorem rowH6 : ∃ d, Try.prog.underlying 171 = some d ∧ d.isRow = true := ⟨_, Try.underlying171, rfl⟩
theorem u32_mask20 (x : Nat) (h : x < 4294967296) : bits .and .u32 (x : Int) 1048575 = ((x % 1048576 : Nat) : Int) := by
  have := u32_and_nat x 1048575 h (by decide)
  rw [show (1048575 : Nat) = 2 ^ 20 - 1 from rfl, Nat.and_two_pow_sub_one_eq_mod] at this
  exact this
set_option maxHeartbeats 4000000 in
set_option maxRecDepth 100000 in
/-- ip6.header of what was written -/
theorem ip6Header (cl lb ln nx ht sh sl dh dl : Nat) (A : Option Addr) (n c : Nat) (load : List UInt8) (w : World) (h1 : cl < 256) (h2 : lb < 1048576) (h3 : ln < 65536) (h4 : nx < 256) (h5 : ht < 256) (k1 : sh < 18446744073709551616) (k2 : sl < 18446744073709551616) (k3 : dh < 18446744073709551616) (k4 : dl < 18446744073709551616) (h : Rb w A n c (ip6B cl lb ln nx ht sh sl dh dl ++ load)) (hn : ln ≤ load.length) (hm : n ≤ 1000000) :
    Calls Try.prog 124 #[.slice A n c] w (RetV w (.tuple #[.agg (h6C cl lb (ln : Int) nx ht true sh sl true dh dl).toArray, .int .i64 0])) := by
  obtain ⟨dk, u1, u2⟩ := rowH6
  have hlen : n = 40 + load.length := by rw [← h.1, List.length_append, ip6B_length]
  have hc := h.2.1
  have h40 : (40 : Int) ≤ (n : Int) := by omega
  have h40c : (40 : Int) ≤ (c : Int) := by omega
  have hln : ((n : Int) - 40 < (ln : Int)) = False := eq_false (by omega)
  have hdl : decide ((n : Int) - 40 < (ln : Int)) = false := by simp; omega
  have ht40 : Rb w A 40 c (ip6B cl lb ln nx ht sh sl dh dl) := by
    have := h.take (k := 40) (by omega)
    rwa [List.take_left' (ip6B_length _ _ _ _ _ _ _ _ _)] at this
  have x0 : num (((ip6B cl lb ln nx ht sh sl dh dl).drop 0).take 4) = (1610612736 + cl * 1048576 + lb) := by unfold ip6B; have := num_mid ([]) (dig ln 2 ++ dig nx 1 ++ dig ht 1 ++ (dig sh 8 ++ dig sl 8) ++ (dig dh 8 ++ dig dl 8)) (1610612736 + cl * 1048576 + lb) 4 0 (by simp [dig_length]) (by omega); simpa [List.append_assoc] using this
  have x1 : num (((ip6B cl lb ln nx ht sh sl dh dl).drop 4).take 2) = ln := by unfold ip6B; have := num_mid (dig (1610612736 + cl * 1048576 + lb) 4) (dig nx 1 ++ dig ht 1 ++ (dig sh 8 ++ dig sl 8) ++ (dig dh 8 ++ dig dl 8)) ln 2 4 (by simp [dig_length]) (by omega); simpa [List.append_assoc] using this
  have x2 : num (((ip6B cl lb ln nx ht sh sl dh dl).drop 6).take 1) = nx := by unfold ip6B; have := num_mid (dig (1610612736 + cl * 1048576 + lb) 4 ++ dig ln 2) (dig ht 1 ++ (dig sh 8 ++ dig sl 8) ++ (dig dh 8 ++ dig dl 8)) nx 1 6 (by simp [dig_length]) (by omega); simpa [List.append_assoc] using this
  have x3 : num (((ip6B cl lb ln nx ht sh sl dh dl).drop 7).take 1) = ht := by unfold ip6B; have := num_mid (dig (1610612736 + cl * 1048576 + lb) 4 ++ dig ln 2 ++ dig nx 1) ((dig sh 8 ++ dig sl 8) ++ (dig dh 8 ++ dig dl 8)) ht 1 7 (by simp [dig_length]) (by omega); simpa [List.append_assoc] using this
  have y0 : ((ip6B cl lb ln nx ht sh sl dh dl).drop 8).take 16 = dig sh 8 ++ dig sl 8 := by
    unfold ip6B
    rw [List.append_assoc, List.drop_left' (by simp [dig_length]), List.take_left' (by simp [dig_length])]
  have y1 : ((ip6B cl lb ln nx ht sh sl dh dl).drop 24).take 16 = dig dh 8 ++ dig dl 8 := by
    unfold ip6B
    rw [List.drop_left' (by simp [dig_length]), List.take_of_length_le (by simp [dig_length])]
  have hXl : 1610612736 + cl * 1048576 + lb < 4294967296 := by omega
  have hand := u32_mask20 (1610612736 + cl * 1048576 + lb) hXl
  have e1 : (1610612736 + cl * 1048576 + lb) % 1048576 = lb := by omega
  rw [e1] at hand
  have e2 : ((1610612736 + cl * 1048576 + lb : Nat) : Int) / 268435456 = 6 := by omega
  have e3 : ((1610612736 + cl * 1048576 + lb : Nat) : Int) / 1048576 % 256 = (cl : Int) := by omega
  have hBl : (ip6B cl lb ln nx ht sh sl dh dl).length = 40 := ip6B_length _ _ _ _ _ _ _ _ _
  have HR := Lib.hid (fun W (h : Rb W A 40 c (ip6B cl lb ln nx ht sh sl dh dl)) => readK A 40 c (ip6B cl lb ln nx ht sh sl dh dl) W h (by omega))
  clear h e1 hlen
  generalize 1610612736 + cl * 1048576 + lb = X at *
  generalize ip6B cl lb ln nx ht sh sl dh dl = B at *
  replace x0 := Lib.hid x0
  replace x1 := Lib.hid x1
  replace x2 := Lib.hid x2
  replace x3 := Lib.hid x3
  replace y0 := Lib.hid y0
  replace y1 := Lib.hid y1
  have hB1 : B.length ≤ 40 := by omega
  have hB2 : 40 ≤ B.length := by omega
  clear hBl
  have b2 : Bk (w.alloc (.cells #[.int .u8 0, .int .u32 0, .int .i64 0, .int .u8 0, .int .u8 0, .bool false, .int .u64 0, .int .u64 0, .bool false, .int .u64 0, .int .u64 0] 171)) w.heap.size 171 (h6C 0 0 0 0 0 false 0 0 false 0 0) := Bk.new w 171 #[.int .u8 0, .int .u32 0, .int .i64 0, .int .u8 0, .int .u8 0, .bool false, .int .u64 0, .int .u64 0, .bool false, .int .u64 0, .int .u64 0]
  have be : Below w.heap.size w (w.alloc (.cells #[.int .u8 0, .int .u32 0, .int .i64 0, .int .u8 0, .int .u8 0, .bool false, .int .u64 0, .int .u64 0, .bool false, .int .u64 0, .int .u64 0] 171)) := Below.allocS (Below.refl _ _) _
  go_enter Try.func124, Try.ntmps124
  go_wp2_with fail
  refine (HR.out _ (ht40.alloc _)).mono ?_
  rintro e w1 ⟨r, bs1, d1, rfl, rfl, hr1, hR⟩
  replace b2 := b2.later (below_plus _ bs1 d1)
  replace be := belowP be bs1 d1
  have hr2 : w.heap.size < r := by simp at hr1; omega
  generalize plus (w.alloc (.cells #[.int .u8 0, .int .u32 0, .int .i64 0, .int .u8 0, .int .u8 0, .bool false, .int .u64 0, .int .u64 0, .bool false, .int .u64 0, .int .u64 0] 171)) bs1 d1 = W at *
  clear hr1
  go_wp2_with fail
  refine (longG W r B 0 X hR (by omega) (by omega) x0.out).mono ?_
  rintro e W1 ⟨rfl, hR1, hg1⟩
  replace b2 := b2.grown hg1 (by simp; omega)
  replace be := below_grown be hg1 (by omega)
  clear hg1 hR
  have zr := hR1.lt
  go_wp2_with fail
  have b6 : Bk (W1.alloc (.cells #[.int .u8 (cl : Int), .int .u32 (lb : Int), .int .i64 0, .int .u8 0, .int .u8 0, .bool false, .int .u64 0, .int .u64 0, .bool false, .int .u64 0, .int .u64 0] 171)) W1.heap.size 171 [.int .u8 (cl : Int), .int .u32 (lb : Int), .int .i64 0, .int .u8 0, .int .u8 0, .bool false, .int .u64 0, .int .u64 0, .bool false, .int .u64 0, .int .u64 0] := Bk.new W1 171 _
  replace b2 := b2.alloc (.cells #[.int .u8 (cl : Int), .int .u32 (lb : Int), .int .i64 0, .int .u8 0, .int .u8 0, .bool false, .int .u64 0, .int .u64 0, .bool false, .int .u64 0, .int .u64 0] 171)
  replace be := Below.allocS be (.cells #[.int .u8 (cl : Int), .int .u32 (lb : Int), .int .i64 0, .int .u8 0, .int .u8 0, .bool false, .int .u64 0, .int .u64 0, .bool false, .int .u64 0, .int .u64 0] 171)
  replace hR1 := hR1.later ((Below.refl _ _).alloc (Nat.le_refl _) (.cells #[.int .u8 (cl : Int), .int .u32 (lb : Int), .int .i64 0, .int .u8 0, .int .u8 0, .bool false, .int .u64 0, .int .u64 0, .bool false, .int .u64 0, .int .u64 0] 171))
  generalize W1.alloc (.cells #[.int .u8 (cl : Int), .int .u32 (lb : Int), .int .i64 0, .int .u8 0, .int .u8 0, .bool false, .int .u64 0, .int .u64 0, .bool false, .int .u64 0, .int .u64 0] 171) = W2 at *
  have zg : w.heap.size < W1.heap.size := by omega
  generalize W1.heap.size = g6 at *
  clear e2 e3 hand hXl x0 W
  refine (wordG W2 r B 4 ln hR1 (by omega) (by omega) x1.out).mono ?_
  clear x1
  rintro e W3 ⟨rfl, hR2, hg2⟩
  replace b2 := b2.grown hg2 (by simp; omega)
  replace b6 := b6.grown hg2 (by simp; omega)
  replace be := below_grown be hg2 (by omega)
  clear hg2 hR1
  have q := b6.cell 2
  have fr := b6.frozen 2
  have z6 := b6.lt
  simp only [List.getElem?_cons_succ, List.getElem?_cons_zero] at q
  go_wp2_with fail
  replace b6 := b6.set_ 2 (.int .i64 (ln : Int))
  replace b2 := b2.far (p := ⟨g6, 2, none⟩) (by simp; omega) (.int .i64 (ln : Int))
  have hR1 := hR2.far (p := ⟨g6, 2, none⟩) (by simp; omega) (.int .i64 (ln : Int))
  replace be := be.setCell (p := ⟨g6, 2, none⟩) (by simp; omega) (.int .i64 (ln : Int))
  simp only [List.set_cons_succ, List.set_cons_zero] at b6
  clear q fr z6 hR2
  generalize W3.setCell ⟨g6, 2, none⟩ (.int .i64 (ln : Int)) = W3s at *
  clear hdl
  refine (byteG W3s r B 6 nx hR1 (by omega) (by omega) x2.out).mono ?_
  clear x2
  rintro e W4 ⟨rfl, hR2, hg2⟩
  replace b2 := b2.grown hg2 (by simp; omega)
  replace b6 := b6.grown hg2 (by simp; omega)
  replace be := below_grown be hg2 (by omega)
  clear hg2 hR1
  have q := b6.cell 3
  have fr := b6.frozen 3
  have z6 := b6.lt
  simp only [List.getElem?_cons_succ, List.getElem?_cons_zero] at q
  go_wp2_with fail
  replace b6 := b6.set_ 3 (.int .u8 (nx : Int))
  replace b2 := b2.far (p := ⟨g6, 3, none⟩) (by simp; omega) (.int .u8 (nx : Int))
  have hR1 := hR2.far (p := ⟨g6, 3, none⟩) (by simp; omega) (.int .u8 (nx : Int))
  replace be := be.setCell (p := ⟨g6, 3, none⟩) (by simp; omega) (.int .u8 (nx : Int))
  simp only [List.set_cons_succ, List.set_cons_zero] at b6
  clear q fr z6 hR2
  generalize W4.setCell ⟨g6, 3, none⟩ (.int .u8 (nx : Int)) = W4s at *
  refine (byteG W4s r B 7 ht hR1 (by omega) (by omega) x3.out).mono ?_
  clear x3
  rintro e W5 ⟨rfl, hR2, hg2⟩
  replace b2 := b2.grown hg2 (by simp; omega)
  replace b6 := b6.grown hg2 (by simp; omega)
  replace be := below_grown be hg2 (by omega)
  clear hg2 hR1
  have q := b6.cell 4
  have fr := b6.frozen 4
  have z6 := b6.lt
  simp only [List.getElem?_cons_succ, List.getElem?_cons_zero] at q
  go_wp2_with fail
  replace b6 := b6.set_ 4 (.int .u8 (ht : Int))
  replace b2 := b2.far (p := ⟨g6, 4, none⟩) (by simp; omega) (.int .u8 (ht : Int))
  have hR1 := hR2.far (p := ⟨g6, 4, none⟩) (by simp; omega) (.int .u8 (ht : Int))
  replace be := be.setCell (p := ⟨g6, 4, none⟩) (by simp; omega) (.int .u8 (ht : Int))
  simp only [List.set_cons_succ, List.set_cons_zero] at b6
  clear q fr z6 hR2
  generalize W5.setCell ⟨g6, 4, none⟩ (.int .u8 (ht : Int)) = W5s at *
  refine (bytesG W5s r B 8 16 hR1 (by omega) (by omega)).mono ?_
  rintro e W6 ⟨Aa, na, ca, rfl, hoa, hR2, hg2⟩
  rw [y0.out] at hoa
  obtain rfl : na = 16 := by rw [← hoa.1]; simp [dig_length]
  replace b2 := b2.grown hg2 (by simp; omega)
  replace b6 := b6.grown hg2 (by simp; omega)
  replace be := below_grown be hg2 (by omega)
  clear hg2 hR1
  have z6 := b6.lt
  have zr := hR2.lt
  go_wp2_with fail
  refine (adrOf16 sh sl _ _ _ k1 k2 hoa.rb).mono ?_
  rintro e w1 ⟨bsa, da, rfl, rfl⟩
  replace b6 := b6.later (below_plus _ bsa da)
  replace b2 := b2.later (below_plus _ bsa da)
  replace be := belowP be bsa da
  replace hR2 := hR2.later (below_plus _ bsa da)
  clear hoa
  generalize plus W6 bsa da = W6p at *
  go_upto_region 14 with (refine at_op (.store 26 (.tmp 49) (.tmp 47)) rfl ?_; refine wpList_stM (t := 171) 26 (.tmp 49) (.tmp 47) rfl rfl (adC true sh sl) _ (by simp [adC]) (adC_one _ _ _) rfl rfl b6 (szAd _ _ _) ?_; intro W6s b6' hg3)
  simp only [splice, adC, List.take_succ_cons, List.take_zero, List.drop_succ_cons, List.drop_zero, List.length_cons, List.length_nil, Nat.zero_add, Nat.reduceAdd, List.cons_append, List.nil_append] at b6'
  replace b2 := b2.grown hg3 (by simp; omega)
  have hR1 := hR2.far_ hg3 (by omega)
  replace be := below_grown be hg3 (by omega)
  clear b6 hR2 hg3 z6 zr
  have b6 := b6'
  clear b6'
  go_wp2_with fail
  refine (bytesG W6s r B 24 16 hR1 (by omega) (by omega)).mono ?_
  rintro e W7 ⟨Aa, na, ca, rfl, hoa, hR2, hg2⟩
  rw [y1.out] at hoa
  obtain rfl : na = 16 := by rw [← hoa.1]; simp [dig_length]
  replace b2 := b2.grown hg2 (by simp; omega)
  replace b6 := b6.grown hg2 (by simp; omega)
  replace be := below_grown be hg2 (by omega)
  clear hg2 hR1
  have z6 := b6.lt
  have zr := hR2.lt
  go_wp2_with fail
  refine (adrOf16 dh dl _ _ _ k3 k4 hoa.rb).mono ?_
  rintro e w1 ⟨bsa, da, rfl, rfl⟩
  replace b6 := b6.later (below_plus _ bsa da)
  replace b2 := b2.later (below_plus _ bsa da)
  replace be := belowP be bsa da
  replace hR2 := hR2.later (below_plus _ bsa da)
  clear hoa
  generalize plus W7 bsa da = W7p at *
  go_upto_region 15 with (refine at_op (.store 26 (.tmp 56) (.tmp 54)) rfl ?_; refine wpList_stM (t := 171) 26 (.tmp 56) (.tmp 54) rfl rfl (adC true dh dl) _ (by simp [adC]) (adC_one _ _ _) rfl rfl b6 (szAd _ _ _) ?_; intro W7s b6' hg3)
  simp only [splice, adC, List.take_succ_cons, List.take_zero, List.drop_succ_cons, List.drop_zero, List.length_cons, List.length_nil, Nat.zero_add, Nat.reduceAdd, List.cons_append, List.nil_append] at b6'
  replace b2 := b2.grown hg3 (by simp; omega)
  have hR1 := hR2.far_ hg3 (by omega)
  replace be := below_grown be hg3 (by omega)
  clear b6 hR2 hg3 z6 zr
  have b6 := b6'
  clear b6'
  go_wp2_with (first
    | (refine at_op (.load 171 (.tmp 6)) rfl ?_; refine wpList_ldA (t := 171) 171 (.tmp 6) rfl rfl (h6C cl lb (ln : Int) nx ht true sh sl true dh dl) rfl b6 (whole_ _) u1 u2 (szH6 _ _ _ _ _ _ _ _ _ _ _) ?_)
    | (refine at_op (.store 171 (.tmp 2) (.tmp 57)) rfl ?_; refine wpList_stA (t := 171) 171 (.tmp 2) (.tmp 57) rfl rfl (h6C cl lb (ln : Int) nx ht true sh sl true dh dl) (h6C 0 0 0 0 0 false 0 0 false 0 0) rfl (h6C_one _ _ _ _ _ _ _ _ _ _ _) rfl rfl b2 (szH6 _ _ _ _ _ _ _ _ _ _ _) ?_; intro W9 h9 g9))
  refine bodyPost_agg2 Try.results124 rfl rfl h9.range u1 u2 (szH6 _ _ _ _ _ _ _ _ _ _ _) rfl (RetV.mk ?_)
  exact below_grown be g9 (by omega)
end Go.Proofs.Ytfmkndemkpecpaa
