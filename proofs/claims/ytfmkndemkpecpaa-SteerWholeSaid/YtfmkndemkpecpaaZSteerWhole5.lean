/- Texts of the law SteerWhole, part 5. -/
import Derived.Test.YtfmkndemkpecpaaZSteerWhole4
/- addr.Of; headers of IPv6: header, Parse, Packet, Older. -/
namespace Go.Proofs.Ytfmkndemkpecpaa
open Go.RowKit
set_option linter.unusedVariables false
set_option linter.unusedSimpArgs false
attribute [local go_sem ↓] sliced_cut

attribute [local go_sem] cutA_zero

def h6C (cl lb : Nat) (ln : Int) (nx ht : Nat) (s6 : Bool) (sh sl : Nat) (d6 : Bool) (dh dl : Nat) : List Value := [.int .u8 (cl : Int), .int .u32 (lb : Int), .int .i64 ln, .int .u8 (nx : Int), .int .u8 (ht : Int), .bool s6, .int .u64 (sh : Int), .int .u64 (sl : Int), .bool d6, .int .u64 (dh : Int), .int .u64 (dl : Int)]
theorem h6C_one (cl lb : Nat) (ln : Int) (nx ht : Nat) (s6 : Bool) (sh sl : Nat) (d6 : Bool) (dh dl : Nat) : ∀ u ∈ h6C cl lb ln nx ht s6 sh sl d6 dh dl, u.oneCell' = true := by
  intro u hu
  simp only [h6C, List.mem_cons, List.not_mem_nil, or_false] at hu
  rcases hu with rfl | rfl | rfl | rfl | rfl | rfl | rfl | rfl | rfl | rfl | rfl <;> rfl
theorem szH6 (cl lb : Nat) (ln : Int) (nx ht : Nat) (s6 : Bool) (sh sl : Nat) (d6 : Bool) (dh dl : Nat) : (Try.prog.info? 171).map (·.size) = some (h6C cl lb ln nx ht s6 sh sl d6 dh dl).length := by kernel_rfl
theorem rowH6 : ∃ d, Try.prog.underlying 171 = some d ∧ d.isRow = true := ⟨_, Try.underlying171, rfl⟩
theorem u32_mask20 (x : Nat) (h : x < 4294967296) : bits .and .u32 (x : Int) 1048575 = ((x % 1048576 : Nat) : Int) := by
  have := u32_and_nat x 1048575 h (by decide)
  rw [show (1048575 : Nat) = 2 ^ 20 - 1 from rfl, Nat.and_two_pow_sub_one_eq_mod] at this
  exact this
set_option maxHeartbeats 4000000 in
set_option maxRecDepth 100000 in
/-- ip6.header of what was written -/
theorem ip6Header (cl lb ln nx ht sh sl dh dl : Nat) (A : Option Addr) (n c : Nat) (load : List UInt8) (w : World) (h1 : cl < 256) (h2 : lb < 1048576) (h3 : ln < 65536) (h4 : nx < 256) (h5 : ht < 256) (k1 : sh < 18446744073709551616) (k2 : sl < 18446744073709551616) (k3 : dh < 18446744073709551616) (k4 : dl < 18446744073709551616) (h : Rb w A n c (ip6B cl lb ln nx ht sh sl dh dl ++ load)) (hn : ln ≤ load.length) (hm : n ≤ 1000000) :
    Calls Try.prog 124 #[.slice A n c] w (RetV w (.tuple #[.agg (h6C cl lb (ln : Int) nx ht true sh sl true dh dl).toArray, .int .i64 0])) := by
  obtain ⟨dk, u1, u2⟩ := rowH6
  have hlen : n = 40 + load.length := by rw [← h.1, List.length_append, ip6B_length]
  have hc := h.2.1
  have h40 : (40 : Int) ≤ (n : Int) := by omega
  have h40c : (40 : Int) ≤ (c : Int) := by omega
  have hln : ((n : Int) - 40 < (ln : Int)) = False := eq_false (by omega)
  have hdl : decide ((n : Int) - 40 < (ln : Int)) = false := by simp; omega
  have ht40 : Rb w A 40 c (ip6B cl lb ln nx ht sh sl dh dl) := by
    have := h.take (k := 40) (by omega)
    rwa [List.take_left' (ip6B_length _ _ _ _ _ _ _ _ _)] at this
  have x0 : num (((ip6B cl lb ln nx ht sh sl dh dl).drop 0).take 4) = (1610612736 + cl * 1048576 + lb) := by unfold ip6B; have := num_mid ([]) (dig ln 2 ++ dig nx 1 ++ dig ht 1 ++ (dig sh 8 ++ dig sl 8) ++ (dig dh 8 ++ dig dl 8)) (1610612736 + cl * 1048576 + lb) 4 0 (by simp [dig_length]) (by omega); simpa [List.append_assoc] using this
  have x1 : num (((ip6B cl lb ln nx ht sh sl dh dl).drop 4).take 2) = ln := by unfold ip6B; have := num_mid (dig (1610612736 + cl * 1048576 + lb) 4) (dig nx 1 ++ dig ht 1 ++ (dig sh 8 ++ dig sl 8) ++ (dig dh 8 ++ dig dl 8)) ln 2 4 (by simp [dig_length]) (by omega); simpa [List.append_assoc] using this
  have x2 : num (((ip6B cl lb ln nx ht sh sl dh dl).drop 6).take 1) = nx := by unfold ip6B; have := num_mid (dig (1610612736 + cl * 1048576 + lb) 4 ++ dig ln 2) (dig ht 1 ++ (dig sh 8 ++ dig sl 8) ++ (dig dh 8 ++ dig dl 8)) nx 1 6 (by simp [dig_length]) (by omega); simpa [List.append_assoc] using this
  have x3 : num (((ip6B cl lb ln nx ht sh sl dh dl).drop 7).take 1) = ht := by unfold ip6B; have := num_mid (dig (1610612736 + cl * 1048576 + lb) 4 ++ dig ln 2 ++ dig nx 1) ((dig sh 8 ++ dig sl 8) ++ (dig dh 8 ++ dig dl 8)) ht 1 7 (by simp [dig_length]) (by omega); simpa [List.append_assoc] using this
  have y0 : ((ip6B cl lb ln nx ht sh sl dh dl).drop 8).take 16 = dig sh 8 ++ dig sl 8 := by
    unfold ip6B
    rw [List.append_assoc, List.drop_left' (by simp [dig_length]), List.take_left' (by simp [dig_length])]
  have y1 : ((ip6B cl lb ln nx ht sh sl dh dl).drop 24).take 16 = dig dh 8 ++ dig dl 8 := by
    unfold ip6B
    rw [List.drop_left' (by simp [dig_length]), List.take_of_length_le (by simp [dig_length])]
  have hXl : 1610612736 + cl * 1048576 + lb < 4294967296 := by omega
  have hand := u32_mask20 (1610612736 + cl * 1048576 + lb) hXl
  have e1 : (1610612736 + cl * 1048576 + lb) % 1048576 = lb := by omega
  rw [e1] at hand
  have e2 : ((1610612736 + cl * 1048576 + lb : Nat) : Int) / 268435456 = 6 := by omega
  have e3 : ((1610612736 + cl * 1048576 + lb : Nat) : Int) / 1048576 % 256 = (cl : Int) := by omega
  have hBl : (ip6B cl lb ln nx ht sh sl dh dl).length = 40 := ip6B_length _ _ _ _ _ _ _ _ _
  have HR := Lib.hid (fun W (h : Rb W A 40 c (ip6B cl lb ln nx ht sh sl dh dl)) => readK A 40 c (ip6B cl lb ln nx ht sh sl dh dl) W h (by omega))
  clear h e1 hlen
  generalize 1610612736 + cl * 1048576 + lb = X at *
  generalize ip6B cl lb ln nx ht sh sl dh dl = B at *
  replace x0 := Lib.hid x0
  replace x1 := Lib.hid x1
  replace x2 := Lib.hid x2
  replace x3 := Lib.hid x3
  replace y0 := Lib.hid y0
  replace y1 := Lib.hid y1
  have hB1 : B.length ≤ 40 := by omega
  have hB2 : 40 ≤ B.length := by omega
  clear hBl
  have b2 : Bk (w.alloc (.cells #[.int .u8 0, .int .u32 0, .int .i64 0, .int .u8 0, .int .u8 0, .bool false, .int .u64 0, .int .u64 0, .bool false, .int .u64 0, .int .u64 0] 171)) w.heap.size 171 (h6C 0 0 0 0 0 false 0 0 false 0 0) := Bk.new w 171 #[.int .u8 0, .int .u32 0, .int .i64 0, .int .u8 0, .int .u8 0, .bool false, .int .u64 0, .int .u64 0, .bool false, .int .u64 0, .int .u64 0]
  have be : Below w.heap.size w (w.alloc (.cells #[.int .u8 0, .int .u32 0, .int .i64 0, .int .u8 0, .int .u8 0, .bool false, .int .u64 0, .int .u64 0, .bool false, .int .u64 0, .int .u64 0] 171)) := Below.allocS (Below.refl _ _) _
  go_enter Try.func124, Try.ntmps124
  go_wp2_with fail
  refine (HR.out _ (ht40.alloc _)).mono ?_
  rintro e w1 ⟨r, bs1, d1, rfl, rfl, hr1, hR⟩
  replace b2 := b2.later (below_plus _ bs1 d1)
  replace be := belowP be bs1 d1
  have hr2 : w.heap.size < r := by simp at hr1; omega
  generalize plus (w.alloc (.cells #[.int .u8 0, .int .u32 0, .int .i64 0, .int .u8 0, .int .u8 0, .bool false, .int .u64 0, .int .u64 0, .bool false, .int .u64 0, .int .u64 0] 171)) bs1 d1 = W at *
  clear hr1
  go_wp2_with fail
  refine (longG W r B 0 X hR (by omega) (by omega) x0.out).mono ?_
  rintro e W1 ⟨rfl, hR1, hg1⟩
  replace b2 := b2.grown hg1 (by simp; omega)
  replace be := below_grown be hg1 (by omega)
  clear hg1 hR
  have zr := hR1.lt
  go_wp2_with fail
  have b6 : Bk (W1.alloc (.cells #[.int .u8 (cl : Int), .int .u32 (lb : Int), .int .i64 0, .int .u8 0, .int .u8 0, .bool false, .int .u64 0, .int .u64 0, .bool false, .int .u64 0, .int .u64 0] 171)) W1.heap.size 171 [.int .u8 (cl : Int), .int .u32 (lb : Int), .int .i64 0, .int .u8 0, .int .u8 0, .bool false, .int .u64 0, .int .u64 0, .bool false, .int .u64 0, .int .u64 0] := Bk.new W1 171 _
  replace b2 := b2.alloc (.cells #[.int .u8 (cl : Int), .int .u32 (lb : Int), .int .i64 0, .int .u8 0, .int .u8 0, .bool false, .int .u64 0, .int .u64 0, .bool false, .int .u64 0, .int .u64 0] 171)
  replace be := Below.allocS be (.cells #[.int .u8 (cl : Int), .int .u32 (lb : Int), .int .i64 0, .int .u8 0, .int .u8 0, .bool false, .int .u64 0, .int .u64 0, .bool false, .int .u64 0, .int .u64 0] 171)
  replace hR1 := hR1.later ((Below.refl _ _).alloc (Nat.le_refl _) (.cells #[.int .u8 (cl : Int), .int .u32 (lb : Int), .int .i64 0, .int .u8 0, .int .u8 0, .bool false, .int .u64 0, .int .u64 0, .bool false, .int .u64 0, .int .u64 0] 171))
  generalize W1.alloc (.cells #[.int .u8 (cl : Int), .int .u32 (lb : Int), .int .i64 0, .int .u8 0, .int .u8 0, .bool false, .int .u64 0, .int .u64 0, .bool false, .int .u64 0, .int .u64 0] 171) = W2 at *
  have zg : w.heap.size < W1.heap.size := by omega
  generalize W1.heap.size = g6 at *
  clear e2 e3 hand hXl x0 W
  refine (wordG W2 r B 4 ln hR1 (by omega) (by omega) x1.out).mono ?_
  clear x1
  rintro e W3 ⟨rfl, hR2, hg2⟩
  replace b2 := b2.grown hg2 (by simp; omega)
  replace b6 := b6.grown hg2 (by simp; omega)
  replace be := below_grown be hg2 (by omega)
  clear hg2 hR1
  have q := b6.cell 2
  have fr := b6.frozen 2
  have z6 := b6.lt
  simp only [List.getElem?_cons_succ, List.getElem?_cons_zero] at q
  go_wp2_with fail
  replace b6 := b6.set_ 2 (.int .i64 (ln : Int))
  replace b2 := b2.far (p := ⟨g6, 2, none⟩) (by simp; omega) (.int .i64 (ln : Int))
  have hR1 := hR2.far (p := ⟨g6, 2, none⟩) (by simp; omega) (.int .i64 (ln : Int))
  replace be := be.setCell (p := ⟨g6, 2, none⟩) (by simp; omega) (.int .i64 (ln : Int))
  simp only [List.set_cons_succ, List.set_cons_zero] at b6
  clear q fr z6 hR2
  generalize W3.setCell ⟨g6, 2, none⟩ (.int .i64 (ln : Int)) = W3s at *
  clear hdl
  refine (byteG W3s r B 6 nx hR1 (by omega) (by omega) x2.out).mono ?_
  clear x2
  rintro e W4 ⟨rfl, hR2, hg2⟩
  replace b2 := b2.grown hg2 (by simp; omega)
  replace b6 := b6.grown hg2 (by simp; omega)
  replace be := below_grown be hg2 (by omega)
  clear hg2 hR1
  have q := b6.cell 3
  have fr := b6.frozen 3
  have z6 := b6.lt
  simp only [List.getElem?_cons_succ, List.getElem?_cons_zero] at q
  go_wp2_with fail
  replace b6 := b6.set_ 3 (.int .u8 (nx : Int))
  replace b2 := b2.far (p := ⟨g6, 3, none⟩) (by simp; omega) (.int .u8 (nx : Int))
  have hR1 := hR2.far (p := ⟨g6, 3, none⟩) (by simp; omega) (.int .u8 (nx : Int))
  replace be := be.setCell (p := ⟨g6, 3, none⟩) (by simp; omega) (.int .u8 (nx : Int))
  simp only [List.set_cons_succ, List.set_cons_zero] at b6
  clear q fr z6 hR2
  generalize W4.setCell ⟨g6, 3, none⟩ (.int .u8 (nx : Int)) = W4s at *
  refine (byteG W4s r B 7 ht hR1 (by omega) (by omega) x3.out).mono ?_
  clear x3
  rintro e W5 ⟨rfl, hR2, hg2⟩
  replace b2 := b2.grown hg2 (by simp; omega)
  replace b6 := b6.grown hg2 (by simp; omega)
  replace be := below_grown be hg2 (by omega)
  clear hg2 hR1
  have q := b6.cell 4
  have fr := b6.frozen 4
  have z6 := b6.lt
  simp only [List.getElem?_cons_succ, List.getElem?_cons_zero] at q
  go_wp2_with fail
  replace b6 := b6.set_ 4 (.int .u8 (ht : Int))
  replace b2 := b2.far (p := ⟨g6, 4, none⟩) (by simp; omega) (.int .u8 (ht : Int))
  have hR1 := hR2.far (p := ⟨g6, 4, none⟩) (by simp; omega) (.int .u8 (ht : Int))
  replace be := be.setCell (p := ⟨g6, 4, none⟩) (by simp; omega) (.int .u8 (ht : Int))
  simp only [List.set_cons_succ, List.set_cons_zero] at b6
  clear q fr z6 hR2
  generalize W5.setCell ⟨g6, 4, none⟩ (.int .u8 (ht : Int)) = W5s at *
  refine (bytesG W5s r B 8 16 hR1 (by omega) (by omega)).mono ?_
  rintro e W6 ⟨Aa, na, ca, rfl, hoa, hR2, hg2⟩
  rw [y0.out] at hoa
  obtain rfl : na = 16 := by rw [← hoa.1]; simp [dig_length]
  replace b2 := b2.grown hg2 (by simp; omega)
  replace b6 := b6.grown hg2 (by simp; omega)
  replace be := below_grown be hg2 (by omega)
  clear hg2 hR1
  have z6 := b6.lt
  have zr := hR2.lt
  go_wp2_with fail
  refine (adrOf16 sh sl _ _ _ k1 k2 hoa.rb).mono ?_
  rintro e w1 ⟨bsa, da, rfl, rfl⟩
  replace b6 := b6.later (below_plus _ bsa da)
  replace b2 := b2.later (below_plus _ bsa da)
  replace be := belowP be bsa da
  replace hR2 := hR2.later (below_plus _ bsa da)
  clear hoa
  generalize plus W6 bsa da = W6p at *
  go_upto_region 14 with (refine at_op (.store 26 (.tmp 49) (.tmp 47)) rfl ?_; refine wpList_stM (t := 171) 26 (.tmp 49) (.tmp 47) rfl rfl (adC true sh sl) _ (by simp [adC]) (adC_one _ _ _) rfl rfl b6 (szAd _ _ _) ?_; intro W6s b6' hg3)
  simp only [splice, adC, List.take_succ_cons, List.take_zero, List.drop_succ_cons, List.drop_zero, List.length_cons, List.length_nil, Nat.zero_add, Nat.reduceAdd, List.cons_append, List.nil_append] at b6'
  replace b2 := b2.grown hg3 (by simp; omega)
  have hR1 := hR2.far_ hg3 (by omega)
  replace be := below_grown be hg3 (by omega)
  clear b6 hR2 hg3 z6 zr
  have b6 := b6'
  clear b6'
  go_wp2_with fail
  refine (bytesG W6s r B 24 16 hR1 (by omega) (by omega)).mono ?_
  rintro e W7 ⟨Aa, na, ca, rfl, hoa, hR2, hg2⟩
  rw [y1.out] at hoa
  obtain rfl : na = 16 := by rw [← hoa.1]; simp [dig_length]
  replace b2 := b2.grown hg2 (by simp; omega)
  replace b6 := b6.grown hg2 (by simp; omega)
  replace be := below_grown be hg2 (by omega)
  clear hg2 hR1
  have z6 := b6.lt
  have zr := hR2.lt
  go_wp2_with fail
  refine (adrOf16 dh dl _ _ _ k3 k4 hoa.rb).mono ?_
  rintro e w1 ⟨bsa, da, rfl, rfl⟩
  replace b6 := b6.later (below_plus _ bsa da)
  replace b2 := b2.later (below_plus _ bsa da)
  replace be := belowP be bsa da
  replace hR2 := hR2.later (below_plus _ bsa da)
  clear hoa
  generalize plus W7 bsa da = W7p at *
  go_upto_region 15 with (refine at_op (.store 26 (.tmp 56) (.tmp 54)) rfl ?_; refine wpList_stM (t := 171) 26 (.tmp 56) (.tmp 54) rfl rfl (adC true dh dl) _ (by simp [adC]) (adC_one _ _ _) rfl rfl b6 (szAd _ _ _) ?_; intro W7s b6' hg3)
  simp only [splice, adC, List.take_succ_cons, List.take_zero, List.drop_succ_cons, List.drop_zero, List.length_cons, List.length_nil, Nat.zero_add, Nat.reduceAdd, List.cons_append, List.nil_append] at b6'
  replace b2 := b2.grown hg3 (by simp; omega)
  have hR1 := hR2.far_ hg3 (by omega)
  replace be := below_grown be hg3 (by omega)
  clear b6 hR2 hg3 z6 zr
  have b6 := b6'
  clear b6'
  go_wp2_with (first
    | (refine at_op (.load 171 (.tmp 6)) rfl ?_; refine wpList_ldA (t := 171) 171 (.tmp 6) rfl rfl (h6C cl lb (ln : Int) nx ht true sh sl true dh dl) rfl b6 (whole_ _) u1 u2 (szH6 _ _ _ _ _ _ _ _ _ _ _) ?_)
    | (refine at_op (.store 171 (.tmp 2) (.tmp 57)) rfl ?_; refine wpList_stA (t := 171) 171 (.tmp 2) (.tmp 57) rfl rfl (h6C cl lb (ln : Int) nx ht true sh sl true dh dl) (h6C 0 0 0 0 0 false 0 0 false 0 0) rfl (h6C_one _ _ _ _ _ _ _ _ _ _ _) rfl rfl b2 (szH6 _ _ _ _ _ _ _ _ _ _ _) ?_; intro W9 h9 g9))
  refine bodyPost_agg2 Try.results124 rfl rfl h9.range u1 u2 (szH6 _ _ _ _ _ _ _ _ _ _ _) rfl (RetV.mk ?_)
  exact below_grown be g9 (by omega)
end Go.Proofs.Ytfmkndemkpecpaa

/- Packets of IPv6: Parse, Packet, Older. -/
namespace Go.Proofs.Ytfmkndemkpecpaa
open Go.RowKit
set_option linter.unusedVariables false
set_option linter.unusedSimpArgs false
attribute [local go_sem ↓] sliced_cut

attribute [local go_sem] cutA_zero

/-- a header and bytes, and an error -/
def RetH (w : World) (cs : List Value) (l : List UInt8) (e : Ending) (w' : World) : Prop := ∃ A n c bs d, e = .returned (.tuple #[.agg cs.toArray, .slice A n c, .int .i64 0]) ∧ w' = plus w bs d ∧ Ob (plus w bs d) w.heap.size A n c l
theorem RetH.mk {w w' : World} {cs : List Value} {l : List UInt8} {A : Option Addr} {n c : Nat} (h : Ob w' w.heap.size A n c l) (hb : Below w.heap.size w w') : RetH w cs l (.returned (.tuple #[.agg cs.toArray, .slice A n c, .int .i64 0])) w' := by
  obtain ⟨bs, d, rfl⟩ := plus_of hb
  exact ⟨A, n, c, bs, d, rfl, rfl, h⟩
end Go.Proofs.Ytfmkndemkpecpaa

/- IPv6 packets of any bytes: ip6.Parse, the reference's Parse. -/
namespace Go.Proofs.Ytfmkndemkpecpaa
open Go.RowKit
set_option linter.unusedVariables false
set_option linter.unusedSimpArgs false
attribute [local go_sem ↓] sliced_cut

attribute [local go_sem] cutA_zero

set_option maxHeartbeats 4000000 in
set_option maxRecDepth 100000 in
theorem hdr6_short (A : Option Addr) (n c : Nat) (l : List UInt8) (w : World) (h : Rb w A n c l) (hm : n ≤ 1000000) (hn : n < 40) : Calls Try.prog 124 #[.slice A n c] w (RetV w (.tuple #[.agg (h6C 0 0 0 0 0 false 0 0 false 0 0).toArray, .int .i64 20])) := by
  obtain ⟨du, u1, u2⟩ := rowH6
  have d40 : decide ((n : Int) < 40) = true := by simp only [decide_eq_true_eq]; omega
  have b2 : Bk (w.alloc (.cells #[.int .u8 0, .int .u32 0, .int .i64 0, .int .u8 0, .int .u8 0, .bool false, .int .u64 0, .int .u64 0, .bool false, .int .u64 0, .int .u64 0] 171)) w.heap.size 171 (h6C 0 0 0 0 0 false 0 0 false 0 0) := Bk.new w 171 #[.int .u8 0, .int .u32 0, .int .i64 0, .int .u8 0, .int .u8 0, .bool false, .int .u64 0, .int .u64 0, .bool false, .int .u64 0, .int .u64 0]
  have be : Below w.heap.size w (w.alloc (.cells #[.int .u8 0, .int .u32 0, .int .i64 0, .int .u8 0, .int .u8 0, .bool false, .int .u64 0, .int .u64 0, .bool false, .int .u64 0, .int .u64 0] 171)) := Below.allocS (Below.refl _ _) _
  go_enter Try.func124, Try.ntmps124
  go_wp2_with (refine at_op (.store 171 (.tmp 2) (.tmp 10)) rfl ?_; refine wpList_stA (t := 171) 171 (.tmp 2) (.tmp 10) rfl rfl (h6C 0 0 0 0 0 false 0 0 false 0 0) (h6C 0 0 0 0 0 false 0 0 false 0 0) rfl (h6C_one _ _ _ _ _ _ _ _ _ _ _) rfl rfl b2 (szH6 _ _ _ _ _ _ _ _ _ _ _) ?_; intro W9 h9 g9)
  refine bodyPost_agg2 Try.results124 rfl rfl h9.range u1 u2 (szH6 _ _ _ _ _ _ _ _ _ _ _) rfl (RetV.mk ?_)
  exact below_grown be g9 (by omega)
set_option maxHeartbeats 4000000 in
set_option maxRecDepth 100000 in
theorem hdr6_form (A : Option Addr) (n c : Nat) (l : List UInt8) (w : World) (h : Rb w A n c l) (hm : n ≤ 1000000) (X : Nat) (x0 : num ((l.drop 0).take 4) = X) (hn : 40 ≤ n) (hf : X / 268435456 ≠ 6) : Calls Try.prog 124 #[.slice A n c] w (RetV w (.tuple #[.agg (h6C 0 0 0 0 0 false 0 0 false 0 0).toArray, .int .i64 21])) := by
  obtain ⟨du, u1, u2⟩ := rowH6
  have hc := h.2.1
  have h40 : (40 : Int) ≤ (n : Int) := by omega
  have h40c : (40 : Int) ≤ (c : Int) := by omega
  have d40 : decide ((n : Int) < 40) = false := by simp only [decide_eq_false_iff_not]; omega
  have ht40 : Rb w A 40 c (l.take 40) := h.take (by omega)
  have hX : X < 4294967296 := by rw [← x0]; exact num_lt' l 0 4 4294967296 (by decide)
  replace x0 : Hid (num (((l.take 40).drop 0).take 4) = X) := Lib.hid (by rw [num_in l 40 0 4 (by decide)]; exact x0)
  have e2 : ((X : Int) / 268435456 != 6) = true := by rw [bne_iff_ne]; omega
  have hB : (l.take 40).length = 40 := by rw [List.length_take, h.1]; omega
  have HR := Lib.hid (fun W (h : Rb W A 40 c (l.take 40)) => readK A 40 c (l.take 40) W h (by decide))
  generalize l.take 40 = B at *
  clear h
  have b2 : Bk (w.alloc (.cells #[.int .u8 0, .int .u32 0, .int .i64 0, .int .u8 0, .int .u8 0, .bool false, .int .u64 0, .int .u64 0, .bool false, .int .u64 0, .int .u64 0] 171)) w.heap.size 171 (h6C 0 0 0 0 0 false 0 0 false 0 0) := Bk.new w 171 #[.int .u8 0, .int .u32 0, .int .i64 0, .int .u8 0, .int .u8 0, .bool false, .int .u64 0, .int .u64 0, .bool false, .int .u64 0, .int .u64 0]
  have be : Below w.heap.size w (w.alloc (.cells #[.int .u8 0, .int .u32 0, .int .i64 0, .int .u8 0, .int .u8 0, .bool false, .int .u64 0, .int .u64 0, .bool false, .int .u64 0, .int .u64 0] 171)) := Below.allocS (Below.refl _ _) _
  go_enter Try.func124, Try.ntmps124
  go_wp2_with fail
  refine (HR.out _ (ht40.alloc _)).mono ?_
  rintro e w1 ⟨r, bs1, d1, rfl, rfl, hr1, hR⟩
  replace b2 := b2.later (below_plus _ bs1 d1)
  replace be := belowP be bs1 d1
  have hr2 : w.heap.size < r := by simp at hr1; omega
  generalize plus (w.alloc (.cells #[.int .u8 0, .int .u32 0, .int .i64 0, .int .u8 0, .int .u8 0, .bool false, .int .u64 0, .int .u64 0, .bool false, .int .u64 0, .int .u64 0] 171)) bs1 d1 = W at *
  clear hr1
  go_wp2_with fail
  refine (longG W r B 0 X hR (by omega) (by omega) x0.out).mono ?_
  rintro e W1 ⟨rfl, hR1, hg1⟩
  replace b2 := b2.grown hg1 (by simp; omega)
  replace be := below_grown be hg1 (by omega)
  clear hg1 hR
  have zr := hR1.lt
  go_wp2_with (refine at_op (.store 171 (.tmp 2) (.tmp 19)) rfl ?_; refine wpList_stA (t := 171) 171 (.tmp 2) (.tmp 19) rfl rfl (h6C 0 0 0 0 0 false 0 0 false 0 0) (h6C 0 0 0 0 0 false 0 0 false 0 0) rfl (h6C_one _ _ _ _ _ _ _ _ _ _ _) rfl rfl b2 (szH6 _ _ _ _ _ _ _ _ _ _ _) ?_; intro W9 h9 g9)
  refine bodyPost_agg2 Try.results124 rfl rfl h9.range u1 u2 (szH6 _ _ _ _ _ _ _ _ _ _ _) rfl (RetV.mk ?_)
  exact below_grown be g9 (by omega)
set_option maxHeartbeats 4000000 in
set_option maxRecDepth 100000 in
theorem hdr6_long (A : Option Addr) (n c : Nat) (l : List UInt8) (w : World) (h : Rb w A n c l) (hm : n ≤ 1000000) (X ln : Nat) (x0 : num ((l.drop 0).take 4) = X) (x1 : num ((l.drop 4).take 2) = ln) (hn : 40 ≤ n) (hf : X / 268435456 = 6) (hq : n - 40 < ln) : Calls Try.prog 124 #[.slice A n c] w (RetV w (.tuple #[.agg (h6C 0 0 0 0 0 false 0 0 false 0 0).toArray, .int .i64 20])) := by
  obtain ⟨du, u1, u2⟩ := rowH6
  have hc := h.2.1
  have h40 : (40 : Int) ≤ (n : Int) := by omega
  have h40c : (40 : Int) ≤ (c : Int) := by omega
  have d40 : decide ((n : Int) < 40) = false := by simp only [decide_eq_false_iff_not]; omega
  have ht40 : Rb w A 40 c (l.take 40) := h.take (by omega)
  have hX : X < 4294967296 := by rw [← x0]; exact num_lt' l 0 4 4294967296 (by decide)
  replace x0 : Hid (num (((l.take 40).drop 0).take 4) = X) := Lib.hid (by rw [num_in l 40 0 4 (by decide)]; exact x0)
  have hln : ln < 65536 := by rw [← x1]; exact num_lt' l 4 2 65536 (by decide)
  replace x1 : Hid (num (((l.take 40).drop 4).take 2) = ln) := Lib.hid (by rw [num_in l 40 4 2 (by decide)]; exact x1)
  have e2 : (X : Int) / 268435456 = 6 := by omega
  obtain ⟨cl, hcl⟩ : ∃ cl : Nat, (X : Int) / 1048576 % 256 = (cl : Int) := ⟨X / 1048576 % 256, by omega⟩
  obtain ⟨lb, hlb⟩ : ∃ lb : Nat, X % 1048576 = lb := ⟨_, rfl⟩
  have hand := u32_mask20 X hX
  rw [hlb] at hand
  have hdl : decide ((n : Int) - 40 < (ln : Int)) = true := by simp only [decide_eq_true_eq]; omega
  have hdn : IntKind.i64.wrap ((n : Int) - 40) = (n : Int) - 40 := IntWalk.i64_in _ (by omega)
  clear hlb
  have hB : (l.take 40).length = 40 := by rw [List.length_take, h.1]; omega
  have HR := Lib.hid (fun W (h : Rb W A 40 c (l.take 40)) => readK A 40 c (l.take 40) W h (by decide))
  generalize l.take 40 = B at *
  clear h
  have b2 : Bk (w.alloc (.cells #[.int .u8 0, .int .u32 0, .int .i64 0, .int .u8 0, .int .u8 0, .bool false, .int .u64 0, .int .u64 0, .bool false, .int .u64 0, .int .u64 0] 171)) w.heap.size 171 (h6C 0 0 0 0 0 false 0 0 false 0 0) := Bk.new w 171 #[.int .u8 0, .int .u32 0, .int .i64 0, .int .u8 0, .int .u8 0, .bool false, .int .u64 0, .int .u64 0, .bool false, .int .u64 0, .int .u64 0]
  have be : Below w.heap.size w (w.alloc (.cells #[.int .u8 0, .int .u32 0, .int .i64 0, .int .u8 0, .int .u8 0, .bool false, .int .u64 0, .int .u64 0, .bool false, .int .u64 0, .int .u64 0] 171)) := Below.allocS (Below.refl _ _) _
  go_enter Try.func124, Try.ntmps124
  go_wp2_with fail
  refine (HR.out _ (ht40.alloc _)).mono ?_
  rintro e w1 ⟨r, bs1, d1, rfl, rfl, hr1, hR⟩
  replace b2 := b2.later (below_plus _ bs1 d1)
  replace be := belowP be bs1 d1
  have hr2 : w.heap.size < r := by simp at hr1; omega
  generalize plus (w.alloc (.cells #[.int .u8 0, .int .u32 0, .int .i64 0, .int .u8 0, .int .u8 0, .bool false, .int .u64 0, .int .u64 0, .bool false, .int .u64 0, .int .u64 0] 171)) bs1 d1 = W at *
  clear hr1
  go_wp2_with fail
  refine (longG W r B 0 X hR (by omega) (by omega) x0.out).mono ?_
  rintro e W1 ⟨rfl, hR1, hg1⟩
  replace b2 := b2.grown hg1 (by simp; omega)
  replace be := below_grown be hg1 (by omega)
  clear hg1 hR
  have zr := hR1.lt
  go_wp2_with fail
  have b6 : Bk (W1.alloc (.cells #[.int .u8 (cl : Int), .int .u32 (lb : Int), .int .i64 0, .int .u8 0, .int .u8 0, .bool false, .int .u64 0, .int .u64 0, .bool false, .int .u64 0, .int .u64 0] 171)) W1.heap.size 171 [.int .u8 (cl : Int), .int .u32 (lb : Int), .int .i64 0, .int .u8 0, .int .u8 0, .bool false, .int .u64 0, .int .u64 0, .bool false, .int .u64 0, .int .u64 0] := Bk.new W1 171 _
  replace b2 := b2.alloc (.cells #[.int .u8 (cl : Int), .int .u32 (lb : Int), .int .i64 0, .int .u8 0, .int .u8 0, .bool false, .int .u64 0, .int .u64 0, .bool false, .int .u64 0, .int .u64 0] 171)
  replace be := Below.allocS be (.cells #[.int .u8 (cl : Int), .int .u32 (lb : Int), .int .i64 0, .int .u8 0, .int .u8 0, .bool false, .int .u64 0, .int .u64 0, .bool false, .int .u64 0, .int .u64 0] 171)
  replace hR1 := hR1.later ((Below.refl _ _).alloc (Nat.le_refl _) (.cells #[.int .u8 (cl : Int), .int .u32 (lb : Int), .int .i64 0, .int .u8 0, .int .u8 0, .bool false, .int .u64 0, .int .u64 0, .bool false, .int .u64 0, .int .u64 0] 171))
  generalize W1.alloc (.cells #[.int .u8 (cl : Int), .int .u32 (lb : Int), .int .i64 0, .int .u8 0, .int .u8 0, .bool false, .int .u64 0, .int .u64 0, .bool false, .int .u64 0, .int .u64 0] 171) = W2 at *
  have zg : w.heap.size < W1.heap.size := by omega
  generalize W1.heap.size = g6 at *
  clear e2 hcl hand hX x0 W
  refine (wordG W2 r B 4 ln hR1 (by omega) (by omega) x1.out).mono ?_
  clear x1
  rintro e W3 ⟨rfl, hR2, hg2⟩
  replace b2 := b2.grown hg2 (by simp; omega)
  replace b6 := b6.grown hg2 (by simp; omega)
  replace be := below_grown be hg2 (by omega)
  clear hg2 hR1
  have q := b6.cell 2
  have fr := b6.frozen 2
  have z6 := b6.lt
  simp only [List.getElem?_cons_succ, List.getElem?_cons_zero] at q
  go_upto_region 9 with (fail)
  replace b6 := b6.set_ 2 (.int .i64 (ln : Int))
  replace b2 := b2.far (p := ⟨g6, 2, none⟩) (by simp; omega) (.int .i64 (ln : Int))
  replace be := be.setCell (p := ⟨g6, 2, none⟩) (by simp; omega) (.int .i64 (ln : Int))
  simp only [List.set_cons_succ, List.set_cons_zero] at b6
  clear q fr z6 hR2
  generalize W3.setCell ⟨g6, 2, none⟩ (.int .i64 (ln : Int)) = W3s at *
  have q := b6.cell 2
  simp only [List.getElem?_cons_succ, List.getElem?_cons_zero] at q
  go_wp2_with (refine at_op (.store 171 (.tmp 2) (.tmp 36)) rfl ?_; refine wpList_stA (t := 171) 171 (.tmp 2) (.tmp 36) rfl rfl (h6C 0 0 0 0 0 false 0 0 false 0 0) (h6C 0 0 0 0 0 false 0 0 false 0 0) rfl (h6C_one _ _ _ _ _ _ _ _ _ _ _) rfl rfl b2 (szH6 _ _ _ _ _ _ _ _ _ _ _) ?_; intro W9 h9 g9)
  refine bodyPost_agg2 Try.results124 rfl rfl h9.range u1 u2 (szH6 _ _ _ _ _ _ _ _ _ _ _) rfl (RetV.mk ?_)
  exact below_grown be g9 (by omega)

/-- forty bytes that say 6 are a written header -/
theorem as_ip6B (l : List UInt8) (h : 40 ≤ l.length) (hv : num ((l.drop 0).take 4) / 268435456 = 6) : l = ip6B (num ((l.drop 0).take 4) / 1048576 % 256) (num ((l.drop 0).take 4) % 1048576) (num ((l.drop 4).take 2)) (num ((l.drop 6).take 1)) (num ((l.drop 7).take 1)) (num ((l.drop 8).take 8)) (num ((l.drop 16).take 8)) (num ((l.drop 24).take 8)) (num ((l.drop 32).take 8)) ++ l.drop 40 := by
  have part : ∀ (k s : Nat), k + s ≤ l.length → dig (num ((l.drop k).take s)) s = (l.drop k).take s := fun k s hk => digNum s _ (by rw [List.length_take, List.length_drop]; omega)
  have hX : num ((l.drop 0).take 4) < 4294967296 := num_lt' l 0 4 _ (by decide)
  have e0 : 1610612736 + num ((l.drop 0).take 4) / 1048576 % 256 * 1048576 + num ((l.drop 0).take 4) % 1048576 = num ((l.drop 0).take 4) := by omega
  unfold ip6B
  rw [e0, part 0 4 (by omega), part 4 2 (by omega), part 6 1 (by omega), part 7 1 (by omega), part 8 8 (by omega), part 16 8 (by omega), part 24 8 (by omega), part 32 8 (by omega)]
  have cut : ∀ (k s : Nat), l.drop k = (l.drop k).take s ++ l.drop (k + s) := fun k s => by rw [← List.drop_drop, List.take_append_drop]
  have c0 := cut 0 4
  rw [cut 4 2, cut 6 1, cut 7 1, cut 8 8, cut 16 8, cut 24 8, cut 32 8] at c0
  rw [List.drop_zero] at c0 ⊢
  conv => lhs; rw [c0]
  simp only [List.append_assoc]
theorem num_app : ∀ (b a : List UInt8), num (a ++ b) = num a * 256 ^ b.length + num b := by
  intro b
  induction b with
  | nil => intro a; simp [num]
  | cons x b ih =>
    intro a
    have h1 := ih [x]
    rw [show a ++ x :: b = (a ++ [x]) ++ b by simp, ih, num_snoc, show x :: b = [x] ++ b from rfl, h1, show num [x] = x.toNat from by simp [num], List.length_append, List.length_singleton, Nat.add_comm 1 b.length, Nat.pow_succ, Nat.add_mul, Nat.mul_assoc, Nat.mul_comm 256]
    omega
theorem first_ip6 (l : List UInt8) (h : 4 ≤ l.length) : num ((l.drop 0).take 4) = num ((l.drop 0).take 1) * 16777216 + num ((l.drop 1).take 1) * 65536 + num ((l.drop 2).take 2) := by
  have e : (l.drop 0).take 4 = (l.drop 0).take 1 ++ ((l.drop 1).take 1 ++ (l.drop 2).take 2) := by
    match l, h with
    | a :: b :: c :: d :: r, _ => simp
  rw [e, num_app, num_app]
  have h1 : ((l.drop 1).take 1).length = 1 := by rw [List.length_take, List.length_drop]; omega
  have h2 : ((l.drop 2).take 2).length = 2 := by rw [List.length_take, List.length_drop]; omega
  rw [List.length_append, h1, h2]
  omega
end Go.Proofs.Ytfmkndemkpecpaa

/- The law Ip6Writes (chapter 5). -/
namespace Go.Proofs.Ytfmkndemkpecpaa
open Go.RowKit
set_option linter.unusedVariables false
set_option linter.unusedSimpArgs false
attribute [local go_sem ↓] sliced_cut

attribute [local go_sem] cutA_zero

theorem szR6 (cl lb : Nat) (ln : Int) (nx ht : Nat) (s6 : Bool) (sh sl : Nat) (d6 : Bool) (dh dl : Nat) : (Try.prog.info? 180).map (·.size) = some (h6C cl lb ln nx ht s6 sh sl d6 dh dl).length := by kernel_rfl
theorem rowR6 : ∃ d, Try.prog.underlying 180 = some d ∧ d.isRow = true := ⟨_, Try.underlying180, rfl⟩
set_option maxRecDepth 100000 in
theorem eq_h6 (w : World) (cl lb : Nat) (ln : Int) (nx ht : Nat) (s6 : Bool) (sh sl : Nat) (d6 : Bool) (dh dl : Nat) : (binOp .eql 171 (.agg (h6C cl lb ln nx ht s6 sh sl d6 dh dl).toArray) (.agg (h6C cl lb ln nx ht s6 sh sl d6 dh dl).toArray)).run Try.prog w = .ok (.bool true) w := by
  unfold h6C
  go_simp
attribute [local go_sem ↓] eq_h6

end Go.Proofs.Ytfmkndemkpecpaa

/- IPv6 packets of any bytes: ip6.Parse, the reference's Parse. -/
namespace Go.Proofs.Ytfmkndemkpecpaa
open Go.RowKit
set_option linter.unusedVariables false
set_option linter.unusedSimpArgs false
attribute [local go_sem ↓] sliced_cut

attribute [local go_sem] cutA_zero

set_option maxHeartbeats 4000000 in
set_option maxRecDepth 100000 in
theorem parse6_err (A : Option Addr) (n c : Nat) (E : Int) (w : World) (hE : (E != 0) = true) (HH : ∀ w', Below w.heap.size w w' → Calls Try.prog 124 #[.slice A n c] w' (RetV w' (.tuple #[.agg (h6C 0 0 0 0 0 false 0 0 false 0 0).toArray, .int .i64 E]))) : Calls Try.prog 69 #[.slice A n c] w (RetV w (.tuple #[.agg (h6C 0 0 0 0 0 false 0 0 false 0 0).toArray, .slice none 0 0, .int .i64 E])) := by
  obtain ⟨du, u1, u2⟩ := rowH6
  replace HH := Lib.hid HH
  have b2 : Bk (w.alloc (.cells #[.int .u8 0, .int .u32 0, .int .i64 0, .int .u8 0, .int .u8 0, .bool false, .int .u64 0, .int .u64 0, .bool false, .int .u64 0, .int .u64 0] 171)) w.heap.size 171 (h6C 0 0 0 0 0 false 0 0 false 0 0) := Bk.new w 171 #[.int .u8 0, .int .u32 0, .int .i64 0, .int .u8 0, .int .u8 0, .bool false, .int .u64 0, .int .u64 0, .bool false, .int .u64 0, .int .u64 0]
  have be : Below w.heap.size w (w.alloc (.cells #[.int .u8 0, .int .u32 0, .int .i64 0, .int .u8 0, .int .u8 0, .bool false, .int .u64 0, .int .u64 0, .bool false, .int .u64 0, .int .u64 0] 171)) := Below.allocS (Below.refl _ _) _
  go_enter Try.func69, Try.ntmps69
  go_wp2_with fail
  refine (HH.out _ be).mono ?_
  rintro e w1 ⟨bs1, d1, rfl, rfl⟩
  go_upto_region 2 with (refine at_op (.store 171 (.tmp 5) (.tmp 10)) rfl ?_; refine wpList_stA (t := 171) 171 (.tmp 5) (.tmp 10) rfl rfl (h6C 0 0 0 0 0 false 0 0 false 0 0) (h6C 0 0 0 0 0 false 0 0 false 0 0) rfl (h6C_one _ _ _ _ _ _ _ _ _ _ _) rfl rfl ?_ (szH6 _ _ _ _ _ _ _ _ _ _ _) ?_; (· refine Bk.newK _ _ _ ?_ rfl; simp [size_plus]); intro W b5 hgr)
  have zb := be.size
  replace b2 := ((b2.later (below_plus _ bs1 d1)).alloc _).grown hgr (by simp; omega)
  replace be := below_grown (Below.allocS (belowP be bs1 d1) _) hgr (by omega)
  clear hgr zb
  go_wp2_with (refine at_op (.store 171 (.tmp 2) (.tmp 14)) rfl ?_; refine wpList_stA (t := 171) 171 (.tmp 2) (.tmp 14) rfl rfl (h6C 0 0 0 0 0 false 0 0 false 0 0) (h6C 0 0 0 0 0 false 0 0 false 0 0) rfl (h6C_one _ _ _ _ _ _ _ _ _ _ _) rfl rfl b2 (szH6 _ _ _ _ _ _ _ _ _ _ _) ?_; intro W9 h9 g9)
  refine bodyPost_agg3 Try.results69 rfl rfl rfl h9.range u1 u2 (szH6 _ _ _ _ _ _ _ _ _ _ _) rfl (RetV.mk ?_)
  exact below_grown be g9 (by omega)
/-- a header, bytes, an error -/
def RetP6 (w : World) (cl lb ln nx ht : Nat) (s6 : Bool) (sh sl dh dl : Nat) (load : List UInt8) (E : Int) (e : Ending) (w' : World) : Prop := ∃ A n k bs d, e = .returned (.tuple #[.agg (h6C cl lb (ln : Int) nx ht s6 sh sl s6 dh dl).toArray, .slice A n k, .int .i64 E]) ∧ w' = plus w bs d ∧ Rb (plus w bs d) A n k load ∧ ∀ a, A = some a → w.heap.size ≤ a.block
theorem Ob.fresh6 {w : World} {w0 base : Nat} {A : Option Addr} {n c : Nat} {l : List UInt8} (h : Ob w base A n c l) (hb : w0 ≤ base) : ∀ a, A = some a → w0 ≤ a.block := fun a ha => by
  subst ha
  have := (h.blk a.block rfl).1
  omega
theorem RetP6.err {w : World} {E : Int} {e : Ending} {w' : World} (h : RetV w (.tuple #[.agg (h6C 0 0 0 0 0 false 0 0 false 0 0).toArray, .slice none 0 0, .int .i64 E]) e w') : RetP6 w 0 0 0 0 0 false 0 0 0 0 [] E e w' := by
  obtain ⟨bs, d, rfl, rfl⟩ := h
  exact ⟨none, 0, 0, bs, d, rfl, rfl, Rb.nil_, fun a ha => by cases ha⟩
theorem RetP6.mk {w w' : World} {cl lb ln nx ht : Nat} {s6 : Bool} {sh sl dh dl : Nat} {load : List UInt8} {E : Int} {A : Option Addr} {n k : Nat} (h : Rb w' A n k load) (hf : ∀ a, A = some a → w.heap.size ≤ a.block) (hb : Below w.heap.size w w') : RetP6 w cl lb ln nx ht s6 sh sl dh dl load E (.returned (.tuple #[.agg (h6C cl lb (ln : Int) nx ht s6 sh sl s6 dh dl).toArray, .slice A n k, .int .i64 E])) w' := by
  obtain ⟨bs, d, rfl⟩ := plus_of hb
  exact ⟨A, n, k, bs, d, rfl, rfl, h, hf⟩
set_option maxHeartbeats 4000000 in
set_option maxRecDepth 100000 in
theorem parse6_ok (cl lb ln nx ht sh sl dh dl : Nat) (A : Option Addr) (n c : Nat) (rest : List UInt8) (w : World) (h1 : cl < 256) (h2 : lb < 1048576) (h3 : ln < 65536) (h4 : nx < 256) (h5 : ht < 256) (k1 : sh < 18446744073709551616) (k2 : sl < 18446744073709551616) (k3 : dh < 18446744073709551616) (k4 : dl < 18446744073709551616) (h : Rb w A n c (ip6B cl lb ln nx ht sh sl dh dl ++ rest)) (hn : ln ≤ rest.length) (hm : n ≤ 1000000) :
    Calls Try.prog 69 #[.slice A n c] w (RetP6 w cl lb ln nx ht true sh sl dh dl (rest.take ln) 0) := by
  obtain ⟨dk, u1, u2⟩ := rowH6
  have hlen : n = 40 + rest.length := by rw [← h.1, List.length_append, ip6B_length]
  obtain ⟨b, off, rfl, hbl, hcell⟩ := h.2.2.at_ (by rw [bcs_length, h.1]; omega)
  have hc := h.2.1
  have HH := Lib.hid (fun w (h : Rb w (some ⟨b, off, none⟩) n c (ip6B cl lb ln nx ht sh sl dh dl ++ rest)) => ip6Header cl lb ln nx ht sh sl dh dl (some ⟨b, off, none⟩) n c rest w h1 h2 h3 h4 h5 k1 k2 k3 k4 h hn hm)
  have hr0 : Rb w (cutA (some ⟨b, off, none⟩) c 40 1) ln (c - 40) (rest.take ln) := by
    have h40 := (h.cut (k := 40) (by omega)).take (k := ln) (by omega)
    rwa [List.drop_left' (ip6B_length _ _ _ _ _ _ _ _ _)] at h40
  obtain ⟨z, hz⟩ : ∃ z : Nat, z = 40 + ln := ⟨_, rfl⟩
  have e1 : IntKind.i64.wrap (40 + (ln : Int)) = (z : Int) := by rw [IntWalk.i64_in _ (by omega)]; omega
  have j0 : (0 : Int) ≤ 40 := by omega
  have j1 : (40 : Int) ≤ (z : Int) := by omega
  have j2 : (z : Int) ≤ (c : Int) := by omega
  have j3 : z - 40 = ln := by omega
  clear hcell hz
  generalize rest.take ln = load at *
  have b2 : Bk (w.alloc (.cells #[.int .u8 0, .int .u32 0, .int .i64 0, .int .u8 0, .int .u8 0, .bool false, .int .u64 0, .int .u64 0, .bool false, .int .u64 0, .int .u64 0] 171)) w.heap.size 171 (h6C 0 0 0 0 0 false 0 0 false 0 0) := Bk.new w 171 #[.int .u8 0, .int .u32 0, .int .i64 0, .int .u8 0, .int .u8 0, .bool false, .int .u64 0, .int .u64 0, .bool false, .int .u64 0, .int .u64 0]
  have be : Below w.heap.size w (w.alloc (.cells #[.int .u8 0, .int .u32 0, .int .i64 0, .int .u8 0, .int .u8 0, .bool false, .int .u64 0, .int .u64 0, .bool false, .int .u64 0, .int .u64 0] 171)) := Below.allocS (Below.refl _ _) _
  replace hlen := Lib.hid hlen
  go_enter Try.func69, Try.ntmps69
  go_wp2_with fail
  refine (HH.out _ (h.alloc _)).mono ?_
  rintro e w1 ⟨bs1, d1, rfl, rfl⟩
  go_upto_region 2 with (refine at_op (.store 171 (.tmp 5) (.tmp 10)) rfl ?_; refine wpList_stA (t := 171) 171 (.tmp 5) (.tmp 10) rfl rfl (h6C cl lb (ln : Int) nx ht true sh sl true dh dl) (h6C 0 0 0 0 0 false 0 0 false 0 0) rfl (h6C_one _ _ _ _ _ _ _ _ _ _ _) rfl rfl ?_ (szH6 _ _ _ _ _ _ _ _ _ _ _) ?_; (· refine Bk.newK _ _ _ ?_ rfl; simp [size_plus]); intro W b5 hgr)
  have zb := be.size
  replace b2 := ((b2.later (below_plus _ bs1 d1)).alloc _).grown hgr (by simp; omega)
  replace be := below_grown (Below.allocS (belowP be bs1 d1) _) hgr (by omega)
  have hr := hr0.later be
  have hg5 : w.heap.size < w.heap.size + 1 + bs1.length := by omega
  generalize w.heap.size + 1 + bs1.length = g5 at *
  have hDb : ∀ b, (fun b => b = w.heap.size) b → b < W.heap.size := fun b hb => by subst hb; exact b2.lt
  have hrd : ∀ a, cutA (some ⟨b, off, none⟩) c 40 1 = some a → ¬ (fun b => b = w.heap.size) a.block := fun a ha hb => by
    have : a.block = b := by
      unfold cutA at ha
      split at ha
      · injection ha with ha; subst ha; rfl
      · simp [add_plain] at ha; subst ha; rfl
    have hb' : a.block = w.heap.size := hb
    omega
  clear hgr zb h
  go_wp2
  refine wp_su (fun b => b = w.heap.size) 10 23 2 [7] rfl (by kernel_rfl) (by kernel_rfl) (fun i => match i with | 0 => MC.eq (.agg (h6C cl lb (ln : Int) nx ht true sh sl true dh dl).toArray) | 1 => MC.eq (.slice (some ⟨b, off, none⟩) n c) | 2 => MC.eq (.pointer (some ⟨g5, 2, none⟩)) | 3 => MC.eq (.int .i64 (ln : Int)) | 4 => MC.eq (.int .i64 (z : Int)) | 5 => MC.eq (.slice (cutA (some ⟨b, off, none⟩) c 40 1) ln (c - 40)) | 6 => MC.ob W.heap.size hDb load | 7 => MC.any | 8 => MC.ob W.heap.size hDb load | 9 => MC.eq (.int .i64 0) | _ => MC.any) (fun k w' => Bk w' w.heap.size 171 (if k = 0 then h6C 0 0 0 0 0 false 0 0 false 0 0 else h6C cl lb (ln : Int) nx ht true sh sl true dh dl)) ?_ ?_ ?_ ?_ ?_
  · exact fun k w w' h h' => h.later h'.below
  · exact b2
  · intro i hi o ho hq FA w' hC hO hD K hK
    match i, hi, ho, hq, hO, hD, hK with
    | 0, _, ho, hq, hO, hD, hK => 
      obtain rfl := Option.some.inj ho.symm
      clear ho hq
      have ev5 : FA.eval (.tmp 5) = .pointer (some ⟨g5, 0, none⟩) := hO 5 (by kernel_rfl)
      have e5 : FA.tmps[5]?.getD undef = .pointer (some ⟨g5, 0, none⟩) := by simpa [Act.eval] using ev5
      replace ev5 := Lib.hid ev5
      clear hO hD
      refine wanted_if rfl ?_
      refine wp_load_mid 171 (.tmp 5) rfl g5 0 ev5.out (h6C cl lb (ln : Int) nx ht true sh sl true dh dl) _ (Bk.range (b5.chg hC (by omega))) u1 u2 (szH6 _ _ _ _ _ _ _ _ _ _ _) ?_
      exact hK.out _ _ (Ex.refl _) rfl
    | 1, _, ho, hq, hO, hD, hK => 
      obtain rfl := Option.some.inj ho.symm
      clear ho hq
      have ev0 : FA.eval (.tmp 0) = .slice (some ⟨b, off, none⟩) n c := hO 0 (by kernel_rfl)
      have e0 : FA.tmps[0]?.getD undef = .slice (some ⟨b, off, none⟩) n c := by simpa [Act.eval] using ev0
      replace ev0 := Lib.hid ev0
      clear hO hD
      go_simp
      exact hK.out _ _ (Ex.refl _) rfl
    | 2, _, ho, hq, hO, hD, hK => 
      obtain rfl := Option.some.inj ho.symm
      clear ho hq
      have ev5 : FA.eval (.tmp 5) = .pointer (some ⟨g5, 0, none⟩) := hO 5 (by kernel_rfl)
      have e5 : FA.tmps[5]?.getD undef = .pointer (some ⟨g5, 0, none⟩) := by simpa [Act.eval] using ev5
      replace ev5 := Lib.hid ev5
      clear hO hD
      go_simp
      exact hK.out _ _ (Ex.refl _) rfl
    | 3, _, ho, hq, hO, hD, hK => 
      obtain rfl := Option.some.inj ho.symm
      clear ho hq
      have ev18 : FA.eval (.tmp 18) = .pointer (some ⟨g5, 2, none⟩) := hD 2 18 (by kernel_rfl)
      have e18 : FA.tmps[18]?.getD undef = .pointer (some ⟨g5, 2, none⟩) := by simpa [Act.eval] using ev18
      replace ev18 := Lib.hid ev18
      clear hO hD
      have cc : w'.cell? ⟨g5, 2, none⟩ = some (.int .i64 (ln : Int)) := (b5.chg hC (by omega)).cell 2
      go_simp
      exact hK.out _ _ (Ex.refl _) rfl
    | 4, _, ho, hq, hO, hD, hK => 
      obtain rfl := Option.some.inj ho.symm
      clear ho hq
      have ev19 : FA.eval (.tmp 19) = .int .i64 (ln : Int) := hD 3 19 (by kernel_rfl)
      have e19 : FA.tmps[19]?.getD undef = .int .i64 (ln : Int) := by simpa [Act.eval] using ev19
      replace ev19 := Lib.hid ev19
      clear hO hD
      go_simp
      exact hK.out _ _ (Ex.refl _) rfl
    | 5, _, ho, hq, hO, hD, hK => 
      obtain rfl := Option.some.inj ho.symm
      clear ho hq
      have ev17 : FA.eval (.tmp 17) = .slice (some ⟨b, off, none⟩) n c := hD 1 17 (by kernel_rfl)
      have e17 : FA.tmps[17]?.getD undef = .slice (some ⟨b, off, none⟩) n c := by simpa [Act.eval] using ev17
      replace ev17 := Lib.hid ev17
      have ev20 : FA.eval (.tmp 20) = .int .i64 (z : Int) := hD 4 20 (by kernel_rfl)
      have e20 : FA.tmps[20]?.getD undef = .int .i64 (z : Int) := by simpa [Act.eval] using ev20
      replace ev20 := Lib.hid ev20
      clear hO hD
      go_simp
      exact hK.out _ _ (Ex.refl _) rfl
    | 6, _, ho, hq, hO, hD, hK => 
      obtain rfl := Option.some.inj ho.symm
      clear ho hq
      have ev21 : FA.eval (.tmp 21) = .slice (cutA (some ⟨b, off, none⟩) c 40 1) ln (c - 40) := hD 5 21 (by kernel_rfl)
      have e21 : FA.tmps[21]?.getD undef = .slice (cutA (some ⟨b, off, none⟩) c 40 1) ln (c - 40) := by simpa [Act.eval] using ev21
      replace ev21 := Lib.hid ev21
      clear hO hD
      go_simp
      refine (clone_any _ _ _ load _ (hr.chg hC hrd) (by omega)).mono ?_
      rintro e w1 ⟨A2, n2, c2, bs2, d2, rfl, rfl, ho2⟩
      exact hK.out _ _ (Ex.plus_ _ _ _) ⟨_, _, _, rfl, ho2.mono hC.size⟩
    | 7, _, _, hq, _, _, _ => exact absurd hq (by decide)
    | 8, _, ho, hq, hO, hD, hK => 
      obtain rfl := Option.some.inj ho.symm
      clear ho hq
      have f22 := hD 6 22 (by kernel_rfl)
      generalize eu22 : FA.eval (.tmp 22) = u22 at f22
      have e22 : FA.tmps[22]?.getD undef = u22 := by rw [← eu22]; simp [Act.eval]
      have ev22 := Lib.hid eu22
      clear eu22
      clear hO hD
      go_simp
      exact hK.out _ _ (Ex.refl _) f22
    | 9, _, ho, hq, hO, hD, hK => 
      obtain rfl := Option.some.inj ho.symm
      clear ho hq
      clear hO hD
      go_simp
      exact hK.out _ _ (Ex.refl _) rfl
    | (k + 10), hi, _, _, _, _, _ => exact absurd hi (by omega)
  · intro k i hk o ho FA w' hC hS hO hD K hK
    match k, hk, hS, hK with
    | 0, hk, hS, hK => 
      obtain rfl : 7 = i := Option.some.inj hk
      obtain rfl := Option.some.inj ho.symm
      clear ho hk
      have ev2 : FA.eval (.tmp 2) = .pointer (some ⟨w.heap.size, 0, none⟩) := hO 2 (by kernel_rfl)
      have e2 : FA.tmps[2]?.getD undef = .pointer (some ⟨w.heap.size, 0, none⟩) := by simpa [Act.eval] using ev2
      replace ev2 := Lib.hid ev2
      have ev16 : FA.eval (.tmp 16) = .agg (h6C cl lb (ln : Int) nx ht true sh sl true dh dl).toArray := hD 0 16 (by kernel_rfl)
      have e16 : FA.tmps[16]?.getD undef = .agg (h6C cl lb (ln : Int) nx ht true sh sl true dh dl).toArray := by simpa [Act.eval] using ev16
      replace ev16 := Lib.hid ev16
      clear hO hD
      refine wanted_if rfl ?_
      refine wp_stA 171 (.tmp 2) (.tmp 16) rfl (h6C cl lb (ln : Int) nx ht true sh sl true dh dl) (h6C 0 0 0 0 0 false 0 0 false 0 0) rfl (h6C_one _ _ _ _ _ _ _ _ _ _ _) ev2.out ev16.out hS (szH6 _ _ _ _ _ _ _ _ _ _ _) ?_
      intro w'' hn hg
      exact hK.out _ _ (Chg.one hg rfl) hn trivial
    | (k + 1), hk, _, _ => simp at hk
  intro vs w' hC hS hp
  have p0 : vs 0 = .agg (h6C cl lb (ln : Int) nx ht true sh sl true dh dl).toArray := hp 0 (by omega) rfl
  have p1 : vs 1 = .slice (some ⟨b, off, none⟩) n c := hp 1 (by omega) rfl
  have p2 : vs 2 = .pointer (some ⟨g5, 2, none⟩) := hp 2 (by omega) rfl
  have p3 : vs 3 = .int .i64 (ln : Int) := hp 3 (by omega) rfl
  have p4 : vs 4 = .int .i64 (z : Int) := hp 4 (by omega) rfl
  have p5 : vs 5 = .slice (cutA (some ⟨b, off, none⟩) c 40 1) ln (c - 40) := hp 5 (by omega) rfl
  have p6 := hp 6 (by omega) rfl
  have p8 := hp 8 (by omega) rfl
  have p9 : vs 9 = .int .i64 0 := hp 9 (by omega) rfl
  clear hp
  simp only [List.take_succ_cons, List.take_zero, List.drop_succ_cons, List.drop_zero, putAll, Nat.zero_add, Nat.reduceAdd, Act.put, List.setIfInBounds_toArray, List.set_cons_zero, List.set_cons_succ, p0, p1, p2, p3, p4, p5, p9]
  clear p0 p1 p2 p3 p4 p5 p9
  generalize vs 6 = y6 at *
  generalize vs 8 = y8 at *
  clear vs
  obtain ⟨A8, n8, c8, rfl, h8⟩ := p8
  go_wp2
  refine bodyPost_agg3 Try.results69 rfl rfl rfl (Bk.range hS) u1 u2 (szH6 _ _ _ _ _ _ _ _ _ _ _) rfl (RetP6.mk h8.rb (h8.fresh6 be.size) ?_)
  exact be.trans (hC.below (B := w.heap.size) (fun b hb => by have : b = w.heap.size := hb; omega) be.size)
theorem take_app {α : Type} (a b : Nat) (l : List α) : l.take a ++ (l.drop a).take b = l.take (a + b) := by
  rw [List.take_add]
set_option maxHeartbeats 4000000 in
set_option maxRecDepth 100000 in
theorem refOf16 (a b : Nat) (A : Option Addr) (c : Nat) (w : World) (ha : a < 18446744073709551616) (hb : b < 18446744073709551616) (h : Rb w A 16 c (dig a 8 ++ dig b 8)) : Calls Try.prog 55 #[.slice A 16 c] w (RetV w (.tuple #[.agg (adC true a b).toArray, .bool true])) := by
  obtain ⟨dk, u1, u2⟩ : ∃ d, Try.prog.underlying 26 = some d ∧ d.isRow = true := ⟨_, Try.underlying26, rfl⟩
  have hc := h.2.1
  have hc2 : (16 : Int) ≤ (c : Int) := by omega
  have hc8 : (8 : Int) ≤ (c : Int) := by omega
  have hA : Rb w A 8 c (dig a 8) := by
    have := h.take (k := 8) (by omega)
    rwa [List.take_left' (dig_length _ _)] at this
  have hB : Rb w (cutA A c 8 1) 8 (c - 8) (dig b 8) := by
    have := h.cut (k := 8) (by omega)
    rwa [List.drop_left' (dig_length _ _)] at this
  have HN := Lib.hid (fun w A c x (hx : x < 18446744073709551616) (h : Rb w A 8 c (dig x 8)) => (by have := refNum_any A 8 c (dig x 8) w h (by decide); rwa [numDig x 8 (by omega)] at this : Calls Try.prog 113 #[.slice A 8 c] w fun e w' => e = .returned (.int .u64 (x : Nat)) ∧ w = w'))
  have b2 : Bk (w.alloc (.cells #[.bool false, .int .u64 0, .int .u64 0] 26)) w.heap.size 26 (adC false 0 0) := Bk.new w 26 #[.bool false, .int .u64 0, .int .u64 0]
  have be : Below w.heap.size w (w.alloc (.cells #[.bool false, .int .u64 0, .int .u64 0] 26)) := Below.allocS (Below.refl _ _) _
  go_enter Try.func55, Try.ntmps55
  go_upto_region 5 with (fail)
  generalize w.alloc (.cells #[.bool false, .int .u64 0, .int .u64 0] 26) = V at *
  go_wp2
  refine wp_relS 7 21 rfl (by kernel_rfl) (by kernel_rfl) ?_
  apply Steps.one (MP.eq _) 1 rfl
  · intro o ho FA x hO hD K hK
    obtain rfl := Option.some.inj ho.symm
    clear ho
    have e0 := hO 0 (by kernel_rfl)
    simp only [eval_tmp, List.getElem?_toArray, List.getElem?_cons_succ, List.getElem?_cons_zero, Option.getD_some] at e0
    have ev0 := Lib.hid ((eval_tmp FA 0).trans e0)
    clear hO hD
    go_simp
    exact hK.out _ _ (Ex.refl _) rfl
  apply Steps.one (MP.eq _) 2 rfl
  · intro o ho FA x hO hD K hK
    obtain rfl := Option.some.inj ho.symm
    clear ho
    have ev14 : FA.eval (.tmp 14) = _ := hD 0 14 (by kernel_rfl)
    have e14 := (eval_tmp FA 14).symm.trans ev14
    replace ev14 := Lib.hid ev14
    clear hO hD
    go_simp
    exact hK.out _ _ (Ex.refl _) rfl
  apply Steps.one (MP.eq _) 3 rfl
  · intro o ho FA x hO hD K hK
    obtain rfl := Option.some.inj ho.symm
    clear ho
    have ev15 : FA.eval (.tmp 15) = _ := hD 1 15 (by kernel_rfl)
    have e15 := (eval_tmp FA 15).symm.trans ev15
    replace ev15 := Lib.hid ev15
    clear hO hD
    go_simp
    refine (HN.out _ _ _ a ha ((hA.later be).plus_ _ _)).mono ?_
    rintro e w1 ⟨rfl, rfl⟩
    exact hK.out _ _ (Ex.refl _) rfl
  apply Steps.one (MP.eq _) 4 rfl
  · intro o ho FA x hO hD K hK
    obtain rfl := Option.some.inj ho.symm
    clear ho
    have e0 := hO 0 (by kernel_rfl)
    simp only [eval_tmp, List.getElem?_toArray, List.getElem?_cons_succ, List.getElem?_cons_zero, Option.getD_some] at e0
    have ev0 := Lib.hid ((eval_tmp FA 0).trans e0)
    clear hO hD
    go_simp
    exact hK.out _ _ (Ex.refl _) rfl
  apply Steps.one (MP.eq _) 5 rfl
  · intro o ho FA x hO hD K hK
    obtain rfl := Option.some.inj ho.symm
    clear ho
    have ev17 : FA.eval (.tmp 17) = _ := hD 3 17 (by kernel_rfl)
    have e17 := (eval_tmp FA 17).symm.trans ev17
    replace ev17 := Lib.hid ev17
    clear hO hD
    go_simp
    exact hK.out _ _ (Ex.refl _) rfl
  apply Steps.one (MP.eq _) 6 rfl
  · intro o ho FA x hO hD K hK
    obtain rfl := Option.some.inj ho.symm
    clear ho
    have ev18 : FA.eval (.tmp 18) = _ := hD 4 18 (by kernel_rfl)
    have e18 := (eval_tmp FA 18).symm.trans ev18
    replace ev18 := Lib.hid ev18
    clear hO hD
    go_simp
    refine (HN.out _ _ _ b hb ((hB.later be).plus_ _ _)).mono ?_
    rintro e w1 ⟨rfl, rfl⟩
    exact hK.out _ _ (Ex.refl _) rfl
  apply Steps.one (MP.eq _) 7 rfl
  · intro o ho FA x hO hD K hK
    obtain rfl := Option.some.inj ho.symm
    clear ho
    have ev16 : FA.eval (.tmp 16) = _ := hD 2 16 (by kernel_rfl)
    have e16 := (eval_tmp FA 16).symm.trans ev16
    replace ev16 := Lib.hid ev16
    have ev19 : FA.eval (.tmp 19) = _ := hD 5 19 (by kernel_rfl)
    have e19 := (eval_tmp FA 19).symm.trans ev19
    replace ev19 := Lib.hid ev19
    clear hO hD
    go_simp
    exact hK.out _ _ (Ex.refl _) rfl
  refine Steps.fin_ (fun vs x hp => ?_)
  have p0 : vs 0 = _ := hp 0 (by omega)
  have p1 : vs 1 = _ := hp 1 (by omega)
  have p2 : vs 2 = _ := hp 2 (by omega)
  have p3 : vs 3 = _ := hp 3 (by omega)
  have p4 : vs 4 = _ := hp 4 (by omega)
  have p5 : vs 5 = _ := hp 5 (by omega)
  have p6 : vs 6 = _ := hp 6 (by omega)
  clear hp
  simp only [List.take_succ_cons, List.take_zero, List.drop_succ_cons, List.drop_zero, putAll, Nat.zero_add, Nat.reduceAdd, Act.put, List.setIfInBounds_toArray, List.set_cons_zero, List.set_cons_succ, p0, p1, p2, p3, p4, p5, p6]
  clear p0 p1 p2 p3 p4 p5 p6
  clear vs
  go_wp2_with (refine at_op (.store 26 (.tmp 2) (.tmp 20)) rfl ?_; refine wpList_stA (t := 26) 26 (.tmp 2) (.tmp 20) rfl rfl (adC true a b) (adC false 0 0) rfl (adC_one _ _ _) rfl rfl (b2.later (below_plus _ _ _)) (szAd _ _ _) ?_; intro W9 h9 g9)
  refine bodyPost_agg2 Try.results55 rfl rfl h9.range u1 u2 (szAd _ _ _) rfl (RetV.mk ?_)
  exact below_grown (belowP be _ _) g9 (by omega)
set_option maxHeartbeats 4000000 in
set_option maxRecDepth 100000 in
theorem refP6_short (A : Option Addr) (n c : Nat) (l : List UInt8) (w : World) (h : Rb w A n c l) (hm : n ≤ 1000000) (hn : n < 40) : Calls Try.prog 76 #[.slice A n c] w (RetV w (.tuple #[.agg (h6C 0 0 0 0 0 false 0 0 false 0 0).toArray, .slice none 0 0, .int .i64 20])) := by
  obtain ⟨dr, r1, r2⟩ := rowR6
  have d40 : decide ((n : Int) < 40) = true := by simp only [decide_eq_true_eq]; omega
  have b2 : Bk (w.alloc (.cells #[.int .u8 0, .int .u32 0, .int .i64 0, .int .u8 0, .int .u8 0, .bool false, .int .u64 0, .int .u64 0, .bool false, .int .u64 0, .int .u64 0] 180)) w.heap.size 180 (h6C 0 0 0 0 0 false 0 0 false 0 0) := Bk.new w 180 #[.int .u8 0, .int .u32 0, .int .i64 0, .int .u8 0, .int .u8 0, .bool false, .int .u64 0, .int .u64 0, .bool false, .int .u64 0, .int .u64 0]
  have be : Below w.heap.size w (w.alloc (.cells #[.int .u8 0, .int .u32 0, .int .i64 0, .int .u8 0, .int .u8 0, .bool false, .int .u64 0, .int .u64 0, .bool false, .int .u64 0, .int .u64 0] 180)) := Below.allocS (Below.refl _ _) _
  go_enter Try.func76, Try.ntmps76
  go_wp2_with (refine at_op (.store 180 (.tmp 2) (.tmp 9)) rfl ?_; refine wpList_stA (t := 180) 180 (.tmp 2) (.tmp 9) rfl rfl (h6C 0 0 0 0 0 false 0 0 false 0 0) (h6C 0 0 0 0 0 false 0 0 false 0 0) rfl (h6C_one _ _ _ _ _ _ _ _ _ _ _) rfl rfl b2 (szR6 _ _ _ _ _ _ _ _ _ _ _) ?_; intro W9 h9 g9)
  refine bodyPost_agg3 Try.results76 rfl rfl rfl h9.range r1 r2 (szR6 _ _ _ _ _ _ _ _ _ _ _) rfl (RetV.mk ?_)
  exact below_grown be g9 (by omega)
set_option maxHeartbeats 4000000 in
set_option maxRecDepth 100000 in
theorem refP6_form (A : Option Addr) (n c : Nat) (l : List UInt8) (w : World) (h : Rb w A n c l) (hm : n ≤ 1000000) (b0 : Nat) (x0 : num ((l.drop 0).take 1) = b0) (hn : 40 ≤ n) (hf : b0 / 16 ≠ 6) : Calls Try.prog 76 #[.slice A n c] w (RetV w (.tuple #[.agg (h6C 0 0 0 0 0 false 0 0 false 0 0).toArray, .slice none 0 0, .int .i64 21])) := by
  obtain ⟨dr, r1, r2⟩ := rowR6
  have hc := h.2.1
  have d40 : decide ((n : Int) < 40) = false := by simp only [decide_eq_false_iff_not]; omega
  have e2 : ((b0 : Int) / 16 != 6) = true := by rw [bne_iff_ne]; omega
  obtain ⟨b, off, rfl, hbl, hcell⟩ := h.2.2.at_ (by rw [bcs_length, h.1]; omega)
  have y0 := num_cell hcell 0 (by rw [h.1]; omega)
  rw [x0, Nat.add_zero] at y0
  have i0 : (0 : Int) < (n : Int) := by omega
  have hb0 : b0 < 256 := by rw [← x0]; exact num_lt' l 0 1 256 (by decide)
  clear hcell x0 h
  have b2 : Bk (w.alloc (.cells #[.int .u8 0, .int .u32 0, .int .i64 0, .int .u8 0, .int .u8 0, .bool false, .int .u64 0, .int .u64 0, .bool false, .int .u64 0, .int .u64 0] 180)) w.heap.size 180 (h6C 0 0 0 0 0 false 0 0 false 0 0) := Bk.new w 180 #[.int .u8 0, .int .u32 0, .int .i64 0, .int .u8 0, .int .u8 0, .bool false, .int .u64 0, .int .u64 0, .bool false, .int .u64 0, .int .u64 0]
  have be : Below w.heap.size w (w.alloc (.cells #[.int .u8 0, .int .u32 0, .int .i64 0, .int .u8 0, .int .u8 0, .bool false, .int .u64 0, .int .u64 0, .bool false, .int .u64 0, .int .u64 0] 180)) := Below.allocS (Below.refl _ _) _
  go_enter Try.func76, Try.ntmps76
  go_wp2_with (refine at_op (.store 180 (.tmp 2) (.tmp 15)) rfl ?_; refine wpList_stA (t := 180) 180 (.tmp 2) (.tmp 15) rfl rfl (h6C 0 0 0 0 0 false 0 0 false 0 0) (h6C 0 0 0 0 0 false 0 0 false 0 0) rfl (h6C_one _ _ _ _ _ _ _ _ _ _ _) rfl rfl b2 (szR6 _ _ _ _ _ _ _ _ _ _ _) ?_; intro W9 h9 g9)
  refine bodyPost_agg3 Try.results76 rfl rfl rfl h9.range r1 r2 (szR6 _ _ _ _ _ _ _ _ _ _ _) rfl (RetV.mk ?_)
  exact below_grown be g9 (by omega)
set_option maxHeartbeats 4000000 in
set_option maxRecDepth 100000 in
theorem refP6_long (A : Option Addr) (n c : Nat) (l : List UInt8) (w : World) (h : Rb w A n c l) (hm : n ≤ 1000000) (b0 b1 lo cl lb ln nx ht sh sl dh dl : Nat) (x0 : num ((l.drop 0).take 1) = b0) (x1 : num ((l.drop 1).take 1) = b1) (x2 : num ((l.drop 2).take 2) = lo) (x3 : num ((l.drop 4).take 2) = ln) (x4 : num ((l.drop 6).take 1) = nx) (x5 : num ((l.drop 7).take 1) = ht) (z0 : (l.drop 8).take 16 = dig sh 8 ++ dig sl 8) (z1 : (l.drop 24).take 16 = dig dh 8 ++ dig dl 8) (k1 : sh < 18446744073709551616) (k2 : sl < 18446744073709551616) (k3 : dh < 18446744073709551616) (k4 : dl < 18446744073709551616) (g0 : b0 / 16 = 6) (g1 : b0 % 16 * 16 + b1 / 16 = cl) (g2 : b1 % 16 * 65536 + lo = lb) (hn : 40 ≤ n) (hq : n - 40 < ln) : Calls Try.prog 76 #[.slice A n c] w (RetV w (.tuple #[.agg (h6C 0 0 0 0 0 false 0 0 false 0 0).toArray, .slice none 0 0, .int .i64 20])) := by
  obtain ⟨dr, r1, r2⟩ := rowR6
  have hc := h.2.1
  have d40 : decide ((n : Int) < 40) = false := by simp only [decide_eq_false_iff_not]; omega
  have hdl : decide ((n : Int) - 40 < (ln : Int)) = true := by simp only [decide_eq_true_eq]; omega
  have e0 : (b0 : Int) / 16 = 6 := by omega
  have e0n : ((b0 : Int) / 16 != 6) = false := by rw [e0]; rfl
  have hb0 : b0 < 256 := by rw [← x0]; exact num_lt' l 0 1 256 (by decide)
  have hb1 : b1 < 256 := by rw [← x1]; exact num_lt' l 1 1 256 (by decide)
  have hlo : lo < 65536 := by rw [← x2]; exact num_lt' l 2 2 65536 (by decide)
  have hln : ln < 65536 := by rw [← x3]; exact num_lt' l 4 2 65536 (by decide)
  obtain ⟨m0, hm0⟩ : ∃ m : Nat, m = b0 % 16 := ⟨_, rfl⟩
  obtain ⟨m1, hm1⟩ : ∃ m : Nat, m = b1 % 16 := ⟨_, rfl⟩
  obtain ⟨m2, hm2⟩ : ∃ m : Nat, m = b1 / 16 := ⟨_, rfl⟩
  have v0 : (b0 : Int) % 16 = (m0 : Int) := by omega
  have v1 : (b1 : Int) % 16 = (m1 : Int) := by omega
  have v0t : (b0 : Int).tmod 16 = (m0 : Int) := by rw [Int.tmod_eq_emod_of_nonneg (by omega)]; omega
  have v1t : (b1 : Int).tmod 16 = (m1 : Int) := by rw [Int.tmod_eq_emod_of_nonneg (by omega)]; omega
  have v2 : (b1 : Int) / 16 = (m2 : Int) := by omega
  have v3 : ((m0 : Int) * 16 + (m2 : Int)) % 256 = (cl : Int) := by omega
  have v3w : IntKind.u8.wrap ((m0 : Int) * 16 + (m2 : Int)) = (cl : Int) := by rw [IntWalk.u8_in _ (by omega)]; omega
  have v3a : IntKind.u8.wrap ((m0 : Int) * 16) = (m0 : Int) * 16 := IntWalk.u8_in _ (by omega)
  have v2w : IntKind.u8.wrap (m2 : Int) = (m2 : Int) := IntWalk.u8_in _ (by omega)
  have v4 : IntKind.u32.wrap (m1 : Int) = (m1 : Int) := IntWalk.u32_in _ (by omega)
  have v5 : IntKind.u32.wrap ((m1 : Int) * 65536) = (m1 : Int) * 65536 := IntWalk.u32_in _ (by omega)
  have v6 : IntKind.u32.wrap (lo : Int) = (lo : Int) := IntWalk.u32_in _ (by omega)
  have v7 : IntKind.u32.wrap ((m1 : Int) * 65536 + (lo : Int)) = (lb : Int) := by rw [IntWalk.u32_in _ (by omega)]; omega
  have v8 : IntKind.i64.wrap (ln : Int) = (ln : Int) := IntWalk.i64_in _ (by omega)
  have hcl : cl < 256 := by omega
  obtain ⟨b, off, rfl, hbl, hcell⟩ := h.2.2.at_ (by rw [bcs_length, h.1]; omega)
  have y0 := num_cell hcell 0 (by rw [h.1]; omega)
  rw [x0] at y0
  have y1 := num_cell hcell 1 (by rw [h.1]; omega)
  rw [x1] at y1
  have y4 := num_cell hcell 6 (by rw [h.1]; omega)
  rw [x4] at y4
  have y5 := num_cell hcell 7 (by rw [h.1]; omega)
  rw [x5] at y5
  rw [Nat.add_zero] at y0
  have n0 : 0 < n := by omega
  have n1 : 1 < n := by omega
  have n6 : 6 < n := by omega
  have n7 : 7 < n := by omega
  have i0 : (0 : Int) < (n : Int) := by omega
  have i1 : (1 : Int) < (n : Int) := by omega
  have i6 : (6 : Int) < (n : Int) := by omega
  have i7 : (7 : Int) < (n : Int) := by omega
  clear hcell
  clear x0 x1 x4 x5 g0 g1 g2 hm0 hm1 hm2
  replace x2 := Lib.hid x2
  replace x3 := Lib.hid x3
  replace z0 := Lib.hid z0
  replace z1 := Lib.hid z1
  have b2 : Bk (w.alloc (.cells #[.int .u8 0, .int .u32 0, .int .i64 0, .int .u8 0, .int .u8 0, .bool false, .int .u64 0, .int .u64 0, .bool false, .int .u64 0, .int .u64 0] 180)) w.heap.size 180 (h6C 0 0 0 0 0 false 0 0 false 0 0) := Bk.new w 180 #[.int .u8 0, .int .u32 0, .int .i64 0, .int .u8 0, .int .u8 0, .bool false, .int .u64 0, .int .u64 0, .bool false, .int .u64 0, .int .u64 0]
  have be : Below w.heap.size w (w.alloc (.cells #[.int .u8 0, .int .u32 0, .int .i64 0, .int .u8 0, .int .u8 0, .bool false, .int .u64 0, .int .u64 0, .bool false, .int .u64 0, .int .u64 0] 180)) := Below.allocS (Below.refl _ _) _
  go_enter Try.func76, Try.ntmps76
  go_upto_region 5 with (fail)
  have y0' : (w.alloc (.cells #[.int .u8 0, .int .u32 0, .int .i64 0, .int .u8 0, .int .u8 0, .bool false, .int .u64 0, .int .u64 0, .bool false, .int .u64 0, .int .u64 0] 180)).cell? ⟨b, off, none⟩ = _ := (be.cell (p := ⟨b, off, none⟩) hbl).trans y0
  have y1' : (w.alloc (.cells #[.int .u8 0, .int .u32 0, .int .i64 0, .int .u8 0, .int .u8 0, .bool false, .int .u64 0, .int .u64 0, .bool false, .int .u64 0, .int .u64 0] 180)).cell? ⟨b, off + 1, none⟩ = _ := (be.cell (p := ⟨b, off + 1, none⟩) hbl).trans y1
  have y4' : (w.alloc (.cells #[.int .u8 0, .int .u32 0, .int .i64 0, .int .u8 0, .int .u8 0, .bool false, .int .u64 0, .int .u64 0, .bool false, .int .u64 0, .int .u64 0] 180)).cell? ⟨b, off + 6, none⟩ = _ := (be.cell (p := ⟨b, off + 6, none⟩) hbl).trans y4
  have y5' : (w.alloc (.cells #[.int .u8 0, .int .u32 0, .int .i64 0, .int .u8 0, .int .u8 0, .bool false, .int .u64 0, .int .u64 0, .bool false, .int .u64 0, .int .u64 0] 180)).cell? ⟨b, off + 7, none⟩ = _ := (be.cell (p := ⟨b, off + 7, none⟩) hbl).trans y5
  generalize w.alloc (.cells #[.int .u8 0, .int .u32 0, .int .i64 0, .int .u8 0, .int .u8 0, .bool false, .int .u64 0, .int .u64 0, .bool false, .int .u64 0, .int .u64 0] 180) = V at *
  have zV := be.size
  have zb : b < V.heap.size := by omega
  go_wp2
  refine wp_relS 31 75 rfl (by kernel_rfl) (by kernel_rfl) ?_
  apply Steps.one (MP.eq _) 1 rfl
  · intro o ho FA x hO hD K hK
    obtain rfl := Option.some.inj ho.symm
    clear ho
    have e0 := hO 0 (by kernel_rfl)
    simp only [eval_tmp, List.getElem?_toArray, List.getElem?_cons_succ, List.getElem?_cons_zero, Option.getD_some] at e0
    have ev0 := Lib.hid ((eval_tmp FA 0).trans e0)
    clear hO hD
    go_simp
    exact hK.out _ _ (Ex.refl _) rfl
  apply Steps.one (MP.eq _) 2 rfl
  · intro o ho FA x hO hD K hK
    obtain rfl := Option.some.inj ho.symm
    clear ho
    have ev16 : FA.eval (.tmp 16) = _ := hD 0 16 (by kernel_rfl)
    have e16 := (eval_tmp FA 16).symm.trans ev16
    replace ev16 := Lib.hid ev16
    clear hO hD
    go_simp
    exact hK.out _ _ (Ex.refl _) rfl
  apply Steps.one (MP.eq _) 3 rfl
  · intro o ho FA x hO hD K hK
    obtain rfl := Option.some.inj ho.symm
    clear ho
    have ev17 : FA.eval (.tmp 17) = _ := hD 1 17 (by kernel_rfl)
    have e17 := (eval_tmp FA 17).symm.trans ev17
    replace ev17 := Lib.hid ev17
    clear hO hD
    go_simp
    exact hK.out _ _ (Ex.refl _) rfl
  apply Steps.one (MP.eq _) 4 rfl
  · intro o ho FA x hO hD K hK
    obtain rfl := Option.some.inj ho.symm
    clear ho
    have ev18 : FA.eval (.tmp 18) = _ := hD 2 18 (by kernel_rfl)
    have e18 := (eval_tmp FA 18).symm.trans ev18
    replace ev18 := Lib.hid ev18
    clear hO hD
    go_simp
    exact hK.out _ _ (Ex.refl _) rfl
  apply Steps.one (MP.eq _) 5 rfl
  · intro o ho FA x hO hD K hK
    obtain rfl := Option.some.inj ho.symm
    clear ho
    have ev19 : FA.eval (.tmp 19) = _ := hD 3 19 (by kernel_rfl)
    have e19 := (eval_tmp FA 19).symm.trans ev19
    replace ev19 := Lib.hid ev19
    clear hO hD
    go_simp
    exact hK.out _ _ (Ex.refl _) rfl
  apply Steps.one (MP.eq _) 6 rfl
  · intro o ho FA x hO hD K hK
    obtain rfl := Option.some.inj ho.symm
    clear ho
    have e0 := hO 0 (by kernel_rfl)
    simp only [eval_tmp, List.getElem?_toArray, List.getElem?_cons_succ, List.getElem?_cons_zero, Option.getD_some] at e0
    have ev0 := Lib.hid ((eval_tmp FA 0).trans e0)
    clear hO hD
    go_simp
    exact hK.out _ _ (Ex.refl _) rfl
  apply Steps.one (MP.eq _) 7 rfl
  · intro o ho FA x hO hD K hK
    obtain rfl := Option.some.inj ho.symm
    clear ho
    have ev21 : FA.eval (.tmp 21) = _ := hD 5 21 (by kernel_rfl)
    have e21 := (eval_tmp FA 21).symm.trans ev21
    replace ev21 := Lib.hid ev21
    clear hO hD
    go_simp
    exact hK.out _ _ (Ex.refl _) rfl
  apply Steps.one (MP.eq _) 8 rfl
  · intro o ho FA x hO hD K hK
    obtain rfl := Option.some.inj ho.symm
    clear ho
    have ev22 : FA.eval (.tmp 22) = _ := hD 6 22 (by kernel_rfl)
    have e22 := (eval_tmp FA 22).symm.trans ev22
    replace ev22 := Lib.hid ev22
    clear hO hD
    go_simp
    exact hK.out _ _ (Ex.refl _) rfl
  apply Steps.one (MP.eq _) 9 rfl
  · intro o ho FA x hO hD K hK
    obtain rfl := Option.some.inj ho.symm
    clear ho
    have ev23 : FA.eval (.tmp 23) = _ := hD 7 23 (by kernel_rfl)
    have e23 := (eval_tmp FA 23).symm.trans ev23
    replace ev23 := Lib.hid ev23
    clear hO hD
    go_simp
    exact hK.out _ _ (Ex.refl _) rfl
  apply Steps.one (MP.eq _) 10 rfl
  · intro o ho FA x hO hD K hK
    obtain rfl := Option.some.inj ho.symm
    clear ho
    have ev20 : FA.eval (.tmp 20) = _ := hD 4 20 (by kernel_rfl)
    have e20 := (eval_tmp FA 20).symm.trans ev20
    replace ev20 := Lib.hid ev20
    have ev24 : FA.eval (.tmp 24) = _ := hD 8 24 (by kernel_rfl)
    have e24 := (eval_tmp FA 24).symm.trans ev24
    replace ev24 := Lib.hid ev24
    clear hO hD
    go_simp
    exact hK.out _ _ (Ex.refl _) rfl
  apply Steps.one (MP.eq _) 11 rfl
  · intro o ho FA x hO hD K hK
    obtain rfl := Option.some.inj ho.symm
    clear ho
    have e0 := hO 0 (by kernel_rfl)
    simp only [eval_tmp, List.getElem?_toArray, List.getElem?_cons_succ, List.getElem?_cons_zero, Option.getD_some] at e0
    have ev0 := Lib.hid ((eval_tmp FA 0).trans e0)
    clear hO hD
    go_simp
    exact hK.out _ _ (Ex.refl _) rfl
  apply Steps.one (MP.eq _) 12 rfl
  · intro o ho FA x hO hD K hK
    obtain rfl := Option.some.inj ho.symm
    clear ho
    have ev26 : FA.eval (.tmp 26) = _ := hD 10 26 (by kernel_rfl)
    have e26 := (eval_tmp FA 26).symm.trans ev26
    replace ev26 := Lib.hid ev26
    clear hO hD
    go_simp
    exact hK.out _ _ (Ex.refl _) rfl
  apply Steps.one (MP.eq _) 13 rfl
  · intro o ho FA x hO hD K hK
    obtain rfl := Option.some.inj ho.symm
    clear ho
    have ev27 : FA.eval (.tmp 27) = _ := hD 11 27 (by kernel_rfl)
    have e27 := (eval_tmp FA 27).symm.trans ev27
    replace ev27 := Lib.hid ev27
    clear hO hD
    go_simp
    exact hK.out _ _ (Ex.refl _) rfl
  apply Steps.one (MP.eq _) 14 rfl
  · intro o ho FA x hO hD K hK
    obtain rfl := Option.some.inj ho.symm
    clear ho
    have ev28 : FA.eval (.tmp 28) = _ := hD 12 28 (by kernel_rfl)
    have e28 := (eval_tmp FA 28).symm.trans ev28
    replace ev28 := Lib.hid ev28
    clear hO hD
    go_simp
    exact hK.out _ _ (Ex.refl _) rfl
  apply Steps.one (MP.eq _) 15 rfl
  · intro o ho FA x hO hD K hK
    obtain rfl := Option.some.inj ho.symm
    clear ho
    have ev29 : FA.eval (.tmp 29) = _ := hD 13 29 (by kernel_rfl)
    have e29 := (eval_tmp FA 29).symm.trans ev29
    replace ev29 := Lib.hid ev29
    clear hO hD
    go_simp
    exact hK.out _ _ (Ex.refl _) rfl
  apply Steps.one (MP.eq _) 16 rfl
  · intro o ho FA x hO hD K hK
    obtain rfl := Option.some.inj ho.symm
    clear ho
    have ev30 : FA.eval (.tmp 30) = _ := hD 14 30 (by kernel_rfl)
    have e30 := (eval_tmp FA 30).symm.trans ev30
    replace ev30 := Lib.hid ev30
    clear hO hD
    go_simp
    exact hK.out _ _ (Ex.refl _) rfl
  apply Steps.one (MP.eq _) 17 rfl
  · intro o ho FA x hO hD K hK
    obtain rfl := Option.some.inj ho.symm
    clear ho
    have e0 := hO 0 (by kernel_rfl)
    simp only [eval_tmp, List.getElem?_toArray, List.getElem?_cons_succ, List.getElem?_cons_zero, Option.getD_some] at e0
    have ev0 := Lib.hid ((eval_tmp FA 0).trans e0)
    clear hO hD
    go_simp
    exact hK.out _ _ (Ex.refl _) rfl
  apply Steps.one (MP.eq _) 18 rfl
  · intro o ho FA x hO hD K hK
    obtain rfl := Option.some.inj ho.symm
    clear ho
    have ev32 : FA.eval (.tmp 32) = _ := hD 16 32 (by kernel_rfl)
    have e32 := (eval_tmp FA 32).symm.trans ev32
    replace ev32 := Lib.hid ev32
    clear hO hD
    go_simp
    refine (refGetV _ n c l _ _ 2 2 lo _ ((h.later be).plus_ _ _) rfl rfl x2.out (by omega) (by omega) (by omega)).mono ?_
    rintro e w1 ⟨rfl, rfl⟩
    exact hK.out _ _ (Ex.refl _) rfl
  apply Steps.one (MP.eq _) 19 rfl
  · intro o ho FA x hO hD K hK
    obtain rfl := Option.some.inj ho.symm
    clear ho
    have ev33 : FA.eval (.tmp 33) = _ := hD 17 33 (by kernel_rfl)
    have e33 := (eval_tmp FA 33).symm.trans ev33
    replace ev33 := Lib.hid ev33
    clear hO hD
    go_simp
    exact hK.out _ _ (Ex.refl _) rfl
  apply Steps.one (MP.eq _) 20 rfl
  · intro o ho FA x hO hD K hK
    obtain rfl := Option.some.inj ho.symm
    clear ho
    have ev31 : FA.eval (.tmp 31) = _ := hD 15 31 (by kernel_rfl)
    have e31 := (eval_tmp FA 31).symm.trans ev31
    replace ev31 := Lib.hid ev31
    have ev34 : FA.eval (.tmp 34) = _ := hD 18 34 (by kernel_rfl)
    have e34 := (eval_tmp FA 34).symm.trans ev34
    replace ev34 := Lib.hid ev34
    clear hO hD
    go_simp
    exact hK.out _ _ (Ex.refl _) rfl
  apply Steps.one (MP.eq _) 21 rfl
  · intro o ho FA x hO hD K hK
    obtain rfl := Option.some.inj ho.symm
    clear ho
    have e0 := hO 0 (by kernel_rfl)
    simp only [eval_tmp, List.getElem?_toArray, List.getElem?_cons_succ, List.getElem?_cons_zero, Option.getD_some] at e0
    have ev0 := Lib.hid ((eval_tmp FA 0).trans e0)
    clear hO hD
    go_simp
    exact hK.out _ _ (Ex.refl _) rfl
  apply Steps.one (MP.eq _) 22 rfl
  · intro o ho FA x hO hD K hK
    obtain rfl := Option.some.inj ho.symm
    clear ho
    have ev36 : FA.eval (.tmp 36) = _ := hD 20 36 (by kernel_rfl)
    have e36 := (eval_tmp FA 36).symm.trans ev36
    replace ev36 := Lib.hid ev36
    clear hO hD
    go_simp
    refine (refGetV _ n c l _ _ 4 2 ln _ ((h.later be).plus_ _ _) rfl rfl x3.out (by omega) (by omega) (by omega)).mono ?_
    rintro e w1 ⟨rfl, rfl⟩
    exact hK.out _ _ (Ex.refl _) rfl
  apply Steps.one (MP.eq _) 23 rfl
  · intro o ho FA x hO hD K hK
    obtain rfl := Option.some.inj ho.symm
    clear ho
    have ev37 : FA.eval (.tmp 37) = _ := hD 21 37 (by kernel_rfl)
    have e37 := (eval_tmp FA 37).symm.trans ev37
    replace ev37 := Lib.hid ev37
    clear hO hD
    go_simp
    exact hK.out _ _ (Ex.refl _) rfl
  apply Steps.one (MP.eq _) 24 rfl
  · intro o ho FA x hO hD K hK
    obtain rfl := Option.some.inj ho.symm
    clear ho
    have e0 := hO 0 (by kernel_rfl)
    simp only [eval_tmp, List.getElem?_toArray, List.getElem?_cons_succ, List.getElem?_cons_zero, Option.getD_some] at e0
    have ev0 := Lib.hid ((eval_tmp FA 0).trans e0)
    clear hO hD
    go_simp
    exact hK.out _ _ (Ex.refl _) rfl
  apply Steps.one (MP.eq _) 25 rfl
  · intro o ho FA x hO hD K hK
    obtain rfl := Option.some.inj ho.symm
    clear ho
    have ev39 : FA.eval (.tmp 39) = _ := hD 23 39 (by kernel_rfl)
    have e39 := (eval_tmp FA 39).symm.trans ev39
    replace ev39 := Lib.hid ev39
    clear hO hD
    go_simp
    exact hK.out _ _ (Ex.refl _) rfl
  apply Steps.one (MP.eq _) 26 rfl
  · intro o ho FA x hO hD K hK
    obtain rfl := Option.some.inj ho.symm
    clear ho
    have ev40 : FA.eval (.tmp 40) = _ := hD 24 40 (by kernel_rfl)
    have e40 := (eval_tmp FA 40).symm.trans ev40
    replace ev40 := Lib.hid ev40
    clear hO hD
    go_simp
    exact hK.out _ _ (Ex.refl _) rfl
  apply Steps.one (MP.eq _) 27 rfl
  · intro o ho FA x hO hD K hK
    obtain rfl := Option.some.inj ho.symm
    clear ho
    have e0 := hO 0 (by kernel_rfl)
    simp only [eval_tmp, List.getElem?_toArray, List.getElem?_cons_succ, List.getElem?_cons_zero, Option.getD_some] at e0
    have ev0 := Lib.hid ((eval_tmp FA 0).trans e0)
    clear hO hD
    go_simp
    exact hK.out _ _ (Ex.refl _) rfl
  apply Steps.one (MP.eq _) 28 rfl
  · intro o ho FA x hO hD K hK
    obtain rfl := Option.some.inj ho.symm
    clear ho
    have ev42 : FA.eval (.tmp 42) = _ := hD 26 42 (by kernel_rfl)
    have e42 := (eval_tmp FA 42).symm.trans ev42
    replace ev42 := Lib.hid ev42
    clear hO hD
    go_simp
    exact hK.out _ _ (Ex.refl _) rfl
  apply Steps.one (MP.eq _) 29 rfl
  · intro o ho FA x hO hD K hK
    obtain rfl := Option.some.inj ho.symm
    clear ho
    have ev43 : FA.eval (.tmp 43) = _ := hD 27 43 (by kernel_rfl)
    have e43 := (eval_tmp FA 43).symm.trans ev43
    replace ev43 := Lib.hid ev43
    clear hO hD
    go_simp
    exact hK.out _ _ (Ex.refl _) rfl
  apply Steps.one (MP.eq _) 30 rfl
  · intro o ho FA x hO hD K hK
    obtain rfl := Option.some.inj ho.symm
    clear ho
    have ev25 : FA.eval (.tmp 25) = _ := hD 9 25 (by kernel_rfl)
    have e25 := (eval_tmp FA 25).symm.trans ev25
    replace ev25 := Lib.hid ev25
    have ev35 : FA.eval (.tmp 35) = _ := hD 19 35 (by kernel_rfl)
    have e35 := (eval_tmp FA 35).symm.trans ev35
    replace ev35 := Lib.hid ev35
    have ev38 : FA.eval (.tmp 38) = _ := hD 22 38 (by kernel_rfl)
    have e38 := (eval_tmp FA 38).symm.trans ev38
    replace ev38 := Lib.hid ev38
    have ev41 : FA.eval (.tmp 41) = _ := hD 25 41 (by kernel_rfl)
    have e41 := (eval_tmp FA 41).symm.trans ev41
    replace ev41 := Lib.hid ev41
    have ev44 : FA.eval (.tmp 44) = _ := hD 28 44 (by kernel_rfl)
    have e44 := (eval_tmp FA 44).symm.trans ev44
    replace ev44 := Lib.hid ev44
    clear hO hD
    go_simp
    exact hK.out _ _ (Ex.refl _) rfl
  apply Steps.one (MP.blk V.heap.size 180 (h6C 0 0 0 0 0 false 0 0 false 0 0)) 31 rfl
  · intro o ho FA x hO hD K hK
    obtain rfl := Option.some.inj ho.symm
    clear ho
    clear hO hD
    go_simp
    refine hK.out _ _ (Ex.alloc _ _) ⟨_, rfl, ?_, ?_⟩
    · simp [size_plus]
    · refine Bk.newK _ _ _ ?_ rfl
      simp [size_plus]
  refine Steps.fin_ (fun vs x hp => ?_)
  have p0 : vs 0 = _ := hp 0 (by omega)
  have p1 : vs 1 = _ := hp 1 (by omega)
  have p2 : vs 2 = _ := hp 2 (by omega)
  have p3 : vs 3 = _ := hp 3 (by omega)
  have p4 : vs 4 = _ := hp 4 (by omega)
  have p5 : vs 5 = _ := hp 5 (by omega)
  have p6 : vs 6 = _ := hp 6 (by omega)
  have p7 : vs 7 = _ := hp 7 (by omega)
  have p8 : vs 8 = _ := hp 8 (by omega)
  have p9 : vs 9 = _ := hp 9 (by omega)
  have p10 : vs 10 = _ := hp 10 (by omega)
  have p11 : vs 11 = _ := hp 11 (by omega)
  have p12 : vs 12 = _ := hp 12 (by omega)
  have p13 : vs 13 = _ := hp 13 (by omega)
  have p14 : vs 14 = _ := hp 14 (by omega)
  have p15 : vs 15 = _ := hp 15 (by omega)
  have p16 : vs 16 = _ := hp 16 (by omega)
  have p17 : vs 17 = _ := hp 17 (by omega)
  have p18 : vs 18 = _ := hp 18 (by omega)
  have p19 : vs 19 = _ := hp 19 (by omega)
  have p20 : vs 20 = _ := hp 20 (by omega)
  have p21 : vs 21 = _ := hp 21 (by omega)
  have p22 : vs 22 = _ := hp 22 (by omega)
  have p23 : vs 23 = _ := hp 23 (by omega)
  have p24 : vs 24 = _ := hp 24 (by omega)
  have p25 : vs 25 = _ := hp 25 (by omega)
  have p26 : vs 26 = _ := hp 26 (by omega)
  have p27 : vs 27 = _ := hp 27 (by omega)
  have p28 : vs 28 = _ := hp 28 (by omega)
  have p29 : vs 29 = _ := hp 29 (by omega)
  have p30 := hp 30 (by omega)
  clear hp
  simp only [List.take_succ_cons, List.take_zero, List.drop_succ_cons, List.drop_zero, putAll, Nat.zero_add, Nat.reduceAdd, Act.put, List.setIfInBounds_toArray, List.set_cons_zero, List.set_cons_succ, p0, p1, p2, p3, p4, p5, p6, p7, p8, p9, p10, p11, p12, p13, p14, p15, p16, p17, p18, p19, p20, p21, p22, p23, p24, p25, p26, p27, p28, p29]
  clear p0 p1 p2 p3 p4 p5 p6 p7 p8 p9 p10 p11 p12 p13 p14 p15 p16 p17 p18 p19 p20 p21 p22 p23 p24 p25 p26 p27 p28 p29
  generalize vs 30 = y30 at *
  clear vs
  obtain ⟨g, rfl, hgw, hb⟩ := p30
  have hgz : w.heap.size < g := by have := b2.lt; omega
  go_upto_region 6 with (refine at_op (.store 180 (.tmp 5) (.tmp 45)) rfl ?_; refine wpList_stA (t := 180) 180 (.tmp 5) (.tmp 45) rfl rfl (h6C cl lb (ln : Int) nx ht false 0 0 false 0 0) (h6C 0 0 0 0 0 false 0 0 false 0 0) rfl (h6C_one _ _ _ _ _ _ _ _ _ _ _) rfl rfl hb (szR6 _ _ _ _ _ _ _ _ _ _ _) ?_; intro V1 hX hg3)
  replace b2 := (b2.later (below_plus _ x.bs x.d)).grown hg3 (by have := b2.lt; simp; omega)
  replace be := below_grown (belowP be x.bs x.d) hg3 (by omega)
  clear hg3 hb y0' y1' y4' y5' zb zV
  have hs8 : Rb V1 (cutA (some ⟨b, off, none⟩) c 8 1) 16 (c - 8) (dig sh 8 ++ dig sl 8) := by
    have := ((h.later be).cut (k := 8) (by omega)).take (k := 16) (by omega)
    rwa [z0.out] at this
  have j2 : (24 : Int) ≤ (c : Int) := by omega
  have zx := hX.lt
  go_upto_region 7 with (first
    | (go_at_call 55; (with_reducible refine (refOf16 sh sl _ _ _ k1 k2 hs8).mono ?_); rintro e w1 ⟨bs5, d5, rfl, rfl⟩)
    | (replace hX := hX.later (below_plus _ bs5 d5); (refine at_op (.store 26 (.tmp 52) (.tmp 50)) rfl ?_; refine wpList_stM (t := 180) 26 (.tmp 52) (.tmp 50) rfl rfl (adC true sh sl) _ (by simp [adC, h6C]) (adC_one _ _ _) rfl rfl hX (szAd _ _ _) ?_; intro V2 hX2 hg)))
  simp only [splice, adC, h6C, List.take_succ_cons, List.take_zero, List.drop_succ_cons, List.drop_zero, List.length_cons, List.length_nil, Nat.zero_add, Nat.reduceAdd, List.cons_append, List.nil_append] at hX2
  replace b2 := (b2.later (below_plus _ bs5 d5)).grown hg (by have := b2.lt; simp; omega)
  replace be := below_grown (belowP be bs5 d5) hg (by omega)
  clear hX hg zx hs8 j2
  have hX := hX2
  clear hX2
  have hs8 : Rb V2 (cutA (some ⟨b, off, none⟩) c 24 1) 16 (c - 24) (dig dh 8 ++ dig dl 8) := by
    have := ((h.later be).cut (k := 24) (by omega)).take (k := 16) (by omega)
    rwa [z1.out] at this
  have j2 : (40 : Int) ≤ (c : Int) := by omega
  have zx := hX.lt
  go_upto_region 8 with (first
    | (go_at_call 55; (with_reducible refine (refOf16 dh dl _ _ _ k3 k4 hs8).mono ?_); rintro e w1 ⟨bs5, d5, rfl, rfl⟩)
    | (replace hX := hX.later (below_plus _ bs5 d5); (refine at_op (.store 26 (.tmp 59) (.tmp 57)) rfl ?_; refine wpList_stM (t := 180) 26 (.tmp 59) (.tmp 57) rfl rfl (adC true dh dl) _ (by simp [adC, h6C]) (adC_one _ _ _) rfl rfl hX (szAd _ _ _) ?_; intro V3 hX2 hg)))
  simp only [splice, adC, h6C, List.take_succ_cons, List.take_zero, List.drop_succ_cons, List.drop_zero, List.length_cons, List.length_nil, Nat.zero_add, Nat.reduceAdd, List.cons_append, List.nil_append] at hX2
  replace b2 := (b2.later (below_plus _ bs5 d5)).grown hg (by have := b2.lt; simp; omega)
  replace be := below_grown (belowP be bs5 d5) hg (by omega)
  clear hX hg zx hs8 j2
  have hX := hX2
  clear hX2
  replace hX : Bk V3 g 180 (h6C cl lb (ln : Int) nx ht true sh sl true dh dl) := hX
  have yl : V3.cell? ⟨g, 2, none⟩ = some (.int .i64 (ln : Int)) := hX.cell 2
  have zx := hX.lt
  have w9 : IntKind.i64.wrap ((n : Int) - 40) = (n : Int) - 40 := IntWalk.i64_in _ (by omega)
  go_wp2_with (refine at_op (.store 180 (.tmp 2) (.tmp 66)) rfl ?_; refine wpList_stA (t := 180) 180 (.tmp 2) (.tmp 66) rfl rfl (h6C 0 0 0 0 0 false 0 0 false 0 0) (h6C 0 0 0 0 0 false 0 0 false 0 0) rfl (h6C_one _ _ _ _ _ _ _ _ _ _ _) rfl rfl b2 (szR6 _ _ _ _ _ _ _ _ _ _ _) ?_; intro W9 h9 g9)
  refine bodyPost_agg3 Try.results76 rfl rfl rfl h9.range r1 r2 (szR6 _ _ _ _ _ _ _ _ _ _ _) rfl (RetV.mk ?_)
  exact below_grown be g9 (by omega)
set_option maxHeartbeats 4000000 in
set_option maxRecDepth 100000 in
theorem refP6_ok (A : Option Addr) (n c : Nat) (l : List UInt8) (w : World) (h : Rb w A n c l) (hm : n ≤ 1000000) (b0 b1 lo cl lb ln nx ht sh sl dh dl : Nat) (x0 : num ((l.drop 0).take 1) = b0) (x1 : num ((l.drop 1).take 1) = b1) (x2 : num ((l.drop 2).take 2) = lo) (x3 : num ((l.drop 4).take 2) = ln) (x4 : num ((l.drop 6).take 1) = nx) (x5 : num ((l.drop 7).take 1) = ht) (z0 : (l.drop 8).take 16 = dig sh 8 ++ dig sl 8) (z1 : (l.drop 24).take 16 = dig dh 8 ++ dig dl 8) (k1 : sh < 18446744073709551616) (k2 : sl < 18446744073709551616) (k3 : dh < 18446744073709551616) (k4 : dl < 18446744073709551616) (g0 : b0 / 16 = 6) (g1 : b0 % 16 * 16 + b1 / 16 = cl) (g2 : b1 % 16 * 65536 + lo = lb) (hn : 40 ≤ n) (hq : ln ≤ n - 40) : Calls Try.prog 76 #[.slice A n c] w (RetP6 w cl lb ln nx ht true sh sl dh dl ((l.drop 40).take ln) 0) := by
  obtain ⟨dr, r1, r2⟩ := rowR6
  have hc := h.2.1
  have d40 : decide ((n : Int) < 40) = false := by simp only [decide_eq_false_iff_not]; omega
  have hdl : decide ((n : Int) - 40 < (ln : Int)) = false := by simp only [decide_eq_false_iff_not]; omega
  have hr0 : Rb w (cutA A c 40 1) ln (c - 40) ((l.drop 40).take ln) := (h.cut (k := 40) (by omega)).take (by omega)
  generalize (l.drop 40).take ln = load at *
  obtain ⟨z, hz⟩ : ∃ z : Nat, z = 40 + ln := ⟨_, rfl⟩
  have e0 : (b0 : Int) / 16 = 6 := by omega
  have e0n : ((b0 : Int) / 16 != 6) = false := by rw [e0]; rfl
  have hb0 : b0 < 256 := by rw [← x0]; exact num_lt' l 0 1 256 (by decide)
  have hb1 : b1 < 256 := by rw [← x1]; exact num_lt' l 1 1 256 (by decide)
  have hlo : lo < 65536 := by rw [← x2]; exact num_lt' l 2 2 65536 (by decide)
  have hln : ln < 65536 := by rw [← x3]; exact num_lt' l 4 2 65536 (by decide)
  obtain ⟨m0, hm0⟩ : ∃ m : Nat, m = b0 % 16 := ⟨_, rfl⟩
  obtain ⟨m1, hm1⟩ : ∃ m : Nat, m = b1 % 16 := ⟨_, rfl⟩
  obtain ⟨m2, hm2⟩ : ∃ m : Nat, m = b1 / 16 := ⟨_, rfl⟩
  have v0 : (b0 : Int) % 16 = (m0 : Int) := by omega
  have v1 : (b1 : Int) % 16 = (m1 : Int) := by omega
  have v0t : (b0 : Int).tmod 16 = (m0 : Int) := by rw [Int.tmod_eq_emod_of_nonneg (by omega)]; omega
  have v1t : (b1 : Int).tmod 16 = (m1 : Int) := by rw [Int.tmod_eq_emod_of_nonneg (by omega)]; omega
  have v2 : (b1 : Int) / 16 = (m2 : Int) := by omega
  have v3 : ((m0 : Int) * 16 + (m2 : Int)) % 256 = (cl : Int) := by omega
  have v3w : IntKind.u8.wrap ((m0 : Int) * 16 + (m2 : Int)) = (cl : Int) := by rw [IntWalk.u8_in _ (by omega)]; omega
  have v3a : IntKind.u8.wrap ((m0 : Int) * 16) = (m0 : Int) * 16 := IntWalk.u8_in _ (by omega)
  have v2w : IntKind.u8.wrap (m2 : Int) = (m2 : Int) := IntWalk.u8_in _ (by omega)
  have v4 : IntKind.u32.wrap (m1 : Int) = (m1 : Int) := IntWalk.u32_in _ (by omega)
  have v5 : IntKind.u32.wrap ((m1 : Int) * 65536) = (m1 : Int) * 65536 := IntWalk.u32_in _ (by omega)
  have v6 : IntKind.u32.wrap (lo : Int) = (lo : Int) := IntWalk.u32_in _ (by omega)
  have v7 : IntKind.u32.wrap ((m1 : Int) * 65536 + (lo : Int)) = (lb : Int) := by rw [IntWalk.u32_in _ (by omega)]; omega
  have v8 : IntKind.i64.wrap (ln : Int) = (ln : Int) := IntWalk.i64_in _ (by omega)
  have hcl : cl < 256 := by omega
  obtain ⟨b, off, rfl, hbl, hcell⟩ := h.2.2.at_ (by rw [bcs_length, h.1]; omega)
  have y0 := num_cell hcell 0 (by rw [h.1]; omega)
  rw [x0] at y0
  have y1 := num_cell hcell 1 (by rw [h.1]; omega)
  rw [x1] at y1
  have y4 := num_cell hcell 6 (by rw [h.1]; omega)
  rw [x4] at y4
  have y5 := num_cell hcell 7 (by rw [h.1]; omega)
  rw [x5] at y5
  rw [Nat.add_zero] at y0
  have n0 : 0 < n := by omega
  have n1 : 1 < n := by omega
  have n6 : 6 < n := by omega
  have n7 : 7 < n := by omega
  have i0 : (0 : Int) < (n : Int) := by omega
  have i1 : (1 : Int) < (n : Int) := by omega
  have i6 : (6 : Int) < (n : Int) := by omega
  have i7 : (7 : Int) < (n : Int) := by omega
  clear hcell
  clear x0 x1 x4 x5 g0 g1 g2 hm0 hm1 hm2
  replace x2 := Lib.hid x2
  replace x3 := Lib.hid x3
  replace z0 := Lib.hid z0
  replace z1 := Lib.hid z1
  have b2 : Bk (w.alloc (.cells #[.int .u8 0, .int .u32 0, .int .i64 0, .int .u8 0, .int .u8 0, .bool false, .int .u64 0, .int .u64 0, .bool false, .int .u64 0, .int .u64 0] 180)) w.heap.size 180 (h6C 0 0 0 0 0 false 0 0 false 0 0) := Bk.new w 180 #[.int .u8 0, .int .u32 0, .int .i64 0, .int .u8 0, .int .u8 0, .bool false, .int .u64 0, .int .u64 0, .bool false, .int .u64 0, .int .u64 0]
  have be : Below w.heap.size w (w.alloc (.cells #[.int .u8 0, .int .u32 0, .int .i64 0, .int .u8 0, .int .u8 0, .bool false, .int .u64 0, .int .u64 0, .bool false, .int .u64 0, .int .u64 0] 180)) := Below.allocS (Below.refl _ _) _
  go_enter Try.func76, Try.ntmps76
  go_upto_region 5 with (fail)
  have y0' : (w.alloc (.cells #[.int .u8 0, .int .u32 0, .int .i64 0, .int .u8 0, .int .u8 0, .bool false, .int .u64 0, .int .u64 0, .bool false, .int .u64 0, .int .u64 0] 180)).cell? ⟨b, off, none⟩ = _ := (be.cell (p := ⟨b, off, none⟩) hbl).trans y0
  have y1' : (w.alloc (.cells #[.int .u8 0, .int .u32 0, .int .i64 0, .int .u8 0, .int .u8 0, .bool false, .int .u64 0, .int .u64 0, .bool false, .int .u64 0, .int .u64 0] 180)).cell? ⟨b, off + 1, none⟩ = _ := (be.cell (p := ⟨b, off + 1, none⟩) hbl).trans y1
  have y4' : (w.alloc (.cells #[.int .u8 0, .int .u32 0, .int .i64 0, .int .u8 0, .int .u8 0, .bool false, .int .u64 0, .int .u64 0, .bool false, .int .u64 0, .int .u64 0] 180)).cell? ⟨b, off + 6, none⟩ = _ := (be.cell (p := ⟨b, off + 6, none⟩) hbl).trans y4
  have y5' : (w.alloc (.cells #[.int .u8 0, .int .u32 0, .int .i64 0, .int .u8 0, .int .u8 0, .bool false, .int .u64 0, .int .u64 0, .bool false, .int .u64 0, .int .u64 0] 180)).cell? ⟨b, off + 7, none⟩ = _ := (be.cell (p := ⟨b, off + 7, none⟩) hbl).trans y5
  generalize w.alloc (.cells #[.int .u8 0, .int .u32 0, .int .i64 0, .int .u8 0, .int .u8 0, .bool false, .int .u64 0, .int .u64 0, .bool false, .int .u64 0, .int .u64 0] 180) = V at *
  have zV := be.size
  have zb : b < V.heap.size := by omega
  go_wp2
  refine wp_relS 31 75 rfl (by kernel_rfl) (by kernel_rfl) ?_
  apply Steps.one (MP.eq _) 1 rfl
  · intro o ho FA x hO hD K hK
    obtain rfl := Option.some.inj ho.symm
    clear ho
    have e0 := hO 0 (by kernel_rfl)
    simp only [eval_tmp, List.getElem?_toArray, List.getElem?_cons_succ, List.getElem?_cons_zero, Option.getD_some] at e0
    have ev0 := Lib.hid ((eval_tmp FA 0).trans e0)
    clear hO hD
    go_simp
    exact hK.out _ _ (Ex.refl _) rfl
  apply Steps.one (MP.eq _) 2 rfl
  · intro o ho FA x hO hD K hK
    obtain rfl := Option.some.inj ho.symm
    clear ho
    have ev16 : FA.eval (.tmp 16) = _ := hD 0 16 (by kernel_rfl)
    have e16 := (eval_tmp FA 16).symm.trans ev16
    replace ev16 := Lib.hid ev16
    clear hO hD
    go_simp
    exact hK.out _ _ (Ex.refl _) rfl
  apply Steps.one (MP.eq _) 3 rfl
  · intro o ho FA x hO hD K hK
    obtain rfl := Option.some.inj ho.symm
    clear ho
    have ev17 : FA.eval (.tmp 17) = _ := hD 1 17 (by kernel_rfl)
    have e17 := (eval_tmp FA 17).symm.trans ev17
    replace ev17 := Lib.hid ev17
    clear hO hD
    go_simp
    exact hK.out _ _ (Ex.refl _) rfl
  apply Steps.one (MP.eq _) 4 rfl
  · intro o ho FA x hO hD K hK
    obtain rfl := Option.some.inj ho.symm
    clear ho
    have ev18 : FA.eval (.tmp 18) = _ := hD 2 18 (by kernel_rfl)
    have e18 := (eval_tmp FA 18).symm.trans ev18
    replace ev18 := Lib.hid ev18
    clear hO hD
    go_simp
    exact hK.out _ _ (Ex.refl _) rfl
  apply Steps.one (MP.eq _) 5 rfl
  · intro o ho FA x hO hD K hK
    obtain rfl := Option.some.inj ho.symm
    clear ho
    have ev19 : FA.eval (.tmp 19) = _ := hD 3 19 (by kernel_rfl)
    have e19 := (eval_tmp FA 19).symm.trans ev19
    replace ev19 := Lib.hid ev19
    clear hO hD
    go_simp
    exact hK.out _ _ (Ex.refl _) rfl
  apply Steps.one (MP.eq _) 6 rfl
  · intro o ho FA x hO hD K hK
    obtain rfl := Option.some.inj ho.symm
    clear ho
    have e0 := hO 0 (by kernel_rfl)
    simp only [eval_tmp, List.getElem?_toArray, List.getElem?_cons_succ, List.getElem?_cons_zero, Option.getD_some] at e0
    have ev0 := Lib.hid ((eval_tmp FA 0).trans e0)
    clear hO hD
    go_simp
    exact hK.out _ _ (Ex.refl _) rfl
  apply Steps.one (MP.eq _) 7 rfl
  · intro o ho FA x hO hD K hK
    obtain rfl := Option.some.inj ho.symm
    clear ho
    have ev21 : FA.eval (.tmp 21) = _ := hD 5 21 (by kernel_rfl)
    have e21 := (eval_tmp FA 21).symm.trans ev21
    replace ev21 := Lib.hid ev21
    clear hO hD
    go_simp
    exact hK.out _ _ (Ex.refl _) rfl
  apply Steps.one (MP.eq _) 8 rfl
  · intro o ho FA x hO hD K hK
    obtain rfl := Option.some.inj ho.symm
    clear ho
    have ev22 : FA.eval (.tmp 22) = _ := hD 6 22 (by kernel_rfl)
    have e22 := (eval_tmp FA 22).symm.trans ev22
    replace ev22 := Lib.hid ev22
    clear hO hD
    go_simp
    exact hK.out _ _ (Ex.refl _) rfl
  apply Steps.one (MP.eq _) 9 rfl
  · intro o ho FA x hO hD K hK
    obtain rfl := Option.some.inj ho.symm
    clear ho
    have ev23 : FA.eval (.tmp 23) = _ := hD 7 23 (by kernel_rfl)
    have e23 := (eval_tmp FA 23).symm.trans ev23
    replace ev23 := Lib.hid ev23
    clear hO hD
    go_simp
    exact hK.out _ _ (Ex.refl _) rfl
  apply Steps.one (MP.eq _) 10 rfl
  · intro o ho FA x hO hD K hK
    obtain rfl := Option.some.inj ho.symm
    clear ho
    have ev20 : FA.eval (.tmp 20) = _ := hD 4 20 (by kernel_rfl)
    have e20 := (eval_tmp FA 20).symm.trans ev20
    replace ev20 := Lib.hid ev20
    have ev24 : FA.eval (.tmp 24) = _ := hD 8 24 (by kernel_rfl)
    have e24 := (eval_tmp FA 24).symm.trans ev24
    replace ev24 := Lib.hid ev24
    clear hO hD
    go_simp
    exact hK.out _ _ (Ex.refl _) rfl
  apply Steps.one (MP.eq _) 11 rfl
  · intro o ho FA x hO hD K hK
    obtain rfl := Option.some.inj ho.symm
    clear ho
    have e0 := hO 0 (by kernel_rfl)
    simp only [eval_tmp, List.getElem?_toArray, List.getElem?_cons_succ, List.getElem?_cons_zero, Option.getD_some] at e0
    have ev0 := Lib.hid ((eval_tmp FA 0).trans e0)
    clear hO hD
    go_simp
    exact hK.out _ _ (Ex.refl _) rfl
  apply Steps.one (MP.eq _) 12 rfl
  · intro o ho FA x hO hD K hK
    obtain rfl := Option.some.inj ho.symm
    clear ho
    have ev26 : FA.eval (.tmp 26) = _ := hD 10 26 (by kernel_rfl)
    have e26 := (eval_tmp FA 26).symm.trans ev26
    replace ev26 := Lib.hid ev26
    clear hO hD
    go_simp
    exact hK.out _ _ (Ex.refl _) rfl
  apply Steps.one (MP.eq _) 13 rfl
  · intro o ho FA x hO hD K hK
    obtain rfl := Option.some.inj ho.symm
    clear ho
    have ev27 : FA.eval (.tmp 27) = _ := hD 11 27 (by kernel_rfl)
    have e27 := (eval_tmp FA 27).symm.trans ev27
    replace ev27 := Lib.hid ev27
    clear hO hD
    go_simp
    exact hK.out _ _ (Ex.refl _) rfl
  apply Steps.one (MP.eq _) 14 rfl
  · intro o ho FA x hO hD K hK
    obtain rfl := Option.some.inj ho.symm
    clear ho
    have ev28 : FA.eval (.tmp 28) = _ := hD 12 28 (by kernel_rfl)
    have e28 := (eval_tmp FA 28).symm.trans ev28
    replace ev28 := Lib.hid ev28
    clear hO hD
    go_simp
    exact hK.out _ _ (Ex.refl _) rfl
  apply Steps.one (MP.eq _) 15 rfl
  · intro o ho FA x hO hD K hK
    obtain rfl := Option.some.inj ho.symm
    clear ho
    have ev29 : FA.eval (.tmp 29) = _ := hD 13 29 (by kernel_rfl)
    have e29 := (eval_tmp FA 29).symm.trans ev29
    replace ev29 := Lib.hid ev29
    clear hO hD
    go_simp
    exact hK.out _ _ (Ex.refl _) rfl
  apply Steps.one (MP.eq _) 16 rfl
  · intro o ho FA x hO hD K hK
    obtain rfl := Option.some.inj ho.symm
    clear ho
    have ev30 : FA.eval (.tmp 30) = _ := hD 14 30 (by kernel_rfl)
    have e30 := (eval_tmp FA 30).symm.trans ev30
    replace ev30 := Lib.hid ev30
    clear hO hD
    go_simp
    exact hK.out _ _ (Ex.refl _) rfl
  apply Steps.one (MP.eq _) 17 rfl
  · intro o ho FA x hO hD K hK
    obtain rfl := Option.some.inj ho.symm
    clear ho
    have e0 := hO 0 (by kernel_rfl)
    simp only [eval_tmp, List.getElem?_toArray, List.getElem?_cons_succ, List.getElem?_cons_zero, Option.getD_some] at e0
    have ev0 := Lib.hid ((eval_tmp FA 0).trans e0)
    clear hO hD
    go_simp
    exact hK.out _ _ (Ex.refl _) rfl
  apply Steps.one (MP.eq _) 18 rfl
  · intro o ho FA x hO hD K hK
    obtain rfl := Option.some.inj ho.symm
    clear ho
    have ev32 : FA.eval (.tmp 32) = _ := hD 16 32 (by kernel_rfl)
    have e32 := (eval_tmp FA 32).symm.trans ev32
    replace ev32 := Lib.hid ev32
    clear hO hD
    go_simp
    refine (refGetV _ n c l _ _ 2 2 lo _ ((h.later be).plus_ _ _) rfl rfl x2.out (by omega) (by omega) (by omega)).mono ?_
    rintro e w1 ⟨rfl, rfl⟩
    exact hK.out _ _ (Ex.refl _) rfl
  apply Steps.one (MP.eq _) 19 rfl
  · intro o ho FA x hO hD K hK
    obtain rfl := Option.some.inj ho.symm
    clear ho
    have ev33 : FA.eval (.tmp 33) = _ := hD 17 33 (by kernel_rfl)
    have e33 := (eval_tmp FA 33).symm.trans ev33
    replace ev33 := Lib.hid ev33
    clear hO hD
    go_simp
    exact hK.out _ _ (Ex.refl _) rfl
  apply Steps.one (MP.eq _) 20 rfl
  · intro o ho FA x hO hD K hK
    obtain rfl := Option.some.inj ho.symm
    clear ho
    have ev31 : FA.eval (.tmp 31) = _ := hD 15 31 (by kernel_rfl)
    have e31 := (eval_tmp FA 31).symm.trans ev31
    replace ev31 := Lib.hid ev31
    have ev34 : FA.eval (.tmp 34) = _ := hD 18 34 (by kernel_rfl)
    have e34 := (eval_tmp FA 34).symm.trans ev34
    replace ev34 := Lib.hid ev34
    clear hO hD
    go_simp
    exact hK.out _ _ (Ex.refl _) rfl
  apply Steps.one (MP.eq _) 21 rfl
  · intro o ho FA x hO hD K hK
    obtain rfl := Option.some.inj ho.symm
    clear ho
    have e0 := hO 0 (by kernel_rfl)
    simp only [eval_tmp, List.getElem?_toArray, List.getElem?_cons_succ, List.getElem?_cons_zero, Option.getD_some] at e0
    have ev0 := Lib.hid ((eval_tmp FA 0).trans e0)
    clear hO hD
    go_simp
    exact hK.out _ _ (Ex.refl _) rfl
  apply Steps.one (MP.eq _) 22 rfl
  · intro o ho FA x hO hD K hK
    obtain rfl := Option.some.inj ho.symm
    clear ho
    have ev36 : FA.eval (.tmp 36) = _ := hD 20 36 (by kernel_rfl)
    have e36 := (eval_tmp FA 36).symm.trans ev36
    replace ev36 := Lib.hid ev36
    clear hO hD
    go_simp
    refine (refGetV _ n c l _ _ 4 2 ln _ ((h.later be).plus_ _ _) rfl rfl x3.out (by omega) (by omega) (by omega)).mono ?_
    rintro e w1 ⟨rfl, rfl⟩
    exact hK.out _ _ (Ex.refl _) rfl
  apply Steps.one (MP.eq _) 23 rfl
  · intro o ho FA x hO hD K hK
    obtain rfl := Option.some.inj ho.symm
    clear ho
    have ev37 : FA.eval (.tmp 37) = _ := hD 21 37 (by kernel_rfl)
    have e37 := (eval_tmp FA 37).symm.trans ev37
    replace ev37 := Lib.hid ev37
    clear hO hD
    go_simp
    exact hK.out _ _ (Ex.refl _) rfl
  apply Steps.one (MP.eq _) 24 rfl
  · intro o ho FA x hO hD K hK
    obtain rfl := Option.some.inj ho.symm
    clear ho
    have e0 := hO 0 (by kernel_rfl)
    simp only [eval_tmp, List.getElem?_toArray, List.getElem?_cons_succ, List.getElem?_cons_zero, Option.getD_some] at e0
    have ev0 := Lib.hid ((eval_tmp FA 0).trans e0)
    clear hO hD
    go_simp
    exact hK.out _ _ (Ex.refl _) rfl
  apply Steps.one (MP.eq _) 25 rfl
  · intro o ho FA x hO hD K hK
    obtain rfl := Option.some.inj ho.symm
    clear ho
    have ev39 : FA.eval (.tmp 39) = _ := hD 23 39 (by kernel_rfl)
    have e39 := (eval_tmp FA 39).symm.trans ev39
    replace ev39 := Lib.hid ev39
    clear hO hD
    go_simp
    exact hK.out _ _ (Ex.refl _) rfl
  apply Steps.one (MP.eq _) 26 rfl
  · intro o ho FA x hO hD K hK
    obtain rfl := Option.some.inj ho.symm
    clear ho
    have ev40 : FA.eval (.tmp 40) = _ := hD 24 40 (by kernel_rfl)
    have e40 := (eval_tmp FA 40).symm.trans ev40
    replace ev40 := Lib.hid ev40
    clear hO hD
    go_simp
    exact hK.out _ _ (Ex.refl _) rfl
  apply Steps.one (MP.eq _) 27 rfl
  · intro o ho FA x hO hD K hK
    obtain rfl := Option.some.inj ho.symm
    clear ho
    have e0 := hO 0 (by kernel_rfl)
    simp only [eval_tmp, List.getElem?_toArray, List.getElem?_cons_succ, List.getElem?_cons_zero, Option.getD_some] at e0
    have ev0 := Lib.hid ((eval_tmp FA 0).trans e0)
    clear hO hD
    go_simp
    exact hK.out _ _ (Ex.refl _) rfl
  apply Steps.one (MP.eq _) 28 rfl
  · intro o ho FA x hO hD K hK
    obtain rfl := Option.some.inj ho.symm
    clear ho
    have ev42 : FA.eval (.tmp 42) = _ := hD 26 42 (by kernel_rfl)
    have e42 := (eval_tmp FA 42).symm.trans ev42
    replace ev42 := Lib.hid ev42
    clear hO hD
    go_simp
    exact hK.out _ _ (Ex.refl _) rfl
  apply Steps.one (MP.eq _) 29 rfl
  · intro o ho FA x hO hD K hK
    obtain rfl := Option.some.inj ho.symm
    clear ho
    have ev43 : FA.eval (.tmp 43) = _ := hD 27 43 (by kernel_rfl)
    have e43 := (eval_tmp FA 43).symm.trans ev43
    replace ev43 := Lib.hid ev43
    clear hO hD
    go_simp
    exact hK.out _ _ (Ex.refl _) rfl
  apply Steps.one (MP.eq _) 30 rfl
  · intro o ho FA x hO hD K hK
    obtain rfl := Option.some.inj ho.symm
    clear ho
    have ev25 : FA.eval (.tmp 25) = _ := hD 9 25 (by kernel_rfl)
    have e25 := (eval_tmp FA 25).symm.trans ev25
    replace ev25 := Lib.hid ev25
    have ev35 : FA.eval (.tmp 35) = _ := hD 19 35 (by kernel_rfl)
    have e35 := (eval_tmp FA 35).symm.trans ev35
    replace ev35 := Lib.hid ev35
    have ev38 : FA.eval (.tmp 38) = _ := hD 22 38 (by kernel_rfl)
    have e38 := (eval_tmp FA 38).symm.trans ev38
    replace ev38 := Lib.hid ev38
    have ev41 : FA.eval (.tmp 41) = _ := hD 25 41 (by kernel_rfl)
    have e41 := (eval_tmp FA 41).symm.trans ev41
    replace ev41 := Lib.hid ev41
    have ev44 : FA.eval (.tmp 44) = _ := hD 28 44 (by kernel_rfl)
    have e44 := (eval_tmp FA 44).symm.trans ev44
    replace ev44 := Lib.hid ev44
    clear hO hD
    go_simp
    exact hK.out _ _ (Ex.refl _) rfl
  apply Steps.one (MP.blk V.heap.size 180 (h6C 0 0 0 0 0 false 0 0 false 0 0)) 31 rfl
  · intro o ho FA x hO hD K hK
    obtain rfl := Option.some.inj ho.symm
    clear ho
    clear hO hD
    go_simp
    refine hK.out _ _ (Ex.alloc _ _) ⟨_, rfl, ?_, ?_⟩
    · simp [size_plus]
    · refine Bk.newK _ _ _ ?_ rfl
      simp [size_plus]
  refine Steps.fin_ (fun vs x hp => ?_)
  have p0 : vs 0 = _ := hp 0 (by omega)
  have p1 : vs 1 = _ := hp 1 (by omega)
  have p2 : vs 2 = _ := hp 2 (by omega)
  have p3 : vs 3 = _ := hp 3 (by omega)
  have p4 : vs 4 = _ := hp 4 (by omega)
  have p5 : vs 5 = _ := hp 5 (by omega)
  have p6 : vs 6 = _ := hp 6 (by omega)
  have p7 : vs 7 = _ := hp 7 (by omega)
  have p8 : vs 8 = _ := hp 8 (by omega)
  have p9 : vs 9 = _ := hp 9 (by omega)
  have p10 : vs 10 = _ := hp 10 (by omega)
  have p11 : vs 11 = _ := hp 11 (by omega)
  have p12 : vs 12 = _ := hp 12 (by omega)
  have p13 : vs 13 = _ := hp 13 (by omega)
  have p14 : vs 14 = _ := hp 14 (by omega)
  have p15 : vs 15 = _ := hp 15 (by omega)
  have p16 : vs 16 = _ := hp 16 (by omega)
  have p17 : vs 17 = _ := hp 17 (by omega)
  have p18 : vs 18 = _ := hp 18 (by omega)
  have p19 : vs 19 = _ := hp 19 (by omega)
  have p20 : vs 20 = _ := hp 20 (by omega)
  have p21 : vs 21 = _ := hp 21 (by omega)
  have p22 : vs 22 = _ := hp 22 (by omega)
  have p23 : vs 23 = _ := hp 23 (by omega)
  have p24 : vs 24 = _ := hp 24 (by omega)
  have p25 : vs 25 = _ := hp 25 (by omega)
  have p26 : vs 26 = _ := hp 26 (by omega)
  have p27 : vs 27 = _ := hp 27 (by omega)
  have p28 : vs 28 = _ := hp 28 (by omega)
  have p29 : vs 29 = _ := hp 29 (by omega)
  have p30 := hp 30 (by omega)
  clear hp
  simp only [List.take_succ_cons, List.take_zero, List.drop_succ_cons, List.drop_zero, putAll, Nat.zero_add, Nat.reduceAdd, Act.put, List.setIfInBounds_toArray, List.set_cons_zero, List.set_cons_succ, p0, p1, p2, p3, p4, p5, p6, p7, p8, p9, p10, p11, p12, p13, p14, p15, p16, p17, p18, p19, p20, p21, p22, p23, p24, p25, p26, p27, p28, p29]
  clear p0 p1 p2 p3 p4 p5 p6 p7 p8 p9 p10 p11 p12 p13 p14 p15 p16 p17 p18 p19 p20 p21 p22 p23 p24 p25 p26 p27 p28 p29
  generalize vs 30 = y30 at *
  clear vs
  obtain ⟨g, rfl, hgw, hb⟩ := p30
  have hgz : w.heap.size < g := by have := b2.lt; omega
  go_upto_region 6 with (refine at_op (.store 180 (.tmp 5) (.tmp 45)) rfl ?_; refine wpList_stA (t := 180) 180 (.tmp 5) (.tmp 45) rfl rfl (h6C cl lb (ln : Int) nx ht false 0 0 false 0 0) (h6C 0 0 0 0 0 false 0 0 false 0 0) rfl (h6C_one _ _ _ _ _ _ _ _ _ _ _) rfl rfl hb (szR6 _ _ _ _ _ _ _ _ _ _ _) ?_; intro V1 hX hg3)
  replace b2 := (b2.later (below_plus _ x.bs x.d)).grown hg3 (by have := b2.lt; simp; omega)
  replace be := below_grown (belowP be x.bs x.d) hg3 (by omega)
  clear hg3 hb y0' y1' y4' y5' zb zV
  have hs8 : Rb V1 (cutA (some ⟨b, off, none⟩) c 8 1) 16 (c - 8) (dig sh 8 ++ dig sl 8) := by
    have := ((h.later be).cut (k := 8) (by omega)).take (k := 16) (by omega)
    rwa [z0.out] at this
  have j2 : (24 : Int) ≤ (c : Int) := by omega
  have zx := hX.lt
  go_upto_region 7 with (first
    | (go_at_call 55; (with_reducible refine (refOf16 sh sl _ _ _ k1 k2 hs8).mono ?_); rintro e w1 ⟨bs5, d5, rfl, rfl⟩)
    | (replace hX := hX.later (below_plus _ bs5 d5); (refine at_op (.store 26 (.tmp 52) (.tmp 50)) rfl ?_; refine wpList_stM (t := 180) 26 (.tmp 52) (.tmp 50) rfl rfl (adC true sh sl) _ (by simp [adC, h6C]) (adC_one _ _ _) rfl rfl hX (szAd _ _ _) ?_; intro V2 hX2 hg)))
  simp only [splice, adC, h6C, List.take_succ_cons, List.take_zero, List.drop_succ_cons, List.drop_zero, List.length_cons, List.length_nil, Nat.zero_add, Nat.reduceAdd, List.cons_append, List.nil_append] at hX2
  replace b2 := (b2.later (below_plus _ bs5 d5)).grown hg (by have := b2.lt; simp; omega)
  replace be := below_grown (belowP be bs5 d5) hg (by omega)
  clear hX hg zx hs8 j2
  have hX := hX2
  clear hX2
  have hs8 : Rb V2 (cutA (some ⟨b, off, none⟩) c 24 1) 16 (c - 24) (dig dh 8 ++ dig dl 8) := by
    have := ((h.later be).cut (k := 24) (by omega)).take (k := 16) (by omega)
    rwa [z1.out] at this
  have j2 : (40 : Int) ≤ (c : Int) := by omega
  have zx := hX.lt
  go_upto_region 8 with (first
    | (go_at_call 55; (with_reducible refine (refOf16 dh dl _ _ _ k3 k4 hs8).mono ?_); rintro e w1 ⟨bs5, d5, rfl, rfl⟩)
    | (replace hX := hX.later (below_plus _ bs5 d5); (refine at_op (.store 26 (.tmp 59) (.tmp 57)) rfl ?_; refine wpList_stM (t := 180) 26 (.tmp 59) (.tmp 57) rfl rfl (adC true dh dl) _ (by simp [adC, h6C]) (adC_one _ _ _) rfl rfl hX (szAd _ _ _) ?_; intro V3 hX2 hg)))
  simp only [splice, adC, h6C, List.take_succ_cons, List.take_zero, List.drop_succ_cons, List.drop_zero, List.length_cons, List.length_nil, Nat.zero_add, Nat.reduceAdd, List.cons_append, List.nil_append] at hX2
  replace b2 := (b2.later (below_plus _ bs5 d5)).grown hg (by have := b2.lt; simp; omega)
  replace be := below_grown (belowP be bs5 d5) hg (by omega)
  clear hX hg zx hs8 j2
  have hX := hX2
  clear hX2
  replace hX : Bk V3 g 180 (h6C cl lb (ln : Int) nx ht true sh sl true dh dl) := hX
  have yl : V3.cell? ⟨g, 2, none⟩ = some (.int .i64 (ln : Int)) := hX.cell 2
  have zx := hX.lt
  have w9 : IntKind.i64.wrap ((n : Int) - 40) = (n : Int) - 40 := IntWalk.i64_in _ (by omega)
  go_upto_region 10 with (fail)
  have e1 : IntKind.i64.wrap (40 + (ln : Int)) = (z : Int) := by rw [IntWalk.i64_in _ (by omega)]; omega
  have j0 : (0 : Int) ≤ 40 := by omega
  have j1 : (40 : Int) ≤ (z : Int) := by omega
  have j2 : (z : Int) ≤ (c : Int) := by omega
  have j3 : z - 40 = ln := by omega
  have hr := hr0.later be
  clear hz
  go_wp2
  refine wp_relS 8 75 rfl (by kernel_rfl) (by kernel_rfl) ?_
  apply Steps.one (MP.eq _) 1 rfl
  · intro o ho FA x hO hD K hK
    obtain rfl := Option.some.inj ho.symm
    clear ho
    have e5 := hO 5 (by kernel_rfl)
    simp only [eval_tmp, List.getElem?_toArray, List.getElem?_cons_succ, List.getElem?_cons_zero, Option.getD_some] at e5
    have ev5 := Lib.hid ((eval_tmp FA 5).trans e5)
    clear hO hD
    refine wanted_if rfl ?_
    refine wp_ldA 180 (.tmp 5) rfl (h6C cl lb (ln : Int) nx ht true sh sl true dh dl) ev5.out (hX.later (below_plus _ _ _)) (whole_ _) r1 r2 (szR6 _ _ _ _ _ _ _ _ _ _ _) ?_
    exact hK.out _ _ (Ex.refl _) rfl
  apply Steps.one (MP.fullN V3.heap.size []) 2 rfl
  · intro o ho FA x hO hD K hK
    obtain rfl := Option.some.inj ho.symm
    clear ho
    clear hO hD
    go_simp
    exact hK.out _ _ (Ex.alloc _ _) ⟨_, _, rfl, Rb.litP #[] [] rfl rfl (Nat.zero_le _) rfl, fun a ha => by injection ha with ha; subst ha; simp [size_plus]⟩
  apply Steps.one (MP.eq _) 3 rfl
  · intro o ho FA x hO hD K hK
    obtain rfl := Option.some.inj ho.symm
    clear ho
    have e0 := hO 0 (by kernel_rfl)
    simp only [eval_tmp, List.getElem?_toArray, List.getElem?_cons_succ, List.getElem?_cons_zero, Option.getD_some] at e0
    have ev0 := Lib.hid ((eval_tmp FA 0).trans e0)
    clear hO hD
    go_simp
    exact hK.out _ _ (Ex.refl _) rfl
  apply Steps.one (MP.eq _) 4 rfl
  · intro o ho FA x hO hD K hK
    obtain rfl := Option.some.inj ho.symm
    clear ho
    have e5 := hO 5 (by kernel_rfl)
    simp only [eval_tmp, List.getElem?_toArray, List.getElem?_cons_succ, List.getElem?_cons_zero, Option.getD_some] at e5
    have ev5 := Lib.hid ((eval_tmp FA 5).trans e5)
    clear hO hD
    go_simp
    exact hK.out _ _ (Ex.refl _) rfl
  apply Steps.one (MP.eq _) 5 rfl
  · intro o ho FA x hO hD K hK
    obtain rfl := Option.some.inj ho.symm
    clear ho
    have ev70 : FA.eval (.tmp 70) = _ := hD 3 70 (by kernel_rfl)
    have e70 := (eval_tmp FA 70).symm.trans ev70
    replace ev70 := Lib.hid ev70
    clear hO hD
    refine wanted_if rfl ?_
    refine wp_ld1 3 (.tmp 70) rfl ev70.out (hX.later (below_plus _ _ _)) rfl Try.underlying3 rfl ?_
    exact hK.out _ _ (Ex.refl _) rfl
  apply Steps.one (MP.eq _) 6 rfl
  · intro o ho FA x hO hD K hK
    obtain rfl := Option.some.inj ho.symm
    clear ho
    have ev71 : FA.eval (.tmp 71) = _ := hD 4 71 (by kernel_rfl)
    have e71 := (eval_tmp FA 71).symm.trans ev71
    replace ev71 := Lib.hid ev71
    clear hO hD
    go_simp
    exact hK.out _ _ (Ex.refl _) rfl
  apply Steps.one (MP.eq _) 7 rfl
  · intro o ho FA x hO hD K hK
    obtain rfl := Option.some.inj ho.symm
    clear ho
    have ev69 : FA.eval (.tmp 69) = _ := hD 2 69 (by kernel_rfl)
    have e69 := (eval_tmp FA 69).symm.trans ev69
    replace ev69 := Lib.hid ev69
    have ev72 : FA.eval (.tmp 72) = _ := hD 5 72 (by kernel_rfl)
    have e72 := (eval_tmp FA 72).symm.trans ev72
    replace ev72 := Lib.hid ev72
    clear hO hD
    go_simp
    exact hK.out _ _ (Ex.refl _) rfl
  apply Steps.one (MP.rbN V3.heap.size load) 8 rfl
  · intro o ho FA x hO hD K hK
    obtain rfl := Option.some.inj ho.symm
    clear ho
    have f68 := hD 1 68 (by kernel_rfl)
    generalize eu68 : FA.eval (.tmp 68) = u68 at f68
    have e68 := (eval_tmp FA 68).symm.trans eu68
    have ev68 := Lib.hid eu68
    clear eu68
    have ev73 : FA.eval (.tmp 73) = _ := hD 6 73 (by kernel_rfl)
    have e73 := (eval_tmp FA 73).symm.trans ev73
    replace ev73 := Lib.hid ev73
    clear hO hD
    obtain ⟨A1, n1, rfl, hr1, ha1⟩ := f68
    have hn1 : n1 = 0 := hr1.1.symm
    refine wanted_if rfl ?_
    refine rel_appN bt (.tmp 68) (.tmp 73) V3.heap.size rfl ev68.out hr1 ha1 (by simp [size_plus]) ev73.out (hr.plus_ _ _) (by omega) ?_
    intro A3 n3 c3 w3 hex ho3 ha3
    exact hK.out _ _ hex ⟨_, _, _, rfl, ho3, ha3⟩
  refine Steps.fin_ (fun vs x hp => ?_)
  have p0 : vs 0 = _ := hp 0 (by omega)
  have p1 := hp 1 (by omega)
  have p2 : vs 2 = _ := hp 2 (by omega)
  have p3 : vs 3 = _ := hp 3 (by omega)
  have p4 : vs 4 = _ := hp 4 (by omega)
  have p5 : vs 5 = _ := hp 5 (by omega)
  have p6 : vs 6 = _ := hp 6 (by omega)
  have p7 := hp 7 (by omega)
  clear hp
  simp only [List.take_succ_cons, List.take_zero, List.drop_succ_cons, List.drop_zero, putAll, Nat.zero_add, Nat.reduceAdd, Act.put, List.setIfInBounds_toArray, List.set_cons_zero, List.set_cons_succ, p0, p2, p3, p4, p5, p6]
  clear p0 p2 p3 p4 p5 p6
  generalize vs 1 = y1 at *
  generalize vs 7 = y7 at *
  clear vs
  obtain ⟨A7, n7, c7, rfl, h7, ha7⟩ := p7
  have zs7 := be.size
  have zs8 := b2.lt
  replace b2 := b2.later (below_plus _ x.bs x.d)
  replace be := belowP be x.bs x.d
  go_wp2_with (refine at_op (.store 180 (.tmp 2) (.tmp 67)) rfl ?_; refine wpList_stA (t := 180) 180 (.tmp 2) (.tmp 67) rfl rfl (h6C cl lb (ln : Int) nx ht true sh sl true dh dl) (h6C 0 0 0 0 0 false 0 0 false 0 0) rfl (h6C_one _ _ _ _ _ _ _ _ _ _ _) rfl rfl b2 (szR6 _ _ _ _ _ _ _ _ _ _ _) ?_; intro W9 h9 g9)
  refine bodyPost_agg3 Try.results76 rfl rfl rfl h9.range r1 r2 (szR6 _ _ _ _ _ _ _ _ _ _ _) rfl (RetP6.mk (h7.grownN ha7 g9 (by omega)) (fun a ha => Nat.le_trans zs7 (ha7 a ha)) ?_)
  exact below_grown be g9 (by omega)
/-- what is known of a header that was read -/
structure Facts6 (l : List UInt8) (n cl lb ln nx ht : Nat) (s6 : Bool) (sh sl dh dl : Nat) (load : List UInt8) (E : Int) : Prop where
  c1 : cl < 256
  c2 : lb < 1048576
  c3 : ln < 65536
  c4 : ht < 256
  c : E = 0 → 40 ≤ n ∧ num ((l.drop 0).take 1) / 16 = 6 ∧ s6 = true ∧ nx = num ((l.drop 6).take 1) ∧ ln = num ((l.drop 4).take 2) ∧ sh = num ((l.drop 8).take 8) ∧ sl = num ((l.drop 16).take 8) ∧ dh = num ((l.drop 24).take 8) ∧ dl = num ((l.drop 32).take 8) ∧ load = (l.drop 40).take ln ∧ 40 + ln ≤ n
theorem Facts6.zero (l : List UInt8) (n : Nat) (E : Int) (hE : E ≠ 0) : Facts6 l n 0 0 0 0 0 false 0 0 0 0 [] E := ⟨by decide, by decide, by decide, by decide, fun h => absurd h hE⟩
theorem reads6F (A : Option Addr) (n c : Nat) (l : List UInt8) (w : World) (h : Rb w A n c l) (hm : n ≤ 1000000) : ∃ (cl lb ln nx ht : Nat) (s6 : Bool) (sh sl dh dl : Nat) (load : List UInt8) (E : Int), Facts6 l n cl lb ln nx ht s6 sh sl dh dl load E ∧ (nx < 256 ∧ ht < 256 ∧ sh < 18446744073709551616 ∧ sl < 18446744073709551616 ∧ dh < 18446744073709551616 ∧ dl < 18446744073709551616 ∧ load.length ≤ n) ∧
    (∀ w', Below w.heap.size w w' → Calls Try.prog 69 #[.slice A n c] w' (RetP6 w' cl lb ln nx ht s6 sh sl dh dl load E)) ∧ (∀ w', Below w.heap.size w w' → Calls Try.prog 76 #[.slice A n c] w' (RetP6 w' cl lb ln nx ht s6 sh sl dh dl load E)) := by
  have bad : ∀ E : Int, (E != 0) = true → (∀ w', Below w.heap.size w w' → Calls Try.prog 124 #[.slice A n c] w' (RetV w' (.tuple #[.agg (h6C 0 0 0 0 0 false 0 0 false 0 0).toArray, .int .i64 E]))) → (∀ w', Below w.heap.size w w' → Calls Try.prog 76 #[.slice A n c] w' (RetV w' (.tuple #[.agg (h6C 0 0 0 0 0 false 0 0 false 0 0).toArray, .slice none 0 0, .int .i64 E]))) → ∃ (cl lb ln nx ht : Nat) (s6 : Bool) (sh sl dh dl : Nat) (load : List UInt8) (E : Int), Facts6 l n cl lb ln nx ht s6 sh sl dh dl load E ∧ (nx < 256 ∧ ht < 256 ∧ sh < 18446744073709551616 ∧ sl < 18446744073709551616 ∧ dh < 18446744073709551616 ∧ dl < 18446744073709551616 ∧ load.length ≤ n) ∧
    (∀ w', Below w.heap.size w w' → Calls Try.prog 69 #[.slice A n c] w' (RetP6 w' cl lb ln nx ht s6 sh sl dh dl load E)) ∧ (∀ w', Below w.heap.size w w' → Calls Try.prog 76 #[.slice A n c] w' (RetP6 w' cl lb ln nx ht s6 sh sl dh dl load E)) := fun E hE h1 h2 =>
    ⟨0, 0, 0, 0, 0, false, 0, 0, 0, 0, [], E, Facts6.zero l n E (by rw [bne_iff_ne] at hE; exact hE), ⟨by decide, by decide, by decide, by decide, by decide, by decide, Nat.zero_le _⟩, fun w' hb => (parse6_err A n c E w' hE (fun w2 hb2 => h1 w2 (hb.trans (hb2.mono hb.size)))).mono fun _ _ => RetP6.err, fun w' hb => (h2 w' hb).mono fun _ _ => RetP6.err⟩
  by_cases g0 : n < 40
  · exact bad 20 rfl (fun w' hb => hdr6_short A n c l w' (h.later hb) hm g0) (fun w' hb => refP6_short A n c l w' (h.later hb) hm g0)
  have hn : 40 ≤ n := by omega
  have hl := h.1
  have e := first_ip6 l (by omega)
  have B1 := num_lt' l 1 1 256 (by decide)
  have B2 := num_lt' l 2 2 65536 (by decide)
  have B0 := num_lt' l 0 1 256 (by decide)
  by_cases g1 : num ((l.drop 0).take 1) / 16 = 6
  case neg => exact bad 21 rfl (fun w' hb => hdr6_form A n c l w' (h.later hb) hm _ rfl hn (by omega)) (fun w' hb => refP6_form A n c l w' (h.later hb) hm _ rfl hn g1)
  have has := as_ip6B l (by omega) (by omega)
  have z0 : (l.drop 8).take 16 = dig (num ((l.drop 8).take 8)) 8 ++ dig (num ((l.drop 16).take 8)) 8 := by
    rw [digNum 8 _ (by rw [List.length_take, List.length_drop]; omega), digNum 8 _ (by rw [List.length_take, List.length_drop]; omega), show l.drop 16 = (l.drop 8).drop 8 from by rw [List.drop_drop], take_app 8 8 (l.drop 8)]
  have z1 : (l.drop 24).take 16 = dig (num ((l.drop 24).take 8)) 8 ++ dig (num ((l.drop 32).take 8)) 8 := by
    rw [digNum 8 _ (by rw [List.length_take, List.length_drop]; omega), digNum 8 _ (by rw [List.length_take, List.length_drop]; omega), show l.drop 32 = (l.drop 24).drop 8 from by rw [List.drop_drop], take_app 8 8 (l.drop 24)]
  have k1 := num_lt' l 8 8 18446744073709551616 (by decide)
  have k2 := num_lt' l 16 8 18446744073709551616 (by decide)
  have k3 := num_lt' l 24 8 18446744073709551616 (by decide)
  have k4 := num_lt' l 32 8 18446744073709551616 (by decide)
  by_cases g2 : n - 40 < num ((l.drop 4).take 2)
  · exact bad 20 rfl (fun w' hb => hdr6_long A n c l w' (h.later hb) hm _ _ rfl rfl hn (by omega) g2) (fun w' hb => refP6_long A n c l w' (h.later hb) hm _ _ _ _ _ _ _ _ _ _ _ _ rfl rfl rfl rfl rfl rfl z0 z1 k1 k2 k3 k4 g1 rfl rfl hn g2)
  refine ⟨num ((l.drop 0).take 4) / 1048576 % 256, num ((l.drop 0).take 4) % 1048576, num ((l.drop 4).take 2), num ((l.drop 6).take 1), num ((l.drop 7).take 1), true, _, _, _, _, (l.drop 40).take (num ((l.drop 4).take 2)), 0, ⟨by omega, by omega, num_lt' l _ 2 _ (by decide), num_lt' l _ 1 _ (by decide), fun _ => ⟨hn, g1, rfl, rfl, rfl, rfl, rfl, rfl, rfl, rfl, by omega⟩⟩, ⟨num_lt' l _ 1 _ (by decide), num_lt' l _ 1 _ (by decide), k1, k2, k3, k4, by rw [List.length_take, List.length_drop]; omega⟩, fun w' hb => ?_, fun w' hb => ?_⟩
  · exact parse6_ok _ _ _ _ _ _ _ _ _ A n c (l.drop 40) w' (by omega) (by omega) (num_lt' l _ 2 _ (by decide)) (num_lt' l _ 1 _ (by decide)) (num_lt' l _ 1 _ (by decide)) k1 k2 k3 k4 (by rw [← has]; exact h.later hb) (by rw [List.length_drop]; omega) hm
  · exact refP6_ok A n c l w' (h.later hb) hm _ _ _ _ _ _ _ _ _ _ _ _ rfl rfl rfl rfl rfl rfl z0 z1 k1 k2 k3 k4 g1 (by omega) (by omega) hn (by omega)
end Go.Proofs.Ytfmkndemkpecpaa

/- Tunnels: Six, outer, Unwrap; the reference's Unwrap. -/
namespace Go.Proofs.Ytfmkndemkpecpaa
open Go.RowKit
set_option linter.unusedVariables false
set_option linter.unusedSimpArgs false
attribute [local go_sem ↓] sliced_cut

attribute [local go_sem] cutA_zero

/-- what the first byte says: the reference's number, the family, the error -/
inductive Sx : List UInt8 → Int → Bool → Int → Prop
  | none_ : Sx [] (-1) false 20
  | four (b : UInt8) (r : List UInt8) (h : b.toNat / 16 = 4) : Sx (b :: r) 4 false 0
  | six (b : UInt8) (r : List UInt8) (h : b.toNat / 16 = 6) : Sx (b :: r) 6 true 0
  | other (b : UInt8) (r : List UInt8) (h4 : b.toNat / 16 ≠ 4) (h6 : b.toNat / 16 ≠ 6) : Sx (b :: r) 0 false 21
theorem sx_any (l : List UInt8) : ∃ N B E, Sx l N B E := by
  cases l with
  | nil => exact ⟨_, _, _, .none_⟩
  | cons b r =>
    by_cases h4 : b.toNat / 16 = 4
    · exact ⟨_, _, _, .four b r h4⟩
    · by_cases h6 : b.toNat / 16 = 6
      · exact ⟨_, _, _, .six b r h6⟩
      · exact ⟨_, _, _, .other b r h4 h6⟩
def wyC (s6 : Bool) (sh sl : Nat) (d6 : Bool) (dh dl tl : Nat) : List Value := [.bool s6, .int .u64 (sh : Int), .int .u64 (sl : Int), .bool d6, .int .u64 (dh : Int), .int .u64 (dl : Int), .int .u8 (tl : Int)]
/-- bytes in a block from base on: a store into an elder block leaves them -/
theorem Rb.grownF {w w' : World} {A : Option Addr} {n c base g : Nat} {l : List UInt8} (h : Rb w A n c l) (hf : ∀ a, A = some a → base ≤ a.block) (hg : w.grownBy w' (some g)) (hlt : g < base) : Rb w' A n c l := h.grownN hf hg hlt
/-- what outer gives -/
def RetTO (w : World) (load : List UInt8) (s6 : Bool) (sh sl : Nat) (d6 : Bool) (dh dl tl : Nat) (nr : Nat) (E : Int) (e : Ending) (w' : World) : Prop := ∃ A n k bs d, e = .returned (.tuple #[.slice A n k, .agg (wyC s6 sh sl d6 dh dl tl).toArray, .int .u8 (nr : Int), .int .i64 E]) ∧ w' = plus w bs d ∧ Rb (plus w bs d) A n k load ∧ ∀ a, A = some a → w.heap.size ≤ a.block
theorem RetTO.mk {w w' : World} {load : List UInt8} {s6 : Bool} {sh sl : Nat} {d6 : Bool} {dh dl tl nr : Nat} {E : Int} {A : Option Addr} {n k : Nat} (h : Rb w' A n k load) (hf : ∀ a, A = some a → w.heap.size ≤ a.block) (hb : Below w.heap.size w w') : RetTO w load s6 sh sl d6 dh dl tl nr E (.returned (.tuple #[.slice A n k, .agg (wyC s6 sh sl d6 dh dl tl).toArray, .int .u8 (nr : Int), .int .i64 E])) w' := by
  obtain ⟨bs, d, rfl⟩ := plus_of hb
  exact ⟨A, n, k, bs, d, rfl, rfl, h, hf⟩
/-- what Unwrap gives -/
def RetTW (w : World) (load : List UInt8) (s6 : Bool) (sh sl : Nat) (d6 : Bool) (dh dl tl : Nat) (E : Int) (e : Ending) (w' : World) : Prop := ∃ A n k bs d, e = .returned (.tuple #[.slice A n k, .agg (wyC s6 sh sl d6 dh dl tl).toArray, .int .i64 E]) ∧ w' = plus w bs d ∧ Rb (plus w bs d) A n k load
theorem RetTW.mk {w w' : World} {load : List UInt8} {s6 : Bool} {sh sl : Nat} {d6 : Bool} {dh dl tl : Nat} {E : Int} {A : Option Addr} {n k : Nat} (h : Rb w' A n k load) (hb : Below w.heap.size w w') : RetTW w load s6 sh sl d6 dh dl tl E (.returned (.tuple #[.slice A n k, .agg (wyC s6 sh sl d6 dh dl tl).toArray, .int .i64 E])) w' := by
  obtain ⟨bs, d, rfl⟩ := plus_of hb
  exact ⟨A, n, k, bs, d, rfl, rfl, h⟩
set_option maxHeartbeats 4000000 in
set_option maxRecDepth 100000 in
theorem tunSix (A : Option Addr) (n c : Nat) (l : List UInt8) (w : World) (h : Rb w A n c l) (N : Int) (B : Bool) (E : Int) (s : Sx l N B E) : Calls Try.prog 68 #[.slice A n c] w fun e w' => e = .returned (.tuple #[.bool B, .int .i64 E]) ∧ w = w' := by
  have hl := h.1
  cases s
  case none_ =>
    obtain rfl : n = 0 := hl.symm
    go_enter Try.func68, Try.ntmps68
    go_wp2
    go_ret2
    exact ⟨rfl, rfl⟩
  case four b r h =>
    obtain ⟨g, off, rfl, hbl, hcell⟩ := h.2.2.at_ (by rw [bcs_length]; simp)
    have y0 : w.cell? ⟨g, off, none⟩ = some (.int .u8 (b.toNat : Int)) := hcell 0 _ rfl
    have n0 : 0 < n := by rw [← hl]; simp
    have i0 : (0 : Int) < (n : Int) := by omega
    have ne : ((n : Int) == 0) = false := by rw [beq_eq_false_iff_ne]; omega
    obtain ⟨q, hq⟩ : ∃ q : Nat, q = b.toNat / 16 := ⟨_, rfl⟩
    have e1 : (b.toNat : Int) / 16 = (q : Int) := by omega
    have e2 : IntKind.i64.wrap (q : Int) = (q : Int) := IntWalk.i64_in _ (by have := b.toNat_lt; omega)
    have e3 : IntKind.u8.wrap (q : Int) = (q : Int) := IntWalk.u8_in _ (by have := b.toNat_lt; omega)
    have e4 : (q : Int) % 256 = (q : Int) := by have := b.toNat_lt; omega
    generalize b.toNat = x at *
    obtain rfl : q = 4 := by omega
    clear hcell hl hq
    go_enter Try.func68, Try.ntmps68
    go_wp2
    go_ret2
    exact ⟨rfl, rfl⟩
  case six b r h =>
    obtain ⟨g, off, rfl, hbl, hcell⟩ := h.2.2.at_ (by rw [bcs_length]; simp)
    have y0 : w.cell? ⟨g, off, none⟩ = some (.int .u8 (b.toNat : Int)) := hcell 0 _ rfl
    have n0 : 0 < n := by rw [← hl]; simp
    have i0 : (0 : Int) < (n : Int) := by omega
    have ne : ((n : Int) == 0) = false := by rw [beq_eq_false_iff_ne]; omega
    obtain ⟨q, hq⟩ : ∃ q : Nat, q = b.toNat / 16 := ⟨_, rfl⟩
    have e1 : (b.toNat : Int) / 16 = (q : Int) := by omega
    have e2 : IntKind.i64.wrap (q : Int) = (q : Int) := IntWalk.i64_in _ (by have := b.toNat_lt; omega)
    have e3 : IntKind.u8.wrap (q : Int) = (q : Int) := IntWalk.u8_in _ (by have := b.toNat_lt; omega)
    have e4 : (q : Int) % 256 = (q : Int) := by have := b.toNat_lt; omega
    generalize b.toNat = x at *
    obtain rfl : q = 6 := by omega
    clear hcell hl hq
    go_enter Try.func68, Try.ntmps68
    go_wp2
    go_ret2
    exact ⟨rfl, rfl⟩
  case other b r h4 h6 =>
    obtain ⟨g, off, rfl, hbl, hcell⟩ := h.2.2.at_ (by rw [bcs_length]; simp)
    have y0 : w.cell? ⟨g, off, none⟩ = some (.int .u8 (b.toNat : Int)) := hcell 0 _ rfl
    have n0 : 0 < n := by rw [← hl]; simp
    have i0 : (0 : Int) < (n : Int) := by omega
    have ne : ((n : Int) == 0) = false := by rw [beq_eq_false_iff_ne]; omega
    obtain ⟨q, hq⟩ : ∃ q : Nat, q = b.toNat / 16 := ⟨_, rfl⟩
    have e1 : (b.toNat : Int) / 16 = (q : Int) := by omega
    have e2 : IntKind.i64.wrap (q : Int) = (q : Int) := IntWalk.i64_in _ (by have := b.toNat_lt; omega)
    have e3 : IntKind.u8.wrap (q : Int) = (q : Int) := IntWalk.u8_in _ (by have := b.toNat_lt; omega)
    have e4 : (q : Int) % 256 = (q : Int) := by have := b.toNat_lt; omega
    generalize b.toNat = x at *
    have q4 : ((q : Int) == 4) = false := by rw [beq_eq_false_iff_ne]; omega
    have q6 : ((q : Int) == 6) = false := by rw [beq_eq_false_iff_ne]; omega
    clear hcell hl hq
    go_enter Try.func68, Try.ntmps68
    go_wp2
    go_ret2
    exact ⟨rfl, rfl⟩
set_option maxHeartbeats 4000000 in
set_option maxRecDepth 100000 in
theorem refSix (A : Option Addr) (n c : Nat) (l : List UInt8) (w : World) (h : Rb w A n c l) (N : Int) (B : Bool) (E : Int) (s : Sx l N B E) : Calls Try.prog 75 #[.slice A n c] w fun e w' => e = .returned (.int .i64 N) ∧ w = w' := by
  have hl := h.1
  cases s
  case none_ =>
    obtain rfl : n = 0 := hl.symm
    go_enter Try.func75, Try.ntmps75
    go_wp2
    go_ret
    exact ⟨rfl, rfl⟩
  case four b r h =>
    obtain ⟨g, off, rfl, hbl, hcell⟩ := h.2.2.at_ (by rw [bcs_length]; simp)
    have y0 : w.cell? ⟨g, off, none⟩ = some (.int .u8 (b.toNat : Int)) := hcell 0 _ rfl
    have n0 : 0 < n := by rw [← hl]; simp
    have i0 : (0 : Int) < (n : Int) := by omega
    have ne : ((n : Int) == 0) = false := by rw [beq_eq_false_iff_ne]; omega
    obtain ⟨q, hq⟩ : ∃ q : Nat, q = b.toNat / 16 := ⟨_, rfl⟩
    have e1 : (b.toNat : Int) / 16 = (q : Int) := by omega
    have e2 : IntKind.i64.wrap (q : Int) = (q : Int) := IntWalk.i64_in _ (by have := b.toNat_lt; omega)
    have e3 : IntKind.u8.wrap (q : Int) = (q : Int) := IntWalk.u8_in _ (by have := b.toNat_lt; omega)
    have e4 : (q : Int) % 256 = (q : Int) := by have := b.toNat_lt; omega
    generalize b.toNat = x at *
    obtain rfl : q = 4 := by omega
    clear hcell hl hq
    go_enter Try.func75, Try.ntmps75
    go_wp2
    go_ret
    exact ⟨rfl, rfl⟩
  case six b r h =>
    obtain ⟨g, off, rfl, hbl, hcell⟩ := h.2.2.at_ (by rw [bcs_length]; simp)
    have y0 : w.cell? ⟨g, off, none⟩ = some (.int .u8 (b.toNat : Int)) := hcell 0 _ rfl
    have n0 : 0 < n := by rw [← hl]; simp
    have i0 : (0 : Int) < (n : Int) := by omega
    have ne : ((n : Int) == 0) = false := by rw [beq_eq_false_iff_ne]; omega
    obtain ⟨q, hq⟩ : ∃ q : Nat, q = b.toNat / 16 := ⟨_, rfl⟩
    have e1 : (b.toNat : Int) / 16 = (q : Int) := by omega
    have e2 : IntKind.i64.wrap (q : Int) = (q : Int) := IntWalk.i64_in _ (by have := b.toNat_lt; omega)
    have e3 : IntKind.u8.wrap (q : Int) = (q : Int) := IntWalk.u8_in _ (by have := b.toNat_lt; omega)
    have e4 : (q : Int) % 256 = (q : Int) := by have := b.toNat_lt; omega
    generalize b.toNat = x at *
    obtain rfl : q = 6 := by omega
    clear hcell hl hq
    go_enter Try.func75, Try.ntmps75
    go_wp2
    go_ret
    exact ⟨rfl, rfl⟩
  case other b r h4 h6 =>
    obtain ⟨g, off, rfl, hbl, hcell⟩ := h.2.2.at_ (by rw [bcs_length]; simp)
    have y0 : w.cell? ⟨g, off, none⟩ = some (.int .u8 (b.toNat : Int)) := hcell 0 _ rfl
    have n0 : 0 < n := by rw [← hl]; simp
    have i0 : (0 : Int) < (n : Int) := by omega
    have ne : ((n : Int) == 0) = false := by rw [beq_eq_false_iff_ne]; omega
    obtain ⟨q, hq⟩ : ∃ q : Nat, q = b.toNat / 16 := ⟨_, rfl⟩
    have e1 : (b.toNat : Int) / 16 = (q : Int) := by omega
    have e2 : IntKind.i64.wrap (q : Int) = (q : Int) := IntWalk.i64_in _ (by have := b.toNat_lt; omega)
    have e3 : IntKind.u8.wrap (q : Int) = (q : Int) := IntWalk.u8_in _ (by have := b.toNat_lt; omega)
    have e4 : (q : Int) % 256 = (q : Int) := by have := b.toNat_lt; omega
    generalize b.toNat = x at *
    have q4 : ((q : Int) == 4) = false := by rw [beq_eq_false_iff_ne]; omega
    have q6 : ((q : Int) == 6) = false := by rw [beq_eq_false_iff_ne]; omega
    clear hcell hl hq
    go_enter Try.func75, Try.ntmps75
    go_wp2
    go_ret
    exact ⟨rfl, rfl⟩
end Go.Proofs.Ytfmkndemkpecpaa

/- packet.open of any bytes (chapter 28). -/
namespace Go.Proofs.Ytfmkndemkpecpaa
open Go.RowKit
set_option linter.unusedVariables false
set_option linter.unusedSimpArgs false
attribute [local go_sem ↓] sliced_cut

attribute [local go_sem] cutA_zero

theorem Chg.wide {D D' : Nat → Prop} {w w' : World} (h : Chg D w w') (hd : ∀ b, D b → D' b) : Chg D' w w' := ⟨h.os, h.tape, h.output, h.size, fun b hb hn => h.block b hb (fun hD => hn (hd b hD))⟩
theorem one_app {a b : List Value} (ha : ∀ u ∈ a, u.oneCell' = true) (hb : ∀ u ∈ b, u.oneCell' = true) : ∀ u ∈ a ++ b, u.oneCell' = true := fun u hu => by
  rcases List.mem_append.1 hu with h | h
  · exact ha u h
  · exact hb u h
/-- the head of what a packet is -/
def fhC (si st : Bool) (tl : Nat) (s6 : Bool) (sh sl : Nat) (d6 : Bool) (dh dl sp dp pr : Nat) : List Value := [.bool si, .bool st, .int .u8 (tl : Int), .bool s6, .int .u64 (sh : Int), .int .u64 (sl : Int), .bool d6, .int .u64 (dh : Int), .int .u64 (dl : Int), .int .u16 (sp : Int), .int .u16 (dp : Int), .int .u8 (pr : Int)]
theorem fhC_one (si st : Bool) (tl : Nat) (s6 : Bool) (sh sl : Nat) (d6 : Bool) (dh dl sp dp pr : Nat) : ∀ u ∈ fhC si st tl s6 sh sl d6 dh dl sp dp pr, u.oneCell' = true := by
  intro u hu
  simp only [fhC, List.mem_cons, List.not_mem_nil, or_false] at hu
  rcases hu with rfl | rfl | rfl | rfl | rfl | rfl | rfl | rfl | rfl | rfl | rfl | rfl <;> rfl
/-- a segment -/
def tcC (x0 x1 x2 x3 x4 x5 x6 x7 : Nat) (A1 : Option Addr) (n1 c1 : Nat) (A2 : Option Addr) (n2 c2 : Nat) : List Value := [.int .u16 (x0 : Int), .int .u16 (x1 : Int), .int .u32 (x2 : Int), .int .u32 (x3 : Int), .int .u8 (x4 : Int), .int .u16 (x5 : Int), .int .u16 (x6 : Int), .int .u16 (x7 : Int), .slice A1 n1 c1, .slice A2 n2 c2]
theorem tcC_one (x0 x1 x2 x3 x4 x5 x6 x7 : Nat) (A1 : Option Addr) (n1 c1 : Nat) (A2 : Option Addr) (n2 c2 : Nat) : ∀ u ∈ tcC x0 x1 x2 x3 x4 x5 x6 x7 A1 n1 c1 A2 n2 c2, u.oneCell' = true := by
  intro u hu
  simp only [tcC, List.mem_cons, List.not_mem_nil, or_false] at hu
  rcases hu with rfl | rfl | rfl | rfl | rfl | rfl | rfl | rfl | rfl | rfl <;> rfl
/-- what a packet is -/
def inPk (F T U M : List Value) : List Value := F ++ T ++ U ++ M
/-- what open gives -/
def hdC (F T U M : List Value) (fr : Bool) (A : Option Addr) (n k : Nat) : List Value := F ++ T ++ U ++ M ++ [.bool fr, .slice A n k]
theorem inPk_one {F T U M : List Value} (hF : ∀ u ∈ F, u.oneCell' = true) (hT : ∀ u ∈ T, u.oneCell' = true) (hU : ∀ u ∈ U, u.oneCell' = true) (hM : ∀ u ∈ M, u.oneCell' = true) : ∀ u ∈ inPk F T U M, u.oneCell' = true := one_app (one_app (one_app hF hT) hU) hM
theorem hdC_one {F T U M : List Value} (hF : ∀ u ∈ F, u.oneCell' = true) (hT : ∀ u ∈ T, u.oneCell' = true) (hU : ∀ u ∈ U, u.oneCell' = true) (hM : ∀ u ∈ M, u.oneCell' = true) (fr : Bool) (A : Option Addr) (n k : Nat) : ∀ u ∈ hdC F T U M fr A n k, u.oneCell' = true := one_app (inPk_one hF hT hU hM) (by
  intro u hu
  simp only [List.mem_cons, List.not_mem_nil, or_false] at hu
  rcases hu with rfl | rfl <;> rfl)
theorem szHD_ {cs : List Value} (h : cs.length = 33) : (Try.prog.info? 225).map (·.size) = some cs.length := by rw [h]; kernel_rfl
theorem szIN_ {cs : List Value} (h : cs.length = 31) : (Try.prog.info? 53).map (·.size) = some cs.length := by rw [h]; kernel_rfl
/-- a header, an error; the load lies in a new block -/
def RetHp (w : World) (F : List Value) (fr : Bool) (load : List UInt8) (E : Int) (e : Ending) (w' : World) : Prop := ∃ A n k bs d, e = .returned (.tuple #[.agg (hdC (F) (tcC 0 0 0 0 0 0 0 0 none 0 0 none 0 0) (dgX 0 0 0 none 0 0) (msgC 0 0 0 0 none 0 0) fr A n k).toArray, .int .i64 E]) ∧ w' = plus w bs d ∧ Rb (plus w bs d) A n k load ∧ ∀ a, A = some a → w.heap.size ≤ a.block
theorem RetHp.mk {w w' : World} {F : List Value} {fr : Bool} {load : List UInt8} {E : Int} {A : Option Addr} {n k : Nat} (h : Rb w' A n k load) (hf : ∀ a, A = some a → w.heap.size ≤ a.block) (hb : Below w.heap.size w w') : RetHp w F fr load E (.returned (.tuple #[.agg (hdC (F) (tcC 0 0 0 0 0 0 0 0 none 0 0 none 0 0) (dgX 0 0 0 none 0 0) (msgC 0 0 0 0 none 0 0) fr A n k).toArray, .int .i64 E])) w' := by
  obtain ⟨bs, d, rfl⟩ := plus_of hb
  exact ⟨A, n, k, bs, d, rfl, rfl, h, hf⟩
def OpR (w : World) (F : List Value) (fr : Bool) (load : List UInt8) (E : Int) (e : Ending) (w' : World) : Prop := if E = 0 then RetHp w F fr load 0 e w' else RetHp w (fhC false false 0 false 0 0 false 0 0 0 0 0) false [] E e w'
theorem OpR.ok {w : World} {F : List Value} {fr : Bool} {load : List UInt8} {e : Ending} {w' : World} (h : RetHp w F fr load 0 e w') : OpR w F fr load 0 e w' := by unfold OpR; rw [if_pos rfl]; exact h
theorem OpR.err {w : World} {F : List Value} {fr : Bool} {load : List UInt8} {E : Int} {e : Ending} {w' : World} (hE : ¬ E = 0) (h : RetHp w (fhC false false 0 false 0 0 false 0 0 0 0 0) false [] E e w') : OpR w F fr load E e w' := by unfold OpR; rw [if_neg hE]; exact h
set_option maxHeartbeats 4000000 in
set_option maxRecDepth 100000 in
theorem open_err (A : Option Addr) (n c : Nat) (w : World) (B : Bool) (E : Int) (F : List Value) (fr : Bool) (load : List UInt8) (hE : (E != 0) = true) (HS : ∀ w', Below w.heap.size w w' → Calls Try.prog 68 #[.slice A n c] w' fun e w2 => e = .returned (.tuple #[.bool B, .int .i64 E]) ∧ w' = w2) : Calls Try.prog 114 #[.slice A n c] w (OpR w F fr load E) := by
  replace HS := Lib.hid HS
  have hE2 : (E == 0) = false := by rw [beq_eq_false_iff_ne]; exact bne_iff_ne.1 hE
  obtain ⟨dh_, u1, u2⟩ := rowHd
  have b3 : Bk (w.alloc (.cells #[.bool false, .bool false, .int .u8 0, .bool false, .int .u64 0, .int .u64 0, .bool false, .int .u64 0, .int .u64 0, .int .u16 0, .int .u16 0, .int .u8 0, .int .u16 0, .int .u16 0, .int .u32 0, .int .u32 0, .int .u8 0, .int .u16 0, .int .u16 0, .int .u16 0, .slice none 0 0, .slice none 0 0, .int .u16 0, .int .u16 0, .int .u16 0, .slice none 0 0, .int .u8 0, .int .u8 0, .int .u16 0, .int .u32 0, .slice none 0 0, .bool false, .slice none 0 0] 225)) w.heap.size 225 (hdC (fhC false false 0 false 0 0 false 0 0 0 0 0) (tcC 0 0 0 0 0 0 0 0 none 0 0 none 0 0) (dgX 0 0 0 none 0 0) (msgC 0 0 0 0 none 0 0) false none 0 0) := Bk.new w 225 #[.bool false, .bool false, .int .u8 0, .bool false, .int .u64 0, .int .u64 0, .bool false, .int .u64 0, .int .u64 0, .int .u16 0, .int .u16 0, .int .u8 0, .int .u16 0, .int .u16 0, .int .u32 0, .int .u32 0, .int .u8 0, .int .u16 0, .int .u16 0, .int .u16 0, .slice none 0 0, .slice none 0 0, .int .u16 0, .int .u16 0, .int .u16 0, .slice none 0 0, .int .u8 0, .int .u8 0, .int .u16 0, .int .u32 0, .slice none 0 0, .bool false, .slice none 0 0]
  have be : Below w.heap.size w (w.alloc (.cells #[.bool false, .bool false, .int .u8 0, .bool false, .int .u64 0, .int .u64 0, .bool false, .int .u64 0, .int .u64 0, .int .u16 0, .int .u16 0, .int .u8 0, .int .u16 0, .int .u16 0, .int .u32 0, .int .u32 0, .int .u8 0, .int .u16 0, .int .u16 0, .int .u16 0, .slice none 0 0, .slice none 0 0, .int .u16 0, .int .u16 0, .int .u16 0, .slice none 0 0, .int .u8 0, .int .u8 0, .int .u16 0, .int .u32 0, .slice none 0 0, .bool false, .slice none 0 0] 225)) := Below.allocS (Below.refl _ _) _
  have zV : w.heap.size + 1 ≤ (w.alloc (.cells #[.bool false, .bool false, .int .u8 0, .bool false, .int .u64 0, .int .u64 0, .bool false, .int .u64 0, .int .u64 0, .int .u16 0, .int .u16 0, .int .u8 0, .int .u16 0, .int .u16 0, .int .u32 0, .int .u32 0, .int .u8 0, .int .u16 0, .int .u16 0, .int .u16 0, .slice none 0 0, .slice none 0 0, .int .u16 0, .int .u16 0, .int .u16 0, .slice none 0 0, .int .u8 0, .int .u8 0, .int .u16 0, .int .u32 0, .slice none 0 0, .bool false, .slice none 0 0] 225)).heap.size := by simp
  go_enter Try.func114, Try.ntmps114
  go_upto_region 1 with (fail)
  generalize w.alloc (.cells #[.bool false, .bool false, .int .u8 0, .bool false, .int .u64 0, .int .u64 0, .bool false, .int .u64 0, .int .u64 0, .int .u16 0, .int .u16 0, .int .u8 0, .int .u16 0, .int .u16 0, .int .u32 0, .int .u32 0, .int .u8 0, .int .u16 0, .int .u16 0, .int .u16 0, .slice none 0 0, .slice none 0 0, .int .u16 0, .int .u16 0, .int .u16 0, .slice none 0 0, .int .u8 0, .int .u8 0, .int .u16 0, .int .u32 0, .slice none 0 0, .bool false, .slice none 0 0] 225) = V at *
  go_wp2_with fail
  refine (HS.out _ be).mono ?_
  rintro e w1 ⟨rfl, rfl⟩
  go_upto_region 3 with (fail)
  refine wp_region_lit ?_
  iterate 2 (refine wpList_plain rfl (fun K hK => ?_); go_simp; with_reducible refine hK _ _ ?_; clear hK K)
  refine wpList_stA 225 (.tmp 2) (.tmp 19) rfl rfl (hdC (fhC false false 0 false 0 0 false 0 0 0 0 0) (tcC 0 0 0 0 0 0 0 0 none 0 0 none 0 0) (dgX 0 0 0 none 0 0) (msgC 0 0 0 0 none 0 0) false none 0 0) (hdC (fhC false false 0 false 0 0 false 0 0 0 0 0) (tcC 0 0 0 0 0 0 0 0 none 0 0 none 0 0) (dgX 0 0 0 none 0 0) (msgC 0 0 0 0 none 0 0) false none 0 0) rfl (hdC_one (fhC_one _ _ _ _ _ _ _ _ _ _ _ _ ) (tcC_one _ _ _ _ _ _ _ _ _ _ _ _ _ _ ) (dgX_one _ _ _ _ _ _) (msgC_one _ _ _ _ _ _ _) _ _ _ _) rfl rfl b3 (szHD_ (by rfl)) ?_
  intro W9 h9 g9
  simp only [Act.put, List.setIfInBounds_toArray, List.set_cons_zero, List.set_cons_succ]
  go_wp2
  refine bodyPost_agg2 Try.results114 rfl rfl h9.range u1 u2 (szHD_ (by rfl)) rfl ?_
  exact OpR.err (bne_iff_ne.1 hE) (RetHp.mk Rb.nil_ (fun a ha => by cases ha) (below_grown be g9 (by omega)))
set_option maxHeartbeats 4000000 in
set_option maxRecDepth 100000 in
theorem open_6 (A : Option Addr) (n c : Nat) (w : World) (cl lb ln nx ht : Nat) (s6 : Bool) (sh sl dh dl : Nat) (load : List UInt8) (E1 : Int) (HS : ∀ w', Below w.heap.size w w' → Calls Try.prog 68 #[.slice A n c] w' fun e w2 => e = .returned (.tuple #[.bool true, .int .i64 0]) ∧ w' = w2) (HP : ∀ w', Below w.heap.size w w' → Calls Try.prog 69 #[.slice A n c] w' (RetP6 w' cl lb ln nx ht s6 sh sl dh dl load E1)) : Calls Try.prog 114 #[.slice A n c] w (OpR w (fhC true true ht s6 sh sl s6 dh dl 0 0 nx) false load E1) := by
  obtain ⟨dp_, p1, p2⟩ := rowH6
  obtain ⟨dv_, v1, v2⟩ := rowAd
  replace HS := Lib.hid HS
  replace HP := Lib.hid HP
  obtain ⟨dh_, u1, u2⟩ := rowHd
  have b3 : Bk (w.alloc (.cells #[.bool false, .bool false, .int .u8 0, .bool false, .int .u64 0, .int .u64 0, .bool false, .int .u64 0, .int .u64 0, .int .u16 0, .int .u16 0, .int .u8 0, .int .u16 0, .int .u16 0, .int .u32 0, .int .u32 0, .int .u8 0, .int .u16 0, .int .u16 0, .int .u16 0, .slice none 0 0, .slice none 0 0, .int .u16 0, .int .u16 0, .int .u16 0, .slice none 0 0, .int .u8 0, .int .u8 0, .int .u16 0, .int .u32 0, .slice none 0 0, .bool false, .slice none 0 0] 225)) w.heap.size 225 (hdC (fhC false false 0 false 0 0 false 0 0 0 0 0) (tcC 0 0 0 0 0 0 0 0 none 0 0 none 0 0) (dgX 0 0 0 none 0 0) (msgC 0 0 0 0 none 0 0) false none 0 0) := Bk.new w 225 #[.bool false, .bool false, .int .u8 0, .bool false, .int .u64 0, .int .u64 0, .bool false, .int .u64 0, .int .u64 0, .int .u16 0, .int .u16 0, .int .u8 0, .int .u16 0, .int .u16 0, .int .u32 0, .int .u32 0, .int .u8 0, .int .u16 0, .int .u16 0, .int .u16 0, .slice none 0 0, .slice none 0 0, .int .u16 0, .int .u16 0, .int .u16 0, .slice none 0 0, .int .u8 0, .int .u8 0, .int .u16 0, .int .u32 0, .slice none 0 0, .bool false, .slice none 0 0]
  have be : Below w.heap.size w (w.alloc (.cells #[.bool false, .bool false, .int .u8 0, .bool false, .int .u64 0, .int .u64 0, .bool false, .int .u64 0, .int .u64 0, .int .u16 0, .int .u16 0, .int .u8 0, .int .u16 0, .int .u16 0, .int .u32 0, .int .u32 0, .int .u8 0, .int .u16 0, .int .u16 0, .int .u16 0, .slice none 0 0, .slice none 0 0, .int .u16 0, .int .u16 0, .int .u16 0, .slice none 0 0, .int .u8 0, .int .u8 0, .int .u16 0, .int .u32 0, .slice none 0 0, .bool false, .slice none 0 0] 225)) := Below.allocS (Below.refl _ _) _
  have zV : w.heap.size + 1 ≤ (w.alloc (.cells #[.bool false, .bool false, .int .u8 0, .bool false, .int .u64 0, .int .u64 0, .bool false, .int .u64 0, .int .u64 0, .int .u16 0, .int .u16 0, .int .u8 0, .int .u16 0, .int .u16 0, .int .u32 0, .int .u32 0, .int .u8 0, .int .u16 0, .int .u16 0, .int .u16 0, .slice none 0 0, .slice none 0 0, .int .u16 0, .int .u16 0, .int .u16 0, .slice none 0 0, .int .u8 0, .int .u8 0, .int .u16 0, .int .u32 0, .slice none 0 0, .bool false, .slice none 0 0] 225)).heap.size := by simp
  go_enter Try.func114, Try.ntmps114
  go_upto_region 1 with (fail)
  generalize w.alloc (.cells #[.bool false, .bool false, .int .u8 0, .bool false, .int .u64 0, .int .u64 0, .bool false, .int .u64 0, .int .u64 0, .int .u16 0, .int .u16 0, .int .u8 0, .int .u16 0, .int .u16 0, .int .u32 0, .int .u32 0, .int .u8 0, .int .u16 0, .int .u16 0, .int .u16 0, .slice none 0 0, .slice none 0 0, .int .u16 0, .int .u16 0, .int .u16 0, .slice none 0 0, .int .u8 0, .int .u8 0, .int .u16 0, .int .u32 0, .slice none 0 0, .bool false, .slice none 0 0] 225) = V at *
  go_wp2_with fail
  refine (HS.out _ be).mono ?_
  rintro e w1 ⟨rfl, rfl⟩
  go_upto_region 6 with (fail)
  have hX : Bk (V.alloc (.cells #[.bool false, .bool false, .int .u8 0, .bool false, .int .u64 0, .int .u64 0, .bool false, .int .u64 0, .int .u64 0, .int .u16 0, .int .u16 0, .int .u8 0, .int .u16 0, .int .u16 0, .int .u32 0, .int .u32 0, .int .u8 0, .int .u16 0, .int .u16 0, .int .u16 0, .slice none 0 0, .slice none 0 0, .int .u16 0, .int .u16 0, .int .u16 0, .slice none 0 0, .int .u8 0, .int .u8 0, .int .u16 0, .int .u32 0, .slice none 0 0, .bool false, .slice none 0 0] 225)) V.heap.size 225 (hdC (fhC false false 0 false 0 0 false 0 0 0 0 0) (tcC 0 0 0 0 0 0 0 0 none 0 0 none 0 0) (dgX 0 0 0 none 0 0) (msgC 0 0 0 0 none 0 0) false none 0 0) := Bk.new V 225 #[.bool false, .bool false, .int .u8 0, .bool false, .int .u64 0, .int .u64 0, .bool false, .int .u64 0, .int .u64 0, .int .u16 0, .int .u16 0, .int .u8 0, .int .u16 0, .int .u16 0, .int .u32 0, .int .u32 0, .int .u8 0, .int .u16 0, .int .u16 0, .int .u16 0, .slice none 0 0, .slice none 0 0, .int .u16 0, .int .u16 0, .int .u16 0, .slice none 0 0, .int .u8 0, .int .u8 0, .int .u16 0, .int .u32 0, .slice none 0 0, .bool false, .slice none 0 0]
  have zV2 : V.heap.size + 1 ≤ (V.alloc (.cells #[.bool false, .bool false, .int .u8 0, .bool false, .int .u64 0, .int .u64 0, .bool false, .int .u64 0, .int .u64 0, .int .u16 0, .int .u16 0, .int .u8 0, .int .u16 0, .int .u16 0, .int .u32 0, .int .u32 0, .int .u8 0, .int .u16 0, .int .u16 0, .int .u16 0, .slice none 0 0, .slice none 0 0, .int .u16 0, .int .u16 0, .int .u16 0, .slice none 0 0, .int .u8 0, .int .u8 0, .int .u16 0, .int .u32 0, .slice none 0 0, .bool false, .slice none 0 0] 225)).heap.size := by simp
  replace b3 := b3.alloc (.cells #[.bool false, .bool false, .int .u8 0, .bool false, .int .u64 0, .int .u64 0, .bool false, .int .u64 0, .int .u64 0, .int .u16 0, .int .u16 0, .int .u8 0, .int .u16 0, .int .u16 0, .int .u32 0, .int .u32 0, .int .u8 0, .int .u16 0, .int .u16 0, .int .u16 0, .slice none 0 0, .slice none 0 0, .int .u16 0, .int .u16 0, .int .u16 0, .slice none 0 0, .int .u8 0, .int .u8 0, .int .u16 0, .int .u32 0, .slice none 0 0, .bool false, .slice none 0 0] 225)
  replace be := Below.allocS be (.cells #[.bool false, .bool false, .int .u8 0, .bool false, .int .u64 0, .int .u64 0, .bool false, .int .u64 0, .int .u64 0, .int .u16 0, .int .u16 0, .int .u8 0, .int .u16 0, .int .u16 0, .int .u32 0, .int .u32 0, .int .u8 0, .int .u16 0, .int .u16 0, .int .u16 0, .slice none 0 0, .slice none 0 0, .int .u16 0, .int .u16 0, .int .u16 0, .slice none 0 0, .int .u8 0, .int .u8 0, .int .u16 0, .int .u32 0, .slice none 0 0, .bool false, .slice none 0 0] 225)
  generalize V.alloc (.cells #[.bool false, .bool false, .int .u8 0, .bool false, .int .u64 0, .int .u64 0, .bool false, .int .u64 0, .int .u64 0, .int .u16 0, .int .u16 0, .int .u8 0, .int .u16 0, .int .u16 0, .int .u32 0, .int .u32 0, .int .u8 0, .int .u16 0, .int .u16 0, .int .u16 0, .slice none 0 0, .slice none 0 0, .int .u16 0, .int .u16 0, .int .u16 0, .slice none 0 0, .int .u8 0, .int .u8 0, .int .u16 0, .int .u32 0, .slice none 0 0, .bool false, .slice none 0 0] 225) = V2 at *
  generalize V.heap.size = gx at *
  go_wp2_with fail
  refine (HP.out _ be).mono ?_
  rintro e w1 ⟨A1, n1, k1, bs1, d1, rfl, rfl, hl, hf⟩
  go_upto_region 7 with (refine at_op (.store 171 (.tmp 7) (.tmp 25)) rfl ?_; refine wpList_stA (t := 171) 171 (.tmp 7) (.tmp 25) rfl rfl (h6C cl lb (ln : Int) nx ht s6 sh sl s6 dh dl) (h6C 0 0 0 0 0 false 0 0 false 0 0) rfl (h6C_one _ _ _ _ _ _ _ _ _ _ _) rfl rfl ?_ (szH6 _ _ _ _ _ _ _ _ _ _ _) ?_; (· refine Bk.newK _ _ _ ?_ rfl; simp [size_plus]); intro W8 hH gr8)
  have z0 := be.size
  have b8 := below_grown (Below.allocS (below_plus V2 bs1 d1) _) gr8 (by omega)
  replace be := be.trans (b8.mono z0)
  replace b3 := b3.later b8
  replace hX := hX.later b8
  replace hl := hl.later (below_grown (Below.allocS (Below.refl _ _) _) gr8 (by simp [size_plus]))
  have zh : gx < V2.heap.size + bs1.length := by omega
  clear b8 gr8
  generalize V2.heap.size + bs1.length = gh at *
  have nH : ¬ (fun b => b = w.heap.size ∨ b = gx) gh := fun h => by have h' : gh = w.heap.size ∨ gh = gx := h; omega
  have nR : ¬ (fun b => b = gx) w.heap.size := fun h => by have h' : w.heap.size = gx := h; omega
  have nH1 : ¬ (fun b => b = gx) gh := fun h => by have h' : gh = gx := h; omega
  have hC : Chg (fun b => b = gx) W8 W8 := Chg.refl _
  have nL : ∀ a, A1 = some a → ¬ (fun b => b = w.heap.size ∨ b = gx) a.block := fun a ha h => by have h' : a.block = w.heap.size ∨ a.block = gx := h; have := hf a ha; omega
  by_cases hE : E1 = 0
  case neg =>
    have hE1 : (E1 != 0) = true := by rw [bne_iff_ne]; exact hE
    have hE2 : (E1 == 0) = false := by rw [beq_eq_false_iff_ne]; exact hE
    go_upto_region 8 with (fail)
    refine wp_region_lit ?_
    iterate 2 (refine wpList_plain rfl (fun K hK => ?_); go_simp; with_reducible refine hK _ _ ?_; clear hK K)
    refine wpList_stA 225 (.tmp 2) (.tmp 30) rfl rfl (hdC (fhC false false 0 false 0 0 false 0 0 0 0 0) (tcC 0 0 0 0 0 0 0 0 none 0 0 none 0 0) (dgX 0 0 0 none 0 0) (msgC 0 0 0 0 none 0 0) false none 0 0) (hdC (fhC false false 0 false 0 0 false 0 0 0 0 0) (tcC 0 0 0 0 0 0 0 0 none 0 0 none 0 0) (dgX 0 0 0 none 0 0) (msgC 0 0 0 0 none 0 0) false none 0 0) rfl (hdC_one (fhC_one _ _ _ _ _ _ _ _ _ _ _ _ ) (tcC_one _ _ _ _ _ _ _ _ _ _ _ _ _ _ ) (dgX_one _ _ _ _ _ _) (msgC_one _ _ _ _ _ _ _) _ _ _ _) rfl rfl b3 (szHD_ (by rfl)) ?_
    intro W9 h9 g9
    simp only [Act.put, List.setIfInBounds_toArray, List.set_cons_zero, List.set_cons_succ]
    go_wp2
    refine bodyPost_agg2 Try.results114 rfl rfl h9.range u1 u2 (szHD_ (by rfl)) rfl ?_
    exact OpR.err hE (RetHp.mk Rb.nil_ (fun a ha => by cases ha) (below_grown be g9 (by omega)))
  subst hE
  go_upto_region 9 with (fail)
  refine wp_region_lit ?_
  iterate 2 (refine wpList_plain rfl (fun K hK => ?_); go_simp; with_reducible refine hK _ _ ?_; clear hK K)
  refine wpList_st1 22 (.tmp 33) (.tmp 32) rfl rfl (by rfl) (by rfl) hX (Nat.le_of_ble_eq_true rfl) rfl (by kernel_rfl) ?_
  intro W1 hX' gr'
  replace hX : Bk W1 gx 225 (hdC (fhC false false 0 false 0 0 false 0 0 0 0 0) (tcC 0 0 0 0 0 0 0 0 none 0 0 none 0 0) (dgX 0 0 0 none 0 0) (msgC 0 0 0 0 none 0 0) false A1 n1 k1) := hX'
  replace hC := hC.trans (Chg.one gr' rfl)
  clear hX' gr'
  simp only [Act.put, List.setIfInBounds_toArray, List.set_cons_zero, List.set_cons_succ]
  go_upto_region 10 with (fail)
  refine wp_region_lit ?_
  refine wpList_plain rfl (fun K hK => ?_); go_simp; with_reducible refine hK _ _ ?_; clear hK K
  refine wpList_ld1 (t := 171) (cs := h6C cl lb (ln : Int) nx ht s6 sh sl s6 dh dl) 5 (.tmp 34) rfl (by rfl) rfl ((hH.chg hC nH1)) rfl Try.underlying5 rfl ?_
  iterate 2 (refine wpList_plain rfl (fun K hK => ?_); go_simp; with_reducible refine hK _ _ ?_; clear hK K)
  refine wpList_stM 53 (.tmp 37) (.tmp 36) rfl rfl (inPk (fhC true true ht false 0 0 false 0 0 0 0 0) (tcC 0 0 0 0 0 0 0 0 none 0 0 none 0 0) (dgX 0 0 0 none 0 0) (msgC 0 0 0 0 none 0 0)) (hdC (fhC false false 0 false 0 0 false 0 0 0 0 0) (tcC 0 0 0 0 0 0 0 0 none 0 0 none 0 0) (dgX 0 0 0 none 0 0) (msgC 0 0 0 0 none 0 0) false A1 n1 k1) (Nat.le_of_ble_eq_true rfl) (inPk_one (fhC_one _ _ _ _ _ _ _ _ _ _ _ _ ) (tcC_one _ _ _ _ _ _ _ _ _ _ _ _ _ _ ) (dgX_one _ _ _ _ _ _) (msgC_one _ _ _ _ _ _ _)) (by rfl) (by rfl) hX (szIN_ (by rfl)) ?_
  intro W4 hX' gr'
  replace hX : Bk W4 gx 225 (hdC (fhC true true ht false 0 0 false 0 0 0 0 0) (tcC 0 0 0 0 0 0 0 0 none 0 0 none 0 0) (dgX 0 0 0 none 0 0) (msgC 0 0 0 0 none 0 0) false A1 n1 k1) := hX'
  replace hC := hC.trans (Chg.one gr' rfl)
  clear hX' gr'
  simp only [Act.put, List.setIfInBounds_toArray, List.set_cons_zero, List.set_cons_succ]
  go_upto_region 11 with (fail)
  refine wp_region_lit ?_
  refine wpList_plain rfl (fun K hK => ?_); go_simp; with_reducible refine hK _ _ ?_; clear hK K
  refine wpList_ldA (t := 171) (cs := h6C cl lb (ln : Int) nx ht s6 sh sl s6 dh dl) 26 (.tmp 38) rfl rfl ([.bool s6, .int .u64 (sh : Int), .int .u64 (sl : Int)]) rfl ((hH.chg hC nH1)) rfl v1 v2 (szAd _ _ _) ?_
  refine wpList_plain rfl (fun K hK => ?_); go_simp; with_reducible refine hK _ _ ?_; clear hK K
  refine wpList_ldA (t := 171) (cs := h6C cl lb (ln : Int) nx ht s6 sh sl s6 dh dl) 26 (.tmp 40) rfl rfl ([.bool s6, .int .u64 (dh : Int), .int .u64 (dl : Int)]) rfl ((hH.chg hC nH1)) rfl v1 v2 (szAd _ _ _) ?_
  refine wpList_plain rfl (fun K hK => ?_); go_simp; with_reducible refine hK _ _ ?_; clear hK K
  refine wpList_ld1 (t := 171) (cs := h6C cl lb (ln : Int) nx ht s6 sh sl s6 dh dl) 5 (.tmp 42) rfl (by rfl) rfl ((hH.chg hC nH1)) rfl Try.underlying5 rfl ?_
  iterate 3 (refine wpList_plain rfl (fun K hK => ?_); go_simp; with_reducible refine hK _ _ ?_; clear hK K)
  refine wpList_stM 29 (.tmp 46) (.tmp 44) rfl rfl (flC s6 sh sl s6 dh dl 0 0 nx) (hdC (fhC true true ht false 0 0 false 0 0 0 0 0) (tcC 0 0 0 0 0 0 0 0 none 0 0 none 0 0) (dgX 0 0 0 none 0 0) (msgC 0 0 0 0 none 0 0) false A1 n1 k1) (Nat.le_of_ble_eq_true rfl) (flC_one _ _ _ _ _ _ _ _ _ ) (by rfl) (by rfl) hX (szFl _ _ _ _ _ _ _ _ _ ) ?_
  intro W5 hX' gr'
  replace hX : Bk W5 gx 225 (hdC (fhC true true ht s6 sh sl s6 dh dl 0 0 nx) (tcC 0 0 0 0 0 0 0 0 none 0 0 none 0 0) (dgX 0 0 0 none 0 0) (msgC 0 0 0 0 none 0 0) false A1 n1 k1) := hX'
  replace hC := hC.trans (Chg.one gr' rfl)
  clear hX' gr'
  simp only [Act.put, List.setIfInBounds_toArray, List.set_cons_zero, List.set_cons_succ]
  go_upto_region 12 with (fail)
  refine wp_region_lit ?_
  refine wpList_ldA (t := 225) 225 (.tmp 6) rfl rfl (hdC (fhC true true ht s6 sh sl s6 dh dl 0 0 nx) (tcC 0 0 0 0 0 0 0 0 none 0 0 none 0 0) (dgX 0 0 0 none 0 0) (msgC 0 0 0 0 none 0 0) false A1 n1 k1) rfl (hX) (whole_ _) u1 u2 (szHD_ (by rfl)) ?_
  simp only [Act.put, List.setIfInBounds_toArray, List.set_cons_zero, List.set_cons_succ]
  refine wpList_stA 225 (.tmp 2) (.tmp 47) rfl rfl (hdC (fhC true true ht s6 sh sl s6 dh dl 0 0 nx) (tcC 0 0 0 0 0 0 0 0 none 0 0 none 0 0) (dgX 0 0 0 none 0 0) (msgC 0 0 0 0 none 0 0) false A1 n1 k1) (hdC (fhC false false 0 false 0 0 false 0 0 0 0 0) (tcC 0 0 0 0 0 0 0 0 none 0 0 none 0 0) (dgX 0 0 0 none 0 0) (msgC 0 0 0 0 none 0 0) false none 0 0) rfl (hdC_one (fhC_one _ _ _ _ _ _ _ _ _ _ _ _ ) (tcC_one _ _ _ _ _ _ _ _ _ _ _ _ _ _ ) (dgX_one _ _ _ _ _ _) (msgC_one _ _ _ _ _ _ _) _ _ _ _) rfl rfl (b3.chg hC nR) (szHD_ (by rfl)) ?_
  intro W9 h9 g9
  replace hC := (hC.wide (D' := fun b => b = w.heap.size ∨ b = gx) (fun b hb => .inr hb)).trans (Chg.one g9 (.inl rfl))
  simp only [Act.put, List.setIfInBounds_toArray, List.set_cons_zero, List.set_cons_succ]
  go_wp2
  refine bodyPost_agg2 Try.results114 rfl rfl h9.range u1 u2 (szHD_ (by rfl)) rfl ?_
  refine OpR.ok (RetHp.mk (hl.chg hC nL) (fun a ha => by have := hf a ha; omega) (be.trans (hC.below (B := w.heap.size) (fun b hb => ?_) be.size)))
  have hb' : b = w.heap.size ∨ b = gx := hb
  omega
set_option maxHeartbeats 4000000 in
set_option maxRecDepth 100000 in
theorem open_4 (A : Option Addr) (n c : Nat) (w : World) (ts ln id : Nat) (st mo : Bool) (fo tl pr sm sa da : Nat) (o load : List UInt8) (E1 : Int) (HS : ∀ w', Below w.heap.size w w' → Calls Try.prog 68 #[.slice A n c] w' fun e w2 => e = .returned (.tuple #[.bool false, .int .i64 0]) ∧ w' = w2) (HP : ∀ w', Below w.heap.size w w' → Calls Try.prog 72 #[.slice A n c] w' (RetPE w' ts ln id st mo fo tl pr sm sa da o load E1)) : Calls Try.prog 114 #[.slice A n c] w (OpR w (fhC false st tl false 0 sa false 0 da 0 0 pr) (mo || decide (0 < (fo : Int))) load E1) := by
  obtain ⟨dp_, p1, p2⟩ := rowH4
  obtain ⟨dv_, v1, v2⟩ := rowAd
  replace HS := Lib.hid HS
  replace HP := Lib.hid HP
  have HFR0 := fun A n k w => fragment4 ts (ln : Int) id st mo (fo : Int) tl pr sm false 0 sa false 0 da A n k w
  generalize (mo || decide (0 < (fo : Int))) = fr at *
  have HFR := Lib.hid HFR0
  clear HFR0
  obtain ⟨dh_, u1, u2⟩ := rowHd
  have b3 : Bk (w.alloc (.cells #[.bool false, .bool false, .int .u8 0, .bool false, .int .u64 0, .int .u64 0, .bool false, .int .u64 0, .int .u64 0, .int .u16 0, .int .u16 0, .int .u8 0, .int .u16 0, .int .u16 0, .int .u32 0, .int .u32 0, .int .u8 0, .int .u16 0, .int .u16 0, .int .u16 0, .slice none 0 0, .slice none 0 0, .int .u16 0, .int .u16 0, .int .u16 0, .slice none 0 0, .int .u8 0, .int .u8 0, .int .u16 0, .int .u32 0, .slice none 0 0, .bool false, .slice none 0 0] 225)) w.heap.size 225 (hdC (fhC false false 0 false 0 0 false 0 0 0 0 0) (tcC 0 0 0 0 0 0 0 0 none 0 0 none 0 0) (dgX 0 0 0 none 0 0) (msgC 0 0 0 0 none 0 0) false none 0 0) := Bk.new w 225 #[.bool false, .bool false, .int .u8 0, .bool false, .int .u64 0, .int .u64 0, .bool false, .int .u64 0, .int .u64 0, .int .u16 0, .int .u16 0, .int .u8 0, .int .u16 0, .int .u16 0, .int .u32 0, .int .u32 0, .int .u8 0, .int .u16 0, .int .u16 0, .int .u16 0, .slice none 0 0, .slice none 0 0, .int .u16 0, .int .u16 0, .int .u16 0, .slice none 0 0, .int .u8 0, .int .u8 0, .int .u16 0, .int .u32 0, .slice none 0 0, .bool false, .slice none 0 0]
  have be : Below w.heap.size w (w.alloc (.cells #[.bool false, .bool false, .int .u8 0, .bool false, .int .u64 0, .int .u64 0, .bool false, .int .u64 0, .int .u64 0, .int .u16 0, .int .u16 0, .int .u8 0, .int .u16 0, .int .u16 0, .int .u32 0, .int .u32 0, .int .u8 0, .int .u16 0, .int .u16 0, .int .u16 0, .slice none 0 0, .slice none 0 0, .int .u16 0, .int .u16 0, .int .u16 0, .slice none 0 0, .int .u8 0, .int .u8 0, .int .u16 0, .int .u32 0, .slice none 0 0, .bool false, .slice none 0 0] 225)) := Below.allocS (Below.refl _ _) _
  have zV : w.heap.size + 1 ≤ (w.alloc (.cells #[.bool false, .bool false, .int .u8 0, .bool false, .int .u64 0, .int .u64 0, .bool false, .int .u64 0, .int .u64 0, .int .u16 0, .int .u16 0, .int .u8 0, .int .u16 0, .int .u16 0, .int .u32 0, .int .u32 0, .int .u8 0, .int .u16 0, .int .u16 0, .int .u16 0, .slice none 0 0, .slice none 0 0, .int .u16 0, .int .u16 0, .int .u16 0, .slice none 0 0, .int .u8 0, .int .u8 0, .int .u16 0, .int .u32 0, .slice none 0 0, .bool false, .slice none 0 0] 225)).heap.size := by simp
  go_enter Try.func114, Try.ntmps114
  go_upto_region 1 with (fail)
  generalize w.alloc (.cells #[.bool false, .bool false, .int .u8 0, .bool false, .int .u64 0, .int .u64 0, .bool false, .int .u64 0, .int .u64 0, .int .u16 0, .int .u16 0, .int .u8 0, .int .u16 0, .int .u16 0, .int .u32 0, .int .u32 0, .int .u8 0, .int .u16 0, .int .u16 0, .int .u16 0, .slice none 0 0, .slice none 0 0, .int .u16 0, .int .u16 0, .int .u16 0, .slice none 0 0, .int .u8 0, .int .u8 0, .int .u16 0, .int .u32 0, .slice none 0 0, .bool false, .slice none 0 0] 225) = V at *
  go_wp2_with fail
  refine (HS.out _ be).mono ?_
  rintro e w1 ⟨rfl, rfl⟩
  go_upto_region 13 with (fail)
  have hX : Bk (V.alloc (.cells #[.bool false, .bool false, .int .u8 0, .bool false, .int .u64 0, .int .u64 0, .bool false, .int .u64 0, .int .u64 0, .int .u16 0, .int .u16 0, .int .u8 0, .int .u16 0, .int .u16 0, .int .u32 0, .int .u32 0, .int .u8 0, .int .u16 0, .int .u16 0, .int .u16 0, .slice none 0 0, .slice none 0 0, .int .u16 0, .int .u16 0, .int .u16 0, .slice none 0 0, .int .u8 0, .int .u8 0, .int .u16 0, .int .u32 0, .slice none 0 0, .bool false, .slice none 0 0] 225)) V.heap.size 225 (hdC (fhC false false 0 false 0 0 false 0 0 0 0 0) (tcC 0 0 0 0 0 0 0 0 none 0 0 none 0 0) (dgX 0 0 0 none 0 0) (msgC 0 0 0 0 none 0 0) false none 0 0) := Bk.new V 225 #[.bool false, .bool false, .int .u8 0, .bool false, .int .u64 0, .int .u64 0, .bool false, .int .u64 0, .int .u64 0, .int .u16 0, .int .u16 0, .int .u8 0, .int .u16 0, .int .u16 0, .int .u32 0, .int .u32 0, .int .u8 0, .int .u16 0, .int .u16 0, .int .u16 0, .slice none 0 0, .slice none 0 0, .int .u16 0, .int .u16 0, .int .u16 0, .slice none 0 0, .int .u8 0, .int .u8 0, .int .u16 0, .int .u32 0, .slice none 0 0, .bool false, .slice none 0 0]
  have zV2 : V.heap.size + 1 ≤ (V.alloc (.cells #[.bool false, .bool false, .int .u8 0, .bool false, .int .u64 0, .int .u64 0, .bool false, .int .u64 0, .int .u64 0, .int .u16 0, .int .u16 0, .int .u8 0, .int .u16 0, .int .u16 0, .int .u32 0, .int .u32 0, .int .u8 0, .int .u16 0, .int .u16 0, .int .u16 0, .slice none 0 0, .slice none 0 0, .int .u16 0, .int .u16 0, .int .u16 0, .slice none 0 0, .int .u8 0, .int .u8 0, .int .u16 0, .int .u32 0, .slice none 0 0, .bool false, .slice none 0 0] 225)).heap.size := by simp
  replace b3 := b3.alloc (.cells #[.bool false, .bool false, .int .u8 0, .bool false, .int .u64 0, .int .u64 0, .bool false, .int .u64 0, .int .u64 0, .int .u16 0, .int .u16 0, .int .u8 0, .int .u16 0, .int .u16 0, .int .u32 0, .int .u32 0, .int .u8 0, .int .u16 0, .int .u16 0, .int .u16 0, .slice none 0 0, .slice none 0 0, .int .u16 0, .int .u16 0, .int .u16 0, .slice none 0 0, .int .u8 0, .int .u8 0, .int .u16 0, .int .u32 0, .slice none 0 0, .bool false, .slice none 0 0] 225)
  replace be := Below.allocS be (.cells #[.bool false, .bool false, .int .u8 0, .bool false, .int .u64 0, .int .u64 0, .bool false, .int .u64 0, .int .u64 0, .int .u16 0, .int .u16 0, .int .u8 0, .int .u16 0, .int .u16 0, .int .u32 0, .int .u32 0, .int .u8 0, .int .u16 0, .int .u16 0, .int .u16 0, .slice none 0 0, .slice none 0 0, .int .u16 0, .int .u16 0, .int .u16 0, .slice none 0 0, .int .u8 0, .int .u8 0, .int .u16 0, .int .u32 0, .slice none 0 0, .bool false, .slice none 0 0] 225)
  generalize V.alloc (.cells #[.bool false, .bool false, .int .u8 0, .bool false, .int .u64 0, .int .u64 0, .bool false, .int .u64 0, .int .u64 0, .int .u16 0, .int .u16 0, .int .u8 0, .int .u16 0, .int .u16 0, .int .u32 0, .int .u32 0, .int .u8 0, .int .u16 0, .int .u16 0, .int .u16 0, .slice none 0 0, .slice none 0 0, .int .u16 0, .int .u16 0, .int .u16 0, .slice none 0 0, .int .u8 0, .int .u8 0, .int .u16 0, .int .u32 0, .slice none 0 0, .bool false, .slice none 0 0] 225) = V2 at *
  generalize V.heap.size = gx at *
  go_wp2_with fail
  refine (HP.out _ be).mono ?_
  rintro e w1 ⟨Ao, no, ko, A1, n1, k1, bs1, d1, rfl, rfl, -, hl, hf⟩
  go_upto_region 14 with (refine at_op (.store 140 (.tmp 10) (.tmp 51)) rfl ?_; refine wpList_stA (t := 140) 140 (.tmp 10) (.tmp 51) rfl rfl (h4C ts (ln : Int) id st mo (fo : Int) tl pr sm false 0 sa false 0 da Ao no ko) (h4C 0 0 0 false false 0 0 0 0 false 0 0 false 0 0 none 0 0) rfl (h4C_one _ _ _ _ _ _ _ _ _ _ _ _ _ _ _ _ _ _) rfl rfl ?_ (szH4 _ _ _ _ _ _ _ _ _ _ _ _ _ _ _ _ _ _) ?_; (· refine Bk.newK _ _ _ ?_ rfl; simp [size_plus]); intro W8 hH gr8)
  have z0 := be.size
  have b8 := below_grown (Below.allocS (below_plus V2 bs1 d1) _) gr8 (by omega)
  replace be := be.trans (b8.mono z0)
  replace b3 := b3.later b8
  replace hX := hX.later b8
  replace hl := hl.later (below_grown (Below.allocS (Below.refl _ _) _) gr8 (by simp [size_plus]))
  have zh : gx < V2.heap.size + bs1.length := by omega
  clear b8 gr8
  generalize V2.heap.size + bs1.length = gh at *
  have nH : ¬ (fun b => b = w.heap.size ∨ b = gx) gh := fun h => by have h' : gh = w.heap.size ∨ gh = gx := h; omega
  have nR : ¬ (fun b => b = gx) w.heap.size := fun h => by have h' : w.heap.size = gx := h; omega
  have nH1 : ¬ (fun b => b = gx) gh := fun h => by have h' : gh = gx := h; omega
  have hC : Chg (fun b => b = gx) W8 W8 := Chg.refl _
  have nL : ∀ a, A1 = some a → ¬ (fun b => b = w.heap.size ∨ b = gx) a.block := fun a ha h => by have h' : a.block = w.heap.size ∨ a.block = gx := h; have := hf a ha; omega
  by_cases hE : E1 = 0
  case neg =>
    have hE1 : (E1 != 0) = true := by rw [bne_iff_ne]; exact hE
    have hE2 : (E1 == 0) = false := by rw [beq_eq_false_iff_ne]; exact hE
    go_upto_region 15 with (fail)
    refine wp_region_lit ?_
    iterate 2 (refine wpList_plain rfl (fun K hK => ?_); go_simp; with_reducible refine hK _ _ ?_; clear hK K)
    refine wpList_stA 225 (.tmp 2) (.tmp 56) rfl rfl (hdC (fhC false false 0 false 0 0 false 0 0 0 0 0) (tcC 0 0 0 0 0 0 0 0 none 0 0 none 0 0) (dgX 0 0 0 none 0 0) (msgC 0 0 0 0 none 0 0) false none 0 0) (hdC (fhC false false 0 false 0 0 false 0 0 0 0 0) (tcC 0 0 0 0 0 0 0 0 none 0 0 none 0 0) (dgX 0 0 0 none 0 0) (msgC 0 0 0 0 none 0 0) false none 0 0) rfl (hdC_one (fhC_one _ _ _ _ _ _ _ _ _ _ _ _ ) (tcC_one _ _ _ _ _ _ _ _ _ _ _ _ _ _ ) (dgX_one _ _ _ _ _ _) (msgC_one _ _ _ _ _ _ _) _ _ _ _) rfl rfl b3 (szHD_ (by rfl)) ?_
    intro W9 h9 g9
    simp only [Act.put, List.setIfInBounds_toArray, List.set_cons_zero, List.set_cons_succ]
    go_wp2
    refine bodyPost_agg2 Try.results114 rfl rfl h9.range u1 u2 (szHD_ (by rfl)) rfl ?_
    exact OpR.err hE (RetHp.mk Rb.nil_ (fun a ha => by cases ha) (below_grown be g9 (by omega)))
  subst hE
  go_upto_region 16 with (fail)
  refine wp_region_lit ?_
  refine wpList_plain rfl (fun K hK => ?_); go_simp; with_reducible refine hK _ _ ?_; clear hK K
  refine wpList_ldA (t := 140) 140 (.tmp 10) rfl rfl (h4C ts (ln : Int) id st mo (fo : Int) tl pr sm false 0 sa false 0 da Ao no ko) rfl (hH) (whole_ _) p1 p2 (szH4 _ _ _ _ _ _ _ _ _ _ _ _ _ _ _ _ _ _) ?_
  refine wpList_plain rfl (fun K hK => ?_)
  go_simp
  refine (HFR.out _ _ _ _).mono ?_
  rintro e w1 ⟨bs2, d2, rfl, rfl⟩
  with_reducible refine hK _ _ ?_
  clear hK K
  replace hC := hC.trans (Chg.of_below (below_plus W8 bs2 d2))
  replace hX := hX.later (below_plus W8 bs2 d2)
  generalize plus W8 bs2 d2 = W1 at *
  refine wpList_plain rfl (fun K hK => ?_); go_simp; with_reducible refine hK _ _ ?_; clear hK K
  refine wpList_st1 22 (.tmp 61) (.tmp 58) rfl rfl (by rfl) (by rfl) hX (Nat.le_of_ble_eq_true rfl) rfl (by kernel_rfl) ?_
  intro W2 hX' gr'
  replace hX : Bk W2 gx 225 (hdC (fhC false false 0 false 0 0 false 0 0 0 0 0) (tcC 0 0 0 0 0 0 0 0 none 0 0 none 0 0) (dgX 0 0 0 none 0 0) (msgC 0 0 0 0 none 0 0) false A1 n1 k1) := hX'
  replace hC := hC.trans (Chg.one gr' rfl)
  clear hX' gr'
  refine wpList_plain rfl (fun K hK => ?_); go_simp; with_reducible refine hK _ _ ?_; clear hK K
  refine wpList_st1 4 (.tmp 62) (.tmp 60) rfl rfl (by rfl) (by rfl) hX (Nat.le_of_ble_eq_true rfl) rfl (by kernel_rfl) ?_
  intro W3 hX' gr'
  replace hX : Bk W3 gx 225 (hdC (fhC false false 0 false 0 0 false 0 0 0 0 0) (tcC 0 0 0 0 0 0 0 0 none 0 0 none 0 0) (dgX 0 0 0 none 0 0) (msgC 0 0 0 0 none 0 0) fr A1 n1 k1) := hX'
  replace hC := hC.trans (Chg.one gr' rfl)
  clear hX' gr'
  simp only [Act.put, List.setIfInBounds_toArray, List.set_cons_zero, List.set_cons_succ]
  go_upto_region 17 with (fail)
  refine wp_region_lit ?_
  refine wpList_plain rfl (fun K hK => ?_); go_simp; with_reducible refine hK _ _ ?_; clear hK K
  refine wpList_ld1 (t := 140) (cs := h4C ts (ln : Int) id st mo (fo : Int) tl pr sm false 0 sa false 0 da Ao no ko) 4 (.tmp 63) rfl (by rfl) rfl ((hH.chg hC nH1)) rfl Try.underlying4 rfl ?_
  refine wpList_plain rfl (fun K hK => ?_); go_simp; with_reducible refine hK _ _ ?_; clear hK K
  refine wpList_ld1 (t := 140) (cs := h4C ts (ln : Int) id st mo (fo : Int) tl pr sm false 0 sa false 0 da Ao no ko) 5 (.tmp 65) rfl (by rfl) rfl ((hH.chg hC nH1)) rfl Try.underlying5 rfl ?_
  iterate 2 (refine wpList_plain rfl (fun K hK => ?_); go_simp; with_reducible refine hK _ _ ?_; clear hK K)
  refine wpList_stM 53 (.tmp 68) (.tmp 67) rfl rfl (inPk (fhC false st tl false 0 0 false 0 0 0 0 0) (tcC 0 0 0 0 0 0 0 0 none 0 0 none 0 0) (dgX 0 0 0 none 0 0) (msgC 0 0 0 0 none 0 0)) (hdC (fhC false false 0 false 0 0 false 0 0 0 0 0) (tcC 0 0 0 0 0 0 0 0 none 0 0 none 0 0) (dgX 0 0 0 none 0 0) (msgC 0 0 0 0 none 0 0) fr A1 n1 k1) (Nat.le_of_ble_eq_true rfl) (inPk_one (fhC_one _ _ _ _ _ _ _ _ _ _ _ _ ) (tcC_one _ _ _ _ _ _ _ _ _ _ _ _ _ _ ) (dgX_one _ _ _ _ _ _) (msgC_one _ _ _ _ _ _ _)) (by rfl) (by rfl) hX (szIN_ (by rfl)) ?_
  intro W4 hX' gr'
  replace hX : Bk W4 gx 225 (hdC (fhC false st tl false 0 0 false 0 0 0 0 0) (tcC 0 0 0 0 0 0 0 0 none 0 0 none 0 0) (dgX 0 0 0 none 0 0) (msgC 0 0 0 0 none 0 0) fr A1 n1 k1) := hX'
  replace hC := hC.trans (Chg.one gr' rfl)
  clear hX' gr'
  simp only [Act.put, List.setIfInBounds_toArray, List.set_cons_zero, List.set_cons_succ]
  go_upto_region 18 with (fail)
  refine wp_region_lit ?_
  refine wpList_plain rfl (fun K hK => ?_); go_simp; with_reducible refine hK _ _ ?_; clear hK K
  refine wpList_ldA (t := 140) (cs := h4C ts (ln : Int) id st mo (fo : Int) tl pr sm false 0 sa false 0 da Ao no ko) 26 (.tmp 69) rfl rfl ([.bool false, .int .u64 (0 : Int), .int .u64 (sa : Int)]) rfl ((hH.chg hC nH1)) rfl v1 v2 (szAd _ _ _) ?_
  refine wpList_plain rfl (fun K hK => ?_); go_simp; with_reducible refine hK _ _ ?_; clear hK K
  refine wpList_ldA (t := 140) (cs := h4C ts (ln : Int) id st mo (fo : Int) tl pr sm false 0 sa false 0 da Ao no ko) 26 (.tmp 71) rfl rfl ([.bool false, .int .u64 (0 : Int), .int .u64 (da : Int)]) rfl ((hH.chg hC nH1)) rfl v1 v2 (szAd _ _ _) ?_
  refine wpList_plain rfl (fun K hK => ?_); go_simp; with_reducible refine hK _ _ ?_; clear hK K
  refine wpList_ld1 (t := 140) (cs := h4C ts (ln : Int) id st mo (fo : Int) tl pr sm false 0 sa false 0 da Ao no ko) 5 (.tmp 73) rfl (by rfl) rfl ((hH.chg hC nH1)) rfl Try.underlying5 rfl ?_
  iterate 3 (refine wpList_plain rfl (fun K hK => ?_); go_simp; with_reducible refine hK _ _ ?_; clear hK K)
  refine wpList_stM 29 (.tmp 77) (.tmp 75) rfl rfl (flC false 0 sa false 0 da 0 0 pr) (hdC (fhC false st tl false 0 0 false 0 0 0 0 0) (tcC 0 0 0 0 0 0 0 0 none 0 0 none 0 0) (dgX 0 0 0 none 0 0) (msgC 0 0 0 0 none 0 0) fr A1 n1 k1) (Nat.le_of_ble_eq_true rfl) (flC_one _ _ _ _ _ _ _ _ _ ) (by rfl) (by rfl) hX (szFl _ _ _ _ _ _ _ _ _ ) ?_
  intro W5 hX' gr'
  replace hX : Bk W5 gx 225 (hdC (fhC false st tl false 0 sa false 0 da 0 0 pr) (tcC 0 0 0 0 0 0 0 0 none 0 0 none 0 0) (dgX 0 0 0 none 0 0) (msgC 0 0 0 0 none 0 0) fr A1 n1 k1) := hX'
  replace hC := hC.trans (Chg.one gr' rfl)
  clear hX' gr'
  simp only [Act.put, List.setIfInBounds_toArray, List.set_cons_zero, List.set_cons_succ]
  go_upto_region 19 with (fail)
  refine wp_region_lit ?_
  refine wpList_ldA (t := 225) 225 (.tmp 6) rfl rfl (hdC (fhC false st tl false 0 sa false 0 da 0 0 pr) (tcC 0 0 0 0 0 0 0 0 none 0 0 none 0 0) (dgX 0 0 0 none 0 0) (msgC 0 0 0 0 none 0 0) fr A1 n1 k1) rfl (hX) (whole_ _) u1 u2 (szHD_ (by rfl)) ?_
  simp only [Act.put, List.setIfInBounds_toArray, List.set_cons_zero, List.set_cons_succ]
  refine wpList_stA 225 (.tmp 2) (.tmp 78) rfl rfl (hdC (fhC false st tl false 0 sa false 0 da 0 0 pr) (tcC 0 0 0 0 0 0 0 0 none 0 0 none 0 0) (dgX 0 0 0 none 0 0) (msgC 0 0 0 0 none 0 0) fr A1 n1 k1) (hdC (fhC false false 0 false 0 0 false 0 0 0 0 0) (tcC 0 0 0 0 0 0 0 0 none 0 0 none 0 0) (dgX 0 0 0 none 0 0) (msgC 0 0 0 0 none 0 0) false none 0 0) rfl (hdC_one (fhC_one _ _ _ _ _ _ _ _ _ _ _ _ ) (tcC_one _ _ _ _ _ _ _ _ _ _ _ _ _ _ ) (dgX_one _ _ _ _ _ _) (msgC_one _ _ _ _ _ _ _) _ _ _ _) rfl rfl (b3.chg hC nR) (szHD_ (by rfl)) ?_
  intro W9 h9 g9
  replace hC := (hC.wide (D' := fun b => b = w.heap.size ∨ b = gx) (fun b hb => .inr hb)).trans (Chg.one g9 (.inl rfl))
  simp only [Act.put, List.setIfInBounds_toArray, List.set_cons_zero, List.set_cons_succ]
  go_wp2
  refine bodyPost_agg2 Try.results114 rfl rfl h9.range u1 u2 (szHD_ (by rfl)) rfl ?_
  refine OpR.ok (RetHp.mk (hl.chg hC nL) (fun a ha => by have := hf a ha; omega) (be.trans (hC.below (B := w.heap.size) (fun b hb => ?_) be.size)))
  have hb' : b = w.heap.size ∨ b = gx := hb
  omega
end Go.Proofs.Ytfmkndemkpecpaa

/- What a load is as a segment, a datagram, a message, on both sides; what a packet is (chapters 6, 7, 8, 28). -/
namespace Go.Proofs.Ytfmkndemkpecpaa
open Go.RowKit
set_option linter.unusedVariables false
set_option linter.unusedSimpArgs false
attribute [local go_sem ↓] sliced_cut

attribute [local go_sem] cutA_zero

/-- a segment: where there is no error its rows lie in new blocks -/
def RetSegE (w : World) (x0 x1 x2 x3 x4 x5 x6 x7 : Nat) (o1 o2 : List UInt8) (E : Int) (e : Ending) (w' : World) : Prop := if E = 0 then RetSegF w x0 x1 x2 x3 x4 x5 x6 x7 o1 o2 (.int .i64 0) e w' else RetSeg w 0 0 0 0 0 0 0 0 [] [] (.int .i64 E) e w'
theorem RetSegE.err {w : World} {x0 x1 x2 x3 x4 x5 x6 x7 : Nat} {o1 o2 : List UInt8} {E : Int} {e : Ending} {w' : World} (hE : ¬ E = 0) (h : RetSeg w 0 0 0 0 0 0 0 0 [] [] (.int .i64 E) e w') : RetSegE w x0 x1 x2 x3 x4 x5 x6 x7 o1 o2 E e w' := by unfold RetSegE; rw [if_neg hE]; exact h
theorem RetSegE.ok {w : World} {x0 x1 x2 x3 x4 x5 x6 x7 : Nat} {o1 o2 : List UInt8} {e : Ending} {w' : World} (h : RetSegF w x0 x1 x2 x3 x4 x5 x6 x7 o1 o2 (.int .i64 0) e w') : RetSegE w x0 x1 x2 x3 x4 x5 x6 x7 o1 o2 0 e w' := by unfold RetSegE; rw [if_pos rfl]; exact h
structure TcpAny (l : List UInt8) (x0 x1 x2 x3 x4 x5 x6 x7 : Nat) (o1 o2 : List UInt8) (E : Int) : Prop where
  b : x0 < 65536 ∧ x1 < 65536 ∧ x2 < 4294967296 ∧ x3 < 4294967296 ∧ x4 < 256 ∧ x5 < 65536 ∧ x6 < 65536 ∧ x7 < 65536
  o : o1.length ≤ 40 ∧ o1.length % 4 = 0 ∧ o2.length ≤ l.length
  f : E = 0 → 20 ≤ l.length ∧ x0 = num ((l.drop 0).take 2) ∧ x1 = num ((l.drop 2).take 2) ∧ num ((l.drop 12).take 1) % 16 = 0 ∧ 5 ≤ num ((l.drop 12).take 1) / 16 ∧ 4 * (num ((l.drop 12).take 1) / 16) ≤ l.length ∧ o1 = (l.drop 20).take (4 * (num ((l.drop 12).take 1) / 16) - 20)
  P : ∀ w A n c, Rb w A n c l → Calls Try.prog 157 #[.slice A n c] w (RetSegE w x0 x1 x2 x3 x4 x5 x6 x7 o1 o2 E)
  R : ∀ w A n c, Rb w A n c l → Calls Try.prog 56 #[.slice A n c] w (RetSegE w x0 x1 x2 x3 x4 x5 x6 x7 o1 o2 E)
theorem tcp_bad (l : List UInt8) (E : Int) (hE : ¬ E = 0) (hP : ∀ w A n c, Rb w A n c l → Calls Try.prog 157 #[.slice A n c] w (RetSeg w 0 0 0 0 0 0 0 0 [] [] (.int .i64 E))) (hR : ∀ w A n c, Rb w A n c l → Calls Try.prog 56 #[.slice A n c] w (RetSeg w 0 0 0 0 0 0 0 0 [] [] (.int .i64 E))) : TcpAny l 0 0 0 0 0 0 0 0 [] [] E :=
  ⟨⟨by omega, by omega, by omega, by omega, by omega, by omega, by omega, by omega⟩, ⟨by simp, by simp, by simp⟩, fun h => absurd h hE, fun w A n c h => (hP w A n c h).mono fun _ _ => RetSegE.err hE, fun w A n c h => (hR w A n c h).mono fun _ _ => RetSegE.err hE⟩
theorem tcp_any (l : List UInt8) (hl : l.length ≤ 1000000) : ∃ (x0 x1 x2 x3 x4 x5 x6 x7 : Nat) (o1 o2 : List UInt8) (E : Int), TcpAny l x0 x1 x2 x3 x4 x5 x6 x7 o1 o2 E ∧ (E = 0 → 20 ≤ l.length ∧ x0 = num ((l.drop 0).take 2) ∧ x1 = num ((l.drop 2).take 2) ∧ num ((l.drop 12).take 1) % 16 = 0 ∧ 5 ≤ num ((l.drop 12).take 1) / 16 ∧ 4 * (num ((l.drop 12).take 1) / 16) ≤ l.length ∧ o1 = (l.drop 20).take (4 * (num ((l.drop 12).take 1) / 16) - 20)) := by
  by_cases g0 : l.length < 20
  · exact ⟨_, _, _, _, _, _, _, _, _, _, 20, tcp_bad l 20 (by decide) (fun w A n c h => tcpParse_short A n c l w h (by rw [← h.1]; exact g0)) (fun w A n c h => refTcpParse_short A n c l w h (by rw [← h.1]; exact g0)), fun h => absurd h (by decide)⟩
  by_cases g1 : num ((l.drop 12).take 1) / 16 < 5
  · exact ⟨_, _, _, _, _, _, _, _, _, _, 21, tcp_bad l 21 (by decide) (fun w A n c h => tcpParse_form1 A n c l w h (by have := h.1; omega) (by have := h.1; omega) _ _ _ _ _ _ _ _ _ rfl rfl rfl rfl rfl rfl rfl rfl rfl g1) (fun w A n c h => refTcpParse_form1 A n c l w h (by have := h.1; omega) (by have := h.1; omega) _ _ _ _ _ _ _ _ _ rfl rfl rfl rfl rfl rfl rfl rfl rfl g1), fun h => absurd h (by decide)⟩
  by_cases g2 : num ((l.drop 12).take 1) % 16 = 0
  case neg => exact ⟨_, _, _, _, _, _, _, _, _, _, 21, tcp_bad l 21 (by decide) (fun w A n c h => tcpParse_form2 A n c l w h (by have := h.1; omega) (by have := h.1; omega) _ _ _ _ _ _ _ _ _ rfl rfl rfl rfl rfl rfl rfl rfl rfl (by omega) g2) (fun w A n c h => refTcpParse_form2 A n c l w h (by have := h.1; omega) (by have := h.1; omega) _ _ _ _ _ _ _ _ _ rfl rfl rfl rfl rfl rfl rfl rfl rfl (by omega) g2), fun h => absurd h (by decide)⟩
  by_cases g3 : l.length < 4 * (num ((l.drop 12).take 1) / 16)
  · exact ⟨_, _, _, _, _, _, _, _, _, _, 20, tcp_bad l 20 (by decide) (fun w A n c h => tcpParse_short2 A n c l w h (by have := h.1; omega) (by have := h.1; omega) _ _ _ _ _ _ _ _ _ rfl rfl rfl rfl rfl rfl rfl rfl rfl (by omega) g2 (by have := h.1; omega)) (fun w A n c h => refTcpParse_short2 A n c l w h (by have := h.1; omega) (by have := h.1; omega) _ _ _ _ _ _ _ _ _ rfl rfl rfl rfl rfl rfl rfl rfl rfl (by omega) g2 (by have := h.1; omega)), fun h => absurd h (by decide)⟩
  have kf : num ((l.drop 12).take 1) < 256 := num_lt' l 12 1 256 (by decide)
  refine ⟨_, _, _, _, _, _, _, _, _, _, 0, ⟨⟨num_lt' l 0 2 65536 (by decide), num_lt' l 2 2 65536 (by decide), num_lt' l 4 4 4294967296 (by decide), num_lt' l 8 4 4294967296 (by decide), num_lt' l 13 1 256 (by decide), num_lt' l 14 2 65536 (by decide), num_lt' l 16 2 65536 (by decide), num_lt' l 18 2 65536 (by decide)⟩, ⟨?_, ?_, ?_⟩, fun _ => ⟨by omega, rfl, rfl, g2, by omega, by omega, rfl⟩, fun w A n c h => (tcpParse_okF A n c l w h (by have := h.1; omega) (by have := h.1; omega) _ _ _ _ _ _ _ _ _ rfl rfl rfl rfl rfl rfl rfl rfl rfl (by omega) g2 _ rfl (by have := h.1; omega)).mono fun _ _ => RetSegE.ok, fun w A n c h => (refTcpParse_okF A n c l w h (by have := h.1; omega) (by have := h.1; omega) _ _ _ _ _ _ _ _ _ rfl rfl rfl rfl rfl rfl rfl rfl rfl (by omega) g2 _ rfl (by have := h.1; omega)).mono fun _ _ => RetSegE.ok⟩, fun _ => ⟨by omega, rfl, rfl, g2, by omega, by omega, rfl⟩⟩
  · rw [List.length_take, List.length_drop]; omega
  · rw [List.length_take, List.length_drop]; omega
  · rw [List.length_drop]; omega
/-- a datagram: where there is no error its row lies in a new block -/
def RetDgE (w : World) (x0 x1 x2 : Nat) (o1 : List UInt8) (E : Int) (e : Ending) (w' : World) : Prop := if E = 0 then RetDgF w x0 x1 x2 o1 (.int .i64 0) e w' else RetDg w 0 0 0 [] (.int .i64 E) e w'
theorem RetDgE.err {w : World} {x0 x1 x2 : Nat} {o1 : List UInt8} {E : Int} {e : Ending} {w' : World} (hE : ¬ E = 0) (h : RetDg w 0 0 0 [] (.int .i64 E) e w') : RetDgE w x0 x1 x2 o1 E e w' := by unfold RetDgE; rw [if_neg hE]; exact h
theorem RetDgE.ok {w : World} {x0 x1 x2 : Nat} {o1 : List UInt8} {e : Ending} {w' : World} (h : RetDgF w x0 x1 x2 o1 (.int .i64 0) e w') : RetDgE w x0 x1 x2 o1 0 e w' := by unfold RetDgE; rw [if_pos rfl]; exact h
structure UdpAny (l : List UInt8) (x0 x1 x2 : Nat) (o1 : List UInt8) (E : Int) : Prop where
  b : x0 < 65536 ∧ x1 < 65536 ∧ x2 < 65536
  o : o1.length ≤ l.length
  f : E = 0 → 8 ≤ l.length ∧ x0 = num ((l.drop 0).take 2) ∧ x1 = num ((l.drop 2).take 2)
  P : ∀ w A n c, Rb w A n c l → Calls Try.prog 159 #[.slice A n c] w (RetDgE w x0 x1 x2 o1 E)
  R : ∀ w A n c, Rb w A n c l → Calls Try.prog 61 #[.slice A n c] w (RetDgE w x0 x1 x2 o1 E)
theorem udp_bad (l : List UInt8) (E : Int) (hE : ¬ E = 0) (hP : ∀ w A n c, Rb w A n c l → Calls Try.prog 159 #[.slice A n c] w (RetDg w 0 0 0 [] (.int .i64 E))) (hR : ∀ w A n c, Rb w A n c l → Calls Try.prog 61 #[.slice A n c] w (RetDg w 0 0 0 [] (.int .i64 E))) : UdpAny l 0 0 0 [] E :=
  ⟨⟨by omega, by omega, by omega⟩, by simp, fun h => absurd h hE, fun w A n c h => (hP w A n c h).mono fun _ _ => RetDgE.err hE, fun w A n c h => (hR w A n c h).mono fun _ _ => RetDgE.err hE⟩
theorem udp_any (l : List UInt8) (hl : l.length ≤ 1000000) : ∃ (x0 x1 x2 : Nat) (o1 : List UInt8) (E : Int), UdpAny l x0 x1 x2 o1 E ∧ (E = 0 → 8 ≤ l.length ∧ x0 = num ((l.drop 0).take 2) ∧ x1 = num ((l.drop 2).take 2)) := by
  by_cases g0 : l.length < 8
  · exact ⟨_, _, _, _, 20, udp_bad l 20 (by decide) (fun w A n c h => udpParse_short A n c l w h (by rw [← h.1]; exact g0)) (fun w A n c h => refUdpParse_short A n c l w h (by rw [← h.1]; exact g0)), fun h => absurd h (by decide)⟩
  by_cases g1 : num ((l.drop 4).take 2) < 8
  · exact ⟨_, _, _, _, 21, udp_bad l 21 (by decide) (fun w A n c h => udpParse_form A n c l w h (by have := h.1; omega) (by have := h.1; omega) _ _ _ _ rfl rfl rfl rfl g1) (fun w A n c h => refUdpParse_form A n c l w h (by have := h.1; omega) (by have := h.1; omega) _ _ _ _ rfl rfl rfl rfl g1), fun h => absurd h (by decide)⟩
  by_cases g2 : l.length < num ((l.drop 4).take 2)
  · exact ⟨_, _, _, _, 20, udp_bad l 20 (by decide) (fun w A n c h => udpParse_short2 A n c l w h (by have := h.1; omega) (by have := h.1; omega) _ _ _ _ rfl rfl rfl rfl (by omega) (by have := h.1; omega)) (fun w A n c h => refUdpParse_short2 A n c l w h (by have := h.1; omega) (by have := h.1; omega) _ _ _ _ rfl rfl rfl rfl (by omega) (by have := h.1; omega)), fun h => absurd h (by decide)⟩
  refine ⟨_, _, _, _, 0, ⟨⟨num_lt' l 0 2 65536 (by decide), num_lt' l 2 2 65536 (by decide), num_lt' l 6 2 65536 (by decide)⟩, ?_, fun _ => ⟨by omega, rfl, rfl⟩, fun w A n c h => (udpParse_okF A n c l w h (by have := h.1; omega) (by have := h.1; omega) _ _ _ _ rfl rfl rfl rfl (by omega) (by have := h.1; omega)).mono fun _ _ => RetDgE.ok, fun w A n c h => (refUdpParse_okF A n c l w h (by have := h.1; omega) (by have := h.1; omega) _ _ _ _ rfl rfl rfl rfl (by omega) (by have := h.1; omega)).mono fun _ _ => RetDgE.ok⟩, fun _ => ⟨by omega, rfl, rfl⟩⟩
  rw [List.length_take, List.length_drop]; omega
structure IcmpAny (l : List UInt8) (x0 x1 x2 x3 : Nat) (o1 : List UInt8) (ok : Bool) : Prop where
  b : x0 < 256 ∧ x1 < 256 ∧ x2 < 65536 ∧ x3 < 4294967296
  o : o1.length ≤ l.length
  P : ∀ w A n c, Rb w A n c l → Calls Try.prog 161 #[.slice A n c] w (RetMg w x0 x1 x2 x3 o1 (.int .i64 (if ok then 0 else 20)))
  R : ∀ w A n c, Rb w A n c l → Calls Try.prog 63 #[.slice A n c] w (RetMg w x0 x1 x2 x3 o1 (.bool ok))
theorem icmp_any (l : List UInt8) (hl : l.length ≤ 1000000) : ∃ (x0 x1 x2 x3 : Nat) (o1 : List UInt8) (ok : Bool), IcmpAny l x0 x1 x2 x3 o1 ok := by
  by_cases g0 : l.length < 8
  · exact ⟨0, 0, 0, 0, [], false, ⟨by omega, by omega, by omega, by omega⟩, by simp, fun w A n c h => icmpParseS A n c l w h (by rw [← h.1]; exact g0), fun w A n c h => refIcmpS A n c l w h (by rw [← h.1]; exact g0)⟩
  exact ⟨_, _, _, _, _, true, ⟨num_lt' l 0 1 256 (by decide), num_lt' l 1 1 256 (by decide), num_lt' l 2 2 65536 (by decide), num_lt' l 4 4 4294967296 (by decide)⟩, by rw [List.length_drop]; omega, fun w A n c h => icmpParseX A n c l w h (by have := h.1; omega) (by have := h.1; omega) _ _ _ _ rfl rfl rfl rfl, fun w A n c h => refIcmpX A n c l w h (by have := h.1; omega) (by have := h.1; omega) _ _ _ _ rfl rfl rfl rfl⟩
/-- what a packet is -/
structure PI where
  si : Bool
  st : Bool
  tl : Nat
  s6 : Bool
  sh : Nat
  sl : Nat
  d6 : Bool
  dh : Nat
  dl : Nat
  sp : Nat
  dp : Nat
  pr : Nat
  x0 : Nat := 0
  x1 : Nat := 0
  x2 : Nat := 0
  x3 : Nat := 0
  x4 : Nat := 0
  x5 : Nat := 0
  x6 : Nat := 0
  x7 : Nat := 0
  o1 : List UInt8 := []
  o2 : List UInt8 := []
  u0 : Nat := 0
  u1 : Nat := 0
  u2 : Nat := 0
  o3 : List UInt8 := []
  m0 : Nat := 0
  m1 : Nat := 0
  m2 : Nat := 0
  m3 : Nat := 0
  o4 : List UInt8 := []
def PI.zero : PI := { si := false, st := false, tl := 0, s6 := false, sh := 0, sl := 0, d6 := false, dh := 0, dl := 0, sp := 0, dp := 0, pr := 0 }
def PI.fh (p : PI) : List Value := fhC p.si p.st p.tl p.s6 p.sh p.sl p.d6 p.dh p.dl p.sp p.dp p.pr
def PI.cs (p : PI) (A1 : Option Addr) (n1 c1 : Nat) (A2 : Option Addr) (n2 c2 : Nat) (A3 : Option Addr) (n3 c3 : Nat) (A4 : Option Addr) (n4 c4 : Nat) : List Value := inPk p.fh (tcC p.x0 p.x1 p.x2 p.x3 p.x4 p.x5 p.x6 p.x7 A1 n1 c1 A2 n2 c2) (dgX p.u0 p.u1 p.u2 A3 n3 c3) (msgC p.m0 p.m1 p.m2 p.m3 A4 n4 c4)
/-- what a packet is, and why it is none -/
def RetPI (w : World) (p : PI) (why : Int) (e : Ending) (w' : World) : Prop := ∃ A1 n1 c1 A2 n2 c2 A3 n3 c3 A4 n4 c4 bs d, e = .returned (.tuple #[.agg (p.cs A1 n1 c1 A2 n2 c2 A3 n3 c3 A4 n4 c4).toArray, .int .i64 why]) ∧ w' = plus w bs d ∧ Rb (plus w bs d) A1 n1 c1 p.o1 ∧ Rb (plus w bs d) A2 n2 c2 p.o2 ∧ Rb (plus w bs d) A3 n3 c3 p.o3 ∧ Rb (plus w bs d) A4 n4 c4 p.o4 ∧ (∀ a, A1 = some a → w.heap.size ≤ a.block) ∧ (∀ a, A2 = some a → w.heap.size ≤ a.block) ∧ (∀ a, A3 = some a → w.heap.size ≤ a.block) ∧ ∀ a, A4 = some a → w.heap.size ≤ a.block
theorem RetPI.mk {w w' : World} {p : PI} {why : Int} {A1 : Option Addr} {n1 c1 : Nat} {A2 : Option Addr} {n2 c2 : Nat} {A3 : Option Addr} {n3 c3 : Nat} {A4 : Option Addr} {n4 c4 : Nat} (h1 : Rb w' A1 n1 c1 p.o1) (h2 : Rb w' A2 n2 c2 p.o2) (h3 : Rb w' A3 n3 c3 p.o3) (h4 : Rb w' A4 n4 c4 p.o4) (f1 : ∀ a, A1 = some a → w.heap.size ≤ a.block) (f2 : ∀ a, A2 = some a → w.heap.size ≤ a.block) (f3 : ∀ a, A3 = some a → w.heap.size ≤ a.block) (f4 : ∀ a, A4 = some a → w.heap.size ≤ a.block) (hb : Below w.heap.size w w') : RetPI w p why (.returned (.tuple #[.agg (p.cs A1 n1 c1 A2 n2 c2 A3 n3 c3 A4 n4 c4).toArray, .int .i64 why])) w' := by
  obtain ⟨bs, d, rfl⟩ := plus_of hb
  exact ⟨A1, n1, c1, A2, n2, c2, A3, n3, c3, A4, n4, c4, bs, d, rfl, rfl, h1, h2, h3, h4, f1, f2, f3, f4⟩
theorem PI.one (p : PI) (A1 : Option Addr) (n1 c1 : Nat) (A2 : Option Addr) (n2 c2 : Nat) (A3 : Option Addr) (n3 c3 : Nat) (A4 : Option Addr) (n4 c4 : Nat) : ∀ u ∈ p.cs A1 n1 c1 A2 n2 c2 A3 n3 c3 A4 n4 c4, u.oneCell' = true := inPk_one (fhC_one _ _ _ _ _ _ _ _ _ _ _ _) (tcC_one _ _ _ _ _ _ _ _ _ _ _ _ _ _) (dgX_one _ _ _ _ _ _) (msgC_one _ _ _ _ _ _ _)
theorem noRow {B : Nat} : ∀ a : Addr, (none : Option Addr) = some a → B ≤ a.block := fun a h => by cases h
end Go.Proofs.Ytfmkndemkpecpaa

/- takeTCP, takeUDP, takeICMP (chapter 28). -/
namespace Go.Proofs.Ytfmkndemkpecpaa
open Go.RowKit
set_option linter.unusedVariables false
set_option linter.unusedSimpArgs false
attribute [local go_sem ↓] sliced_cut

attribute [local go_sem] cutA_zero

/-- a part of what a packet is has been taken: g holds it where there is no reason against -/
def Tk (w : World) (g : Nat) (why : Int) (p : PI) (fr : Bool) (Ar : Option Addr) (nr kr : Nat) (e : Ending) (w' : World) : Prop := e = .returned (.int .i64 why) ∧ Chg (fun b => b = g) w w' ∧ (why = 0 → ∃ A1 n1 c1 A2 n2 c2 A3 n3 c3 A4 n4 c4, Bk w' g 225 (p.cs A1 n1 c1 A2 n2 c2 A3 n3 c3 A4 n4 c4 ++ [.bool fr, .slice Ar nr kr]) ∧ Rb w' A1 n1 c1 p.o1 ∧ Rb w' A2 n2 c2 p.o2 ∧ Rb w' A3 n3 c3 p.o3 ∧ Rb w' A4 n4 c4 p.o4 ∧ (∀ a, A1 = some a → w.heap.size ≤ a.block) ∧ (∀ a, A2 = some a → w.heap.size ≤ a.block) ∧ (∀ a, A3 = some a → w.heap.size ≤ a.block) ∧ ∀ a, A4 = some a → w.heap.size ≤ a.block)
theorem Tk.bad {w w' : World} {g : Nat} {why : Int} {p : PI} {fr : Bool} {Ar : Option Addr} {nr kr : Nat} (hw : why ≠ 0) (hb : Below w.heap.size w w') : Tk w g why p fr Ar nr kr (.returned (.int .i64 why)) w' := ⟨rfl, Chg.of_below hb, fun h => absurd h hw⟩
theorem ofN_ne {E : Int} (h : ¬ E = 0) : ofN E ≠ 0 := by
  unfold ofN
  rw [if_neg h]
  repeat (first | (split; decide) | decide)
/-- why a segment or a datagram is none -/
def bad3 (fine : Bool) : Int := if fine then 0 else 3
def tkW (E : Int) (fine : Bool) : Int := if E = 0 then bad3 fine else ofN E
theorem rowSeg : ∃ d, Try.prog.underlying 47 = some d ∧ d.isRow = true := ⟨_, Try.underlying47, rfl⟩
set_option maxHeartbeats 4000000 in
set_option maxRecDepth 100000 in
theorem takeTCP (g : Nat) (A : Option Addr) (n c : Nat) (si st : Bool) (tl : Nat) (s6 : Bool) (sh sl dh dl pr : Nat) (fr : Bool) (Ar : Option Addr) (nr kr : Nat) (L : List UInt8) (w : World) (x0 x1 x2 x3 x4 x5 x6 x7 : Nat) (o1 o2 : List UInt8) (E : Int) (any : TcpAny L x0 x1 x2 x3 x4 x5 x6 x7 o1 o2 E) (k1 : sh < 18446744073709551616) (k2 : sl < 18446744073709551616) (k3 : dh < 18446744073709551616) (k4 : dl < 18446744073709551616) (hI : Bk w g 225 (hdC (fhC si st tl s6 sh sl s6 dh dl 0 0 pr) (tcC 0 0 0 0 0 0 0 0 none 0 0 none 0 0) (dgX 0 0 0 none 0 0) (msgC 0 0 0 0 none 0 0) fr Ar nr kr)) (h : Rb w A n c L) (hn : n ≤ 5000) : Calls Try.prog 115 #[.pointer (some ⟨g, 0, none⟩), .slice A n c] w (Tk w g (tkW E (65535 - fd (tcT s6 sh sl s6 dh dl L) == 0)) { si := si, st := st, tl := tl, s6 := s6, sh := sh, sl := sl, d6 := s6, dh := dh, dl := dl, sp := x0, dp := x1, pr := pr, x0 := x0, x1 := x1, x2 := x2, x3 := x3, x4 := x4, x5 := x5, x6 := x6, x7 := x7, o1 := o1, o2 := o2 } fr Ar nr kr) := by
  obtain ⟨dp_, q1, q2⟩ := rowSeg
  obtain ⟨du_, u1, u2⟩ := rowHd
  obtain ⟨dv_, v1, v2⟩ := rowAd
  have hg := hI.lt
  obtain ⟨b0, b1, b2, b3, b4, b5, b6, b7⟩ := any.b
  have hlo := any.o
  have HP := any.P
  have hLn := h.1
  by_cases hE : ¬ E = 0
  · have hE1 : (E != 0) = true := by rw [bne_iff_ne]; exact hE
    unfold RetSegE at HP
    simp only [if_neg hE] at HP
    replace HP := Lib.hid HP
    have hw : tkW E (65535 - fd (tcT s6 sh sl s6 dh dl L) == 0) = ofN E := by unfold tkW; rw [if_neg hE]
    rw [hw]
    clear hw any hlo b0
    go_enter Try.func115, Try.ntmps115
    go_upto_region 1 with (fail)
    go_wp2_with fail
    refine (HP.out _ _ _ _ h).mono ?_
    rintro e w1 ⟨A1, n1, c1, A2, n2, c2, bs1, d1, rfl, rfl, -, -⟩
    go_upto_region 2 with (refine at_op (.store 47 (.tmp 5) (.tmp 10)) rfl ?_; refine wpList_stA (t := 47) 47 (.tmp 5) (.tmp 10) rfl rfl (tcC 0 0 0 0 0 0 0 0 A1 n1 c1 A2 n2 c2) (tcC 0 0 0 0 0 0 0 0 none 0 0 none 0 0) rfl (tcC_one _ _ _ _ _ _ _ _ _ _ _ _ _ _ ) rfl rfl ?_ (szSeg _ rfl) ?_; (· refine Bk.newK _ _ _ ?_ rfl; simp [size_plus]); intro W8 hS gr8)
    have b8 := below_grown (Below.allocS (below_plus w bs1 d1) _) gr8 (by simp)
    clear gr8 hS
    go_wp2_with (go_at_call 17; refine (ofP _ _).mono ?_; rintro e w1 ⟨rfl, rfl⟩)
    go_ret
    exact Tk.bad (ofN_ne hE) b8
  · obtain rfl : E = 0 := Classical.not_not.1 hE
    unfold RetSegE at HP
    simp only [if_true] at HP
    replace HP := Lib.hid HP
    have HF := Lib.hid (fun w (h : Rb w A n c L) => tcpFine A n c s6 sh sl s6 dh dl L w k1 k2 k3 k4 h (by omega))
    have hw : tkW 0 (65535 - fd (tcT s6 sh sl s6 dh dl L) == 0) = bad3 (65535 - fd (tcT s6 sh sl s6 dh dl L) == 0) := by unfold tkW; simp
    rw [hw]
    clear hw hE
    generalize (65535 - fd (tcT s6 sh sl s6 dh dl L) == 0) = fi at *
    go_enter Try.func115, Try.ntmps115
    go_upto_region 1 with (fail)
    go_wp2_with fail
    refine (HP.out _ _ _ _ h).mono ?_
    rintro e w1 ⟨A1, n1, c1, A2, n2, c2, bs1, d1, rfl, rfl, h1, h2, f1, f2⟩
    go_upto_region 2 with (refine at_op (.store 47 (.tmp 5) (.tmp 10)) rfl ?_; refine wpList_stA (t := 47) 47 (.tmp 5) (.tmp 10) rfl rfl (tcC x0 x1 x2 x3 x4 x5 x6 x7 A1 n1 c1 A2 n2 c2) (tcC 0 0 0 0 0 0 0 0 none 0 0 none 0 0) rfl (tcC_one _ _ _ _ _ _ _ _ _ _ _ _ _ _ ) rfl rfl ?_ (szSeg _ rfl) ?_; (· refine Bk.newK _ _ _ ?_ rfl; simp [size_plus]); intro W8 hS gr8)
    have b8 := below_grown (Below.allocS (below_plus w bs1 d1) _) gr8 (by simp)
    have b9 := below_grown (Below.allocS (Below.refl _ _) _) gr8 (by simp [size_plus])
    replace hI := hI.later b8
    replace h := h.later b8
    replace h1 := h1.later b9
    replace h2 := h2.later b9
    have hgs : w.heap.size + bs1.length ≥ w.heap.size := by omega
    clear gr8 b9 hlo hLn
    generalize w.heap.size + bs1.length = gs at *
    go_upto_region 4 with (fail)
    go_wp2
    refine wp_relS 13 45 rfl (by kernel_rfl) (by kernel_rfl) ?_
    apply Steps.one (MP.eq _) 1 rfl
    · intro o ho FA x hO hD K hK
      obtain rfl := Option.some.inj ho.symm
      clear ho
      have e1 := hO 1 (by kernel_rfl)
      simp only [eval_tmp, List.getElem?_toArray, List.getElem?_cons_succ, List.getElem?_cons_zero, Option.getD_some] at e1
      have ev1 := Lib.hid ((eval_tmp FA 1).trans e1)
      clear hO hD
      go_simp
      exact hK.out _ _ (Ex.refl _) rfl
    apply Steps.one (MP.eq _) 2 rfl
    · intro o ho FA x hO hD K hK
      obtain rfl := Option.some.inj ho.symm
      clear ho
      have e0 := hO 0 (by kernel_rfl)
      simp only [eval_tmp, List.getElem?_toArray, List.getElem?_cons_succ, List.getElem?_cons_zero, Option.getD_some] at e0
      have ev0 := Lib.hid ((eval_tmp FA 0).trans e0)
      clear hO hD
      go_simp
      exact hK.out _ _ (Ex.refl _) rfl
    apply Steps.one (MP.eq _) 3 rfl
    · intro o ho FA x hO hD K hK
      obtain rfl := Option.some.inj ho.symm
      clear ho
      have ev17 : FA.eval (.tmp 17) = _ := hD 1 17 (by kernel_rfl)
      have e17 := (eval_tmp FA 17).symm.trans ev17
      replace ev17 := Lib.hid ev17
      clear hO hD
      go_simp
      exact hK.out _ _ (Ex.refl _) rfl
    apply Steps.one (MP.eq _) 4 rfl
    · intro o ho FA x hO hD K hK
      obtain rfl := Option.some.inj ho.symm
      clear ho
      have ev18 : FA.eval (.tmp 18) = _ := hD 2 18 (by kernel_rfl)
      have e18 := (eval_tmp FA 18).symm.trans ev18
      replace ev18 := Lib.hid ev18
      clear hO hD
      go_simp
      exact hK.out _ _ (Ex.refl _) rfl
    apply Steps.one (MP.eq _) 5 rfl
    · intro o ho FA x hO hD K hK
      obtain rfl := Option.some.inj ho.symm
      clear ho
      have ev19 : FA.eval (.tmp 19) = _ := hD 3 19 (by kernel_rfl)
      have e19 := (eval_tmp FA 19).symm.trans ev19
      replace ev19 := Lib.hid ev19
      clear hO hD
      go_simp
      exact hK.out _ _ (Ex.refl _) rfl
    apply Steps.one (MP.eq _) 6 rfl
    · intro o ho FA x hO hD K hK
      obtain rfl := Option.some.inj ho.symm
      clear ho
      have ev20 : FA.eval (.tmp 20) = _ := hD 4 20 (by kernel_rfl)
      have e20 := (eval_tmp FA 20).symm.trans ev20
      replace ev20 := Lib.hid ev20
      clear hO hD
      refine wanted_if rfl ?_
      refine wp_ldA 26 (.tmp 20) rfl ([.bool s6, .int .u64 (sh : Int), .int .u64 (sl : Int)]) ev20.out (hI.later (below_plus _ _ _)) rfl v1 v2 (szAd _ _ _) ?_
      exact hK.out _ _ (Ex.refl _) rfl
    apply Steps.one (MP.eq _) 7 rfl
    · intro o ho FA x hO hD K hK
      obtain rfl := Option.some.inj ho.symm
      clear ho
      have e0 := hO 0 (by kernel_rfl)
      simp only [eval_tmp, List.getElem?_toArray, List.getElem?_cons_succ, List.getElem?_cons_zero, Option.getD_some] at e0
      have ev0 := Lib.hid ((eval_tmp FA 0).trans e0)
      clear hO hD
      go_simp
      exact hK.out _ _ (Ex.refl _) rfl
    apply Steps.one (MP.eq _) 8 rfl
    · intro o ho FA x hO hD K hK
      obtain rfl := Option.some.inj ho.symm
      clear ho
      have ev22 : FA.eval (.tmp 22) = _ := hD 6 22 (by kernel_rfl)
      have e22 := (eval_tmp FA 22).symm.trans ev22
      replace ev22 := Lib.hid ev22
      clear hO hD
      go_simp
      exact hK.out _ _ (Ex.refl _) rfl
    apply Steps.one (MP.eq _) 9 rfl
    · intro o ho FA x hO hD K hK
      obtain rfl := Option.some.inj ho.symm
      clear ho
      have ev23 : FA.eval (.tmp 23) = _ := hD 7 23 (by kernel_rfl)
      have e23 := (eval_tmp FA 23).symm.trans ev23
      replace ev23 := Lib.hid ev23
      clear hO hD
      go_simp
      exact hK.out _ _ (Ex.refl _) rfl
    apply Steps.one (MP.eq _) 10 rfl
    · intro o ho FA x hO hD K hK
      obtain rfl := Option.some.inj ho.symm
      clear ho
      have ev24 : FA.eval (.tmp 24) = _ := hD 8 24 (by kernel_rfl)
      have e24 := (eval_tmp FA 24).symm.trans ev24
      replace ev24 := Lib.hid ev24
      clear hO hD
      go_simp
      exact hK.out _ _ (Ex.refl _) rfl
    apply Steps.one (MP.eq _) 11 rfl
    · intro o ho FA x hO hD K hK
      obtain rfl := Option.some.inj ho.symm
      clear ho
      have ev25 : FA.eval (.tmp 25) = _ := hD 9 25 (by kernel_rfl)
      have e25 := (eval_tmp FA 25).symm.trans ev25
      replace ev25 := Lib.hid ev25
      clear hO hD
      refine wanted_if rfl ?_
      refine wp_ldA 26 (.tmp 25) rfl ([.bool s6, .int .u64 (dh : Int), .int .u64 (dl : Int)]) ev25.out (hI.later (below_plus _ _ _)) rfl v1 v2 (szAd _ _ _) ?_
      exact hK.out _ _ (Ex.refl _) rfl
    apply Steps.one (MP.eq _) 12 rfl
    · intro o ho FA x hO hD K hK
      obtain rfl := Option.some.inj ho.symm
      clear ho
      have ev16 : FA.eval (.tmp 16) = _ := hD 0 16 (by kernel_rfl)
      have e16 := (eval_tmp FA 16).symm.trans ev16
      replace ev16 := Lib.hid ev16
      have ev21 : FA.eval (.tmp 21) = _ := hD 5 21 (by kernel_rfl)
      have e21 := (eval_tmp FA 21).symm.trans ev21
      replace ev21 := Lib.hid ev21
      have ev26 : FA.eval (.tmp 26) = _ := hD 10 26 (by kernel_rfl)
      have e26 := (eval_tmp FA 26).symm.trans ev26
      replace ev26 := Lib.hid ev26
      clear hO hD
      go_simp
      refine (HF.out _ (h.plus_ _ _)).mono ?_
      rintro e w1 ⟨bs2, d2, rfl, rfl⟩
      exact hK.out _ _ (Ex.plus_ _ _ _) rfl
    apply Steps.one (MP.eq _) 13 rfl
    · intro o ho FA x hO hD K hK
      obtain rfl := Option.some.inj ho.symm
      clear ho
      have ev27 : FA.eval (.tmp 27) = _ := hD 11 27 (by kernel_rfl)
      have e27 := (eval_tmp FA 27).symm.trans ev27
      replace ev27 := Lib.hid ev27
      clear hO hD
      go_simp
      exact hK.out _ _ (Ex.refl _) rfl
    refine Steps.fin_ (fun vs x hp => ?_)
    have p0 : vs 0 = _ := hp 0 (by omega)
    have p1 : vs 1 = _ := hp 1 (by omega)
    have p2 : vs 2 = _ := hp 2 (by omega)
    have p3 : vs 3 = _ := hp 3 (by omega)
    have p4 : vs 4 = _ := hp 4 (by omega)
    have p5 : vs 5 = _ := hp 5 (by omega)
    have p6 : vs 6 = _ := hp 6 (by omega)
    have p7 : vs 7 = _ := hp 7 (by omega)
    have p8 : vs 8 = _ := hp 8 (by omega)
    have p9 : vs 9 = _ := hp 9 (by omega)
    have p10 : vs 10 = _ := hp 10 (by omega)
    have p11 : vs 11 = _ := hp 11 (by omega)
    have p12 : vs 12 = _ := hp 12 (by omega)
    clear hp
    simp only [List.take_succ_cons, List.take_zero, List.drop_succ_cons, List.drop_zero, putAll, Nat.zero_add, Nat.reduceAdd, Act.put, List.setIfInBounds_toArray, List.set_cons_zero, List.set_cons_succ, p0, p1, p2, p3, p4, p5, p6, p7, p8, p9, p10, p11, p12]
    clear p0 p1 p2 p3 p4 p5 p6 p7 p8 p9 p10 p11 p12
    clear vs
    replace hI := hI.later (below_plus _ x.bs x.d)
    replace hS := hS.later (below_plus _ x.bs x.d)
    replace h1 := h1.plus_ x.bs x.d
    replace h2 := h2.plus_ x.bs x.d
    replace b8 := belowP b8 x.bs x.d
    generalize plus W8 x.bs x.d = W7 at *
    cases fi
    · go_wp2
      go_ret
      exact Tk.bad (by decide) b8
    · have hC : Chg (fun b => b = g) W7 W7 := Chg.refl _
      have B8 := b8
      have nS : ¬ (fun b => b = g) gs := fun h => by have h' : gs = g := h; omega
      go_upto_region 6 with (fail)
      refine wp_region_lit ?_
      refine wpList_plain rfl (fun K hK => ?_); go_simp; with_reducible refine hK _ _ ?_; clear hK K
      refine wpList_ldA (t := 47) 47 (.tmp 5) rfl rfl (tcC x0 x1 x2 x3 x4 x5 x6 x7 A1 n1 c1 A2 n2 c2) rfl (hS) (whole_ _) q1 q2 (szSeg _ rfl) ?_
      iterate 2 (refine wpList_plain rfl (fun K hK => ?_); go_simp; with_reducible refine hK _ _ ?_; clear hK K)
      refine wpList_stM 47 (.tmp 32) (.tmp 30) rfl rfl (tcC x0 x1 x2 x3 x4 x5 x6 x7 A1 n1 c1 A2 n2 c2) (hdC (fhC si st tl s6 sh sl s6 dh dl 0 0 pr) (tcC 0 0 0 0 0 0 0 0 none 0 0 none 0 0) (dgX 0 0 0 none 0 0) (msgC 0 0 0 0 none 0 0) fr Ar nr kr) (Nat.le_of_ble_eq_true rfl) (tcC_one _ _ _ _ _ _ _ _ _ _ _ _ _ _ ) (by rfl) (by rfl) hI (szSeg _ rfl) ?_
      intro W9 hI' gr'
      replace hI : Bk W9 g 225 (hdC (fhC si st tl s6 sh sl s6 dh dl 0 0 pr) (tcC x0 x1 x2 x3 x4 x5 x6 x7 A1 n1 c1 A2 n2 c2) (dgX 0 0 0 none 0 0) (msgC 0 0 0 0 none 0 0) fr Ar nr kr) := hI'
      replace hC := hC.trans (Chg.one gr' rfl)
      clear hI' gr'
      simp only [Act.put, List.setIfInBounds_toArray, List.set_cons_zero, List.set_cons_succ]
      have hSS := hS.chg hC nS
      replace b8 : Below w.heap.size w w := Below.refl _ _
      go_upto_region 7 with (fail)
      go_wp2
      refine wp_suS (fun b => b = g) 14 45 2 [9, 13] rfl (by kernel_rfl) (by kernel_rfl) (fun k w' => Bk w' g 225 (if k = 0 then hdC (fhC si st tl s6 sh sl s6 dh dl 0 0 pr) (tcC x0 x1 x2 x3 x4 x5 x6 x7 A1 n1 c1 A2 n2 c2) (dgX 0 0 0 none 0 0) (msgC 0 0 0 0 none 0 0) fr Ar nr kr else if k = 1 then hdC (fhC si st tl s6 sh sl s6 dh dl x0 0 pr) (tcC x0 x1 x2 x3 x4 x5 x6 x7 A1 n1 c1 A2 n2 c2) (dgX 0 0 0 none 0 0) (msgC 0 0 0 0 none 0 0) fr Ar nr kr else hdC (fhC si st tl s6 sh sl s6 dh dl x0 x1 pr) (tcC x0 x1 x2 x3 x4 x5 x6 x7 A1 n1 c1 A2 n2 c2) (dgX 0 0 0 none 0 0) (msgC 0 0 0 0 none 0 0) fr Ar nr kr)) (fun k w w' h h' => h.later h'.below) (hI) ?_
      apply StepsC.one (MC.eq _) 1 rfl (by decide)
      · intro o ho FA w' hC7 hO hD K hK
        obtain rfl := Option.some.inj ho.symm
        clear ho
        have e0 := hO 0 (by kernel_rfl)
        simp only [eval_tmp, List.getElem?_toArray, List.getElem?_cons_succ, List.getElem?_cons_zero, Option.getD_some] at e0
        have ev0 := Lib.hid ((eval_tmp FA 0).trans e0)
        clear hO hD
        go_simp
        exact hK.out _ _ (Ex.refl _) rfl
      apply StepsC.one (MC.eq _) 2 rfl (by decide)
      · intro o ho FA w' hC7 hO hD K hK
        obtain rfl := Option.some.inj ho.symm
        clear ho
        have e0 := hO 0 (by kernel_rfl)
        simp only [eval_tmp, List.getElem?_toArray, List.getElem?_cons_succ, List.getElem?_cons_zero, Option.getD_some] at e0
        have ev0 := Lib.hid ((eval_tmp FA 0).trans e0)
        clear hO hD
        go_simp
        exact hK.out _ _ (Ex.refl _) rfl
      apply StepsC.one (MC.eq _) 3 rfl (by decide)
      · intro o ho FA w' hC7 hO hD K hK
        obtain rfl := Option.some.inj ho.symm
        clear ho
        have e5 := hO 5 (by kernel_rfl)
        simp only [eval_tmp, List.getElem?_toArray, List.getElem?_cons_succ, List.getElem?_cons_zero, Option.getD_some] at e5
        have ev5 := Lib.hid ((eval_tmp FA 5).trans e5)
        clear hO hD
        go_simp
        exact hK.out _ _ (Ex.refl _) rfl
      apply StepsC.one (MC.eq _) 4 rfl (by decide)
      · intro o ho FA w' hC7 hO hD K hK
        obtain rfl := Option.some.inj ho.symm
        clear ho
        have ev35 : FA.eval (.tmp 35) = _ := hD 2 35 (by kernel_rfl)
        have e35 := (eval_tmp FA 35).symm.trans ev35
        replace ev35 := Lib.hid ev35
        clear hO hD
        refine wanted_if rfl ?_
        refine wp_ld1 27 (.tmp 35) rfl ev35.out (hSS.chg hC7 nS) rfl Try.underlying27 rfl ?_
        exact hK.out _ _ (Ex.refl _) rfl
      apply StepsC.one (MC.eq _) 5 rfl (by decide)
      · intro o ho FA w' hC7 hO hD K hK
        obtain rfl := Option.some.inj ho.symm
        clear ho
        have e5 := hO 5 (by kernel_rfl)
        simp only [eval_tmp, List.getElem?_toArray, List.getElem?_cons_succ, List.getElem?_cons_zero, Option.getD_some] at e5
        have ev5 := Lib.hid ((eval_tmp FA 5).trans e5)
        clear hO hD
        go_simp
        exact hK.out _ _ (Ex.refl _) rfl
      apply StepsC.one (MC.eq _) 6 rfl (by decide)
      · intro o ho FA w' hC7 hO hD K hK
        obtain rfl := Option.some.inj ho.symm
        clear ho
        have ev37 : FA.eval (.tmp 37) = _ := hD 4 37 (by kernel_rfl)
        have e37 := (eval_tmp FA 37).symm.trans ev37
        replace ev37 := Lib.hid ev37
        clear hO hD
        refine wanted_if rfl ?_
        refine wp_ld1 27 (.tmp 37) rfl ev37.out (hSS.chg hC7 nS) rfl Try.underlying27 rfl ?_
        exact hK.out _ _ (Ex.refl _) rfl
      apply StepsC.one (MC.eq _) 7 rfl (by decide)
      · intro o ho FA w' hC7 hO hD K hK
        obtain rfl := Option.some.inj ho.symm
        clear ho
        have ev33 : FA.eval (.tmp 33) = _ := hD 0 33 (by kernel_rfl)
        have e33 := (eval_tmp FA 33).symm.trans ev33
        replace ev33 := Lib.hid ev33
        clear hO hD
        go_simp
        exact hK.out _ _ (Ex.refl _) rfl
      apply StepsC.one (MC.eq _) 8 rfl (by decide)
      · intro o ho FA w' hC7 hO hD K hK
        obtain rfl := Option.some.inj ho.symm
        clear ho
        have ev39 : FA.eval (.tmp 39) = _ := hD 6 39 (by kernel_rfl)
        have e39 := (eval_tmp FA 39).symm.trans ev39
        replace ev39 := Lib.hid ev39
        clear hO hD
        go_simp
        exact hK.out _ _ (Ex.refl _) rfl
      apply StepsC.one (MC.eq _) 9 rfl (by decide)
      · intro o ho FA w' hC7 hO hD K hK
        obtain rfl := Option.some.inj ho.symm
        clear ho
        have ev40 : FA.eval (.tmp 40) = _ := hD 7 40 (by kernel_rfl)
        have e40 := (eval_tmp FA 40).symm.trans ev40
        replace ev40 := Lib.hid ev40
        clear hO hD
        go_simp
        exact hK.out _ _ (Ex.refl _) rfl
      apply StepsC.mov MC.any 10 0 rfl rfl rfl
      · intro o ho FA w' hC7 hO hD hS7 K hK
        obtain rfl := Option.some.inj ho.symm
        clear ho
        have ev41 : FA.eval (.tmp 41) = _ := hD 8 41 (by kernel_rfl)
        have e41 := (eval_tmp FA 41).symm.trans ev41
        replace ev41 := Lib.hid ev41
        have ev36 : FA.eval (.tmp 36) = _ := hD 3 36 (by kernel_rfl)
        have e36 := (eval_tmp FA 36).symm.trans ev36
        replace ev36 := Lib.hid ev36
        clear hO hD
        refine wanted_if rfl ?_
        refine wp_st1 27 (.tmp 41) (.tmp 36) rfl ev41.out ev36.out hS7 (Nat.le_of_ble_eq_true rfl) rfl (by kernel_rfl) ?_
        intro w'' hn' hg'
        exact hK.out undef _ (Chg.one hg' rfl) hn' trivial
      apply StepsC.one (MC.eq _) 11 rfl (by decide)
      · intro o ho FA w' hC7 hO hD K hK
        obtain rfl := Option.some.inj ho.symm
        clear ho
        have ev34 : FA.eval (.tmp 34) = _ := hD 1 34 (by kernel_rfl)
        have e34 := (eval_tmp FA 34).symm.trans ev34
        replace ev34 := Lib.hid ev34
        clear hO hD
        go_simp
        exact hK.out _ _ (Ex.refl _) rfl
      apply StepsC.one (MC.eq _) 12 rfl (by decide)
      · intro o ho FA w' hC7 hO hD K hK
        obtain rfl := Option.some.inj ho.symm
        clear ho
        have ev42 : FA.eval (.tmp 42) = _ := hD 10 42 (by kernel_rfl)
        have e42 := (eval_tmp FA 42).symm.trans ev42
        replace ev42 := Lib.hid ev42
        clear hO hD
        go_simp
        exact hK.out _ _ (Ex.refl _) rfl
      apply StepsC.one (MC.eq _) 13 rfl (by decide)
      · intro o ho FA w' hC7 hO hD K hK
        obtain rfl := Option.some.inj ho.symm
        clear ho
        have ev43 : FA.eval (.tmp 43) = _ := hD 11 43 (by kernel_rfl)
        have e43 := (eval_tmp FA 43).symm.trans ev43
        replace ev43 := Lib.hid ev43
        clear hO hD
        go_simp
        exact hK.out _ _ (Ex.refl _) rfl
      apply StepsC.mov MC.any 14 1 rfl rfl rfl
      · intro o ho FA w' hC7 hO hD hS7 K hK
        obtain rfl := Option.some.inj ho.symm
        clear ho
        have ev44 : FA.eval (.tmp 44) = _ := hD 12 44 (by kernel_rfl)
        have e44 := (eval_tmp FA 44).symm.trans ev44
        replace ev44 := Lib.hid ev44
        have ev38 : FA.eval (.tmp 38) = _ := hD 5 38 (by kernel_rfl)
        have e38 := (eval_tmp FA 38).symm.trans ev38
        replace ev38 := Lib.hid ev38
        clear hO hD
        refine wanted_if rfl ?_
        refine wp_st1 27 (.tmp 44) (.tmp 38) rfl ev44.out ev38.out hS7 (Nat.le_of_ble_eq_true rfl) rfl (by kernel_rfl) ?_
        intro w'' hn' hg'
        exact hK.out undef _ (Chg.one hg' rfl) hn' trivial
      refine StepsC.fin_ (fun vs w' hC7 hI7 hp => ?_)
      have p0 : vs 0 = _ := hp 0 (by omega) rfl
      have p1 : vs 1 = _ := hp 1 (by omega) rfl
      have p2 : vs 2 = _ := hp 2 (by omega) rfl
      have p3 : vs 3 = _ := hp 3 (by omega) rfl
      have p4 : vs 4 = _ := hp 4 (by omega) rfl
      have p5 : vs 5 = _ := hp 5 (by omega) rfl
      have p6 : vs 6 = _ := hp 6 (by omega) rfl
      have p7 : vs 7 = _ := hp 7 (by omega) rfl
      have p8 : vs 8 = _ := hp 8 (by omega) rfl
      have p10 : vs 10 = _ := hp 10 (by omega) rfl
      have p11 : vs 11 = _ := hp 11 (by omega) rfl
      have p12 : vs 12 = _ := hp 12 (by omega) rfl
      clear hp
      simp only [List.take_succ_cons, List.take_zero, List.drop_succ_cons, List.drop_zero, putAll, Nat.zero_add, Nat.reduceAdd, Act.put, List.setIfInBounds_toArray, List.set_cons_zero, List.set_cons_succ, p0, p1, p2, p3, p4, p5, p6, p7, p8, p10, p11, p12]
      clear p0 p1 p2 p3 p4 p5 p6 p7 p8 p10 p11 p12
      clear vs
      replace hC := hC.trans hC7
      replace hI := hI7
      clear hI7 hC7
      go_wp2
      go_ret
      refine ⟨rfl, (Chg.of_below B8).trans hC, fun _ => ⟨A1, n1, c1, A2, n2, c2, none, 0, 0, none, 0, 0, hI, ?_⟩⟩
      exact ⟨h1.chg hC (fun a ha hb => by have h' : a.block = g := hb; have := f1 a ha; omega), h2.chg hC (fun a ha hb => by have h' : a.block = g := hb; have := f2 a ha; omega), Rb.nil_, Rb.nil_, f1, f2, noRow, noRow⟩
set_option maxHeartbeats 4000000 in
set_option maxRecDepth 100000 in
theorem takeUDP (g : Nat) (A : Option Addr) (n c : Nat) (si st : Bool) (tl : Nat) (s6 : Bool) (sh sl dh dl pr : Nat) (fr : Bool) (Ar : Option Addr) (nr kr : Nat) (L : List UInt8) (w : World) (x0 x1 x2 : Nat) (o1 : List UInt8) (E : Int) (any : UdpAny L x0 x1 x2 o1 E) (k1 : sh < 18446744073709551616) (k2 : sl < 18446744073709551616) (k3 : dh < 18446744073709551616) (k4 : dl < 18446744073709551616) (hI : Bk w g 225 (hdC (fhC si st tl s6 sh sl s6 dh dl 0 0 pr) (tcC 0 0 0 0 0 0 0 0 none 0 0 none 0 0) (dgX 0 0 0 none 0 0) (msgC 0 0 0 0 none 0 0) fr Ar nr kr)) (h : Rb w A n c L) (hn : n ≤ 5000) : Calls Try.prog 116 #[.pointer (some ⟨g, 0, none⟩), .slice A n c] w (Tk w g (tkW E (udF s6 sh sl dh dl x0 x1 x2 o1)) { si := si, st := st, tl := tl, s6 := s6, sh := sh, sl := sl, d6 := s6, dh := dh, dl := dl, sp := x0, dp := x1, pr := pr, u0 := x0, u1 := x1, u2 := x2, o3 := o1 } fr Ar nr kr) := by
  obtain ⟨dp_, q1, q2⟩ := rowDX
  obtain ⟨du_, u1, u2⟩ := rowHd
  obtain ⟨dv_, v1, v2⟩ := rowAd
  have hg := hI.lt
  obtain ⟨b0, b1, b2⟩ := any.b
  have hlo := any.o
  have HP := any.P
  have hLn := h.1
  by_cases hE : ¬ E = 0
  · have hE1 : (E != 0) = true := by rw [bne_iff_ne]; exact hE
    unfold RetDgE at HP
    simp only [if_neg hE] at HP
    replace HP := Lib.hid HP
    have hw : tkW E (udF s6 sh sl dh dl x0 x1 x2 o1) = ofN E := by unfold tkW; rw [if_neg hE]
    rw [hw]
    clear hw any hlo b0
    go_enter Try.func116, Try.ntmps116
    go_upto_region 1 with (fail)
    go_wp2_with fail
    refine (HP.out _ _ _ _ h).mono ?_
    rintro e w1 ⟨A1, n1, c1, bs1, d1, rfl, rfl, -⟩
    go_upto_region 2 with (refine at_op (.store 49 (.tmp 5) (.tmp 10)) rfl ?_; refine wpList_stA (t := 49) 49 (.tmp 5) (.tmp 10) rfl rfl (dgX 0 0 0 A1 n1 c1) (dgX 0 0 0 none 0 0) rfl (dgX_one _ _ _ _ _ _ ) rfl rfl ?_ (szDX _ _ _ _ _ _) ?_; (· refine Bk.newK _ _ _ ?_ rfl; simp [size_plus]); intro W8 hS gr8)
    have b8 := below_grown (Below.allocS (below_plus w bs1 d1) _) gr8 (by simp)
    clear gr8 hS
    go_wp2_with (go_at_call 17; refine (ofP _ _).mono ?_; rintro e w1 ⟨rfl, rfl⟩)
    go_ret
    exact Tk.bad (ofN_ne hE) b8
  · obtain rfl : E = 0 := Classical.not_not.1 hE
    unfold RetDgE at HP
    simp only [if_true] at HP
    replace HP := Lib.hid HP
    have HF := Lib.hid (fun w A n c (h : Rb w A n c o1) (hn : n ≤ 10000) => udpFine x0 x1 x2 A n c s6 sh sl dh dl o1 w b0 b1 b2 k1 k2 k3 k4 h hn)
    have hw : tkW 0 (udF s6 sh sl dh dl x0 x1 x2 o1) = bad3 (udF s6 sh sl dh dl x0 x1 x2 o1) := by unfold tkW; simp
    rw [hw]
    clear hw hE
    generalize (udF s6 sh sl dh dl x0 x1 x2 o1) = fi at *
    go_enter Try.func116, Try.ntmps116
    go_upto_region 1 with (fail)
    go_wp2_with fail
    refine (HP.out _ _ _ _ h).mono ?_
    rintro e w1 ⟨A1, n1, c1, bs1, d1, rfl, rfl, h1, f1⟩
    go_upto_region 2 with (refine at_op (.store 49 (.tmp 5) (.tmp 10)) rfl ?_; refine wpList_stA (t := 49) 49 (.tmp 5) (.tmp 10) rfl rfl (dgX x0 x1 x2 A1 n1 c1) (dgX 0 0 0 none 0 0) rfl (dgX_one _ _ _ _ _ _ ) rfl rfl ?_ (szDX _ _ _ _ _ _) ?_; (· refine Bk.newK _ _ _ ?_ rfl; simp [size_plus]); intro W8 hS gr8)
    have b8 := below_grown (Below.allocS (below_plus w bs1 d1) _) gr8 (by simp)
    have b9 := below_grown (Below.allocS (Below.refl _ _) _) gr8 (by simp [size_plus])
    replace hI := hI.later b8
    replace h := h.later b8
    replace h1 := h1.later b9
    have hn1 : n1 ≤ 10000 := by have := h1.1; omega
    have hgs : w.heap.size + bs1.length ≥ w.heap.size := by omega
    clear gr8 b9 hlo hLn
    generalize w.heap.size + bs1.length = gs at *
    go_upto_region 4 with (fail)
    go_wp2
    refine wp_relS 13 45 rfl (by kernel_rfl) (by kernel_rfl) ?_
    apply Steps.one (MP.eq _) 1 rfl
    · intro o ho FA x hO hD K hK
      obtain rfl := Option.some.inj ho.symm
      clear ho
      have e5 := hO 5 (by kernel_rfl)
      simp only [eval_tmp, List.getElem?_toArray, List.getElem?_cons_succ, List.getElem?_cons_zero, Option.getD_some] at e5
      have ev5 := Lib.hid ((eval_tmp FA 5).trans e5)
      clear hO hD
      refine wanted_if rfl ?_
      refine wp_ldA 49 (.tmp 5) rfl (dgX x0 x1 x2 A1 n1 c1) ev5.out (hS.later (below_plus _ _ _)) (whole_ _) q1 q2 (szDX _ _ _ _ _ _) ?_
      exact hK.out _ _ (Ex.refl _) rfl
    apply Steps.one (MP.eq _) 2 rfl
    · intro o ho FA x hO hD K hK
      obtain rfl := Option.some.inj ho.symm
      clear ho
      have e0 := hO 0 (by kernel_rfl)
      simp only [eval_tmp, List.getElem?_toArray, List.getElem?_cons_succ, List.getElem?_cons_zero, Option.getD_some] at e0
      have ev0 := Lib.hid ((eval_tmp FA 0).trans e0)
      clear hO hD
      go_simp
      exact hK.out _ _ (Ex.refl _) rfl
    apply Steps.one (MP.eq _) 3 rfl
    · intro o ho FA x hO hD K hK
      obtain rfl := Option.some.inj ho.symm
      clear ho
      have ev17 : FA.eval (.tmp 17) = _ := hD 1 17 (by kernel_rfl)
      have e17 := (eval_tmp FA 17).symm.trans ev17
      replace ev17 := Lib.hid ev17
      clear hO hD
      go_simp
      exact hK.out _ _ (Ex.refl _) rfl
    apply Steps.one (MP.eq _) 4 rfl
    · intro o ho FA x hO hD K hK
      obtain rfl := Option.some.inj ho.symm
      clear ho
      have ev18 : FA.eval (.tmp 18) = _ := hD 2 18 (by kernel_rfl)
      have e18 := (eval_tmp FA 18).symm.trans ev18
      replace ev18 := Lib.hid ev18
      clear hO hD
      go_simp
      exact hK.out _ _ (Ex.refl _) rfl
    apply Steps.one (MP.eq _) 5 rfl
    · intro o ho FA x hO hD K hK
      obtain rfl := Option.some.inj ho.symm
      clear ho
      have ev19 : FA.eval (.tmp 19) = _ := hD 3 19 (by kernel_rfl)
      have e19 := (eval_tmp FA 19).symm.trans ev19
      replace ev19 := Lib.hid ev19
      clear hO hD
      go_simp
      exact hK.out _ _ (Ex.refl _) rfl
    apply Steps.one (MP.eq _) 6 rfl
    · intro o ho FA x hO hD K hK
      obtain rfl := Option.some.inj ho.symm
      clear ho
      have ev20 : FA.eval (.tmp 20) = _ := hD 4 20 (by kernel_rfl)
      have e20 := (eval_tmp FA 20).symm.trans ev20
      replace ev20 := Lib.hid ev20
      clear hO hD
      refine wanted_if rfl ?_
      refine wp_ldA 26 (.tmp 20) rfl ([.bool s6, .int .u64 (sh : Int), .int .u64 (sl : Int)]) ev20.out (hI.later (below_plus _ _ _)) rfl v1 v2 (szAd _ _ _) ?_
      exact hK.out _ _ (Ex.refl _) rfl
    apply Steps.one (MP.eq _) 7 rfl
    · intro o ho FA x hO hD K hK
      obtain rfl := Option.some.inj ho.symm
      clear ho
      have e0 := hO 0 (by kernel_rfl)
      simp only [eval_tmp, List.getElem?_toArray, List.getElem?_cons_succ, List.getElem?_cons_zero, Option.getD_some] at e0
      have ev0 := Lib.hid ((eval_tmp FA 0).trans e0)
      clear hO hD
      go_simp
      exact hK.out _ _ (Ex.refl _) rfl
    apply Steps.one (MP.eq _) 8 rfl
    · intro o ho FA x hO hD K hK
      obtain rfl := Option.some.inj ho.symm
      clear ho
      have ev22 : FA.eval (.tmp 22) = _ := hD 6 22 (by kernel_rfl)
      have e22 := (eval_tmp FA 22).symm.trans ev22
      replace ev22 := Lib.hid ev22
      clear hO hD
      go_simp
      exact hK.out _ _ (Ex.refl _) rfl
    apply Steps.one (MP.eq _) 9 rfl
    · intro o ho FA x hO hD K hK
      obtain rfl := Option.some.inj ho.symm
      clear ho
      have ev23 : FA.eval (.tmp 23) = _ := hD 7 23 (by kernel_rfl)
      have e23 := (eval_tmp FA 23).symm.trans ev23
      replace ev23 := Lib.hid ev23
      clear hO hD
      go_simp
      exact hK.out _ _ (Ex.refl _) rfl
    apply Steps.one (MP.eq _) 10 rfl
    · intro o ho FA x hO hD K hK
      obtain rfl := Option.some.inj ho.symm
      clear ho
      have ev24 : FA.eval (.tmp 24) = _ := hD 8 24 (by kernel_rfl)
      have e24 := (eval_tmp FA 24).symm.trans ev24
      replace ev24 := Lib.hid ev24
      clear hO hD
      go_simp
      exact hK.out _ _ (Ex.refl _) rfl
    apply Steps.one (MP.eq _) 11 rfl
    · intro o ho FA x hO hD K hK
      obtain rfl := Option.some.inj ho.symm
      clear ho
      have ev25 : FA.eval (.tmp 25) = _ := hD 9 25 (by kernel_rfl)
      have e25 := (eval_tmp FA 25).symm.trans ev25
      replace ev25 := Lib.hid ev25
      clear hO hD
      refine wanted_if rfl ?_
      refine wp_ldA 26 (.tmp 25) rfl ([.bool s6, .int .u64 (dh : Int), .int .u64 (dl : Int)]) ev25.out (hI.later (below_plus _ _ _)) rfl v1 v2 (szAd _ _ _) ?_
      exact hK.out _ _ (Ex.refl _) rfl
    apply Steps.one (MP.eq _) 12 rfl
    · intro o ho FA x hO hD K hK
      obtain rfl := Option.some.inj ho.symm
      clear ho
      have ev16 : FA.eval (.tmp 16) = _ := hD 0 16 (by kernel_rfl)
      have e16 := (eval_tmp FA 16).symm.trans ev16
      replace ev16 := Lib.hid ev16
      have ev21 : FA.eval (.tmp 21) = _ := hD 5 21 (by kernel_rfl)
      have e21 := (eval_tmp FA 21).symm.trans ev21
      replace ev21 := Lib.hid ev21
      have ev26 : FA.eval (.tmp 26) = _ := hD 10 26 (by kernel_rfl)
      have e26 := (eval_tmp FA 26).symm.trans ev26
      replace ev26 := Lib.hid ev26
      clear hO hD
      go_simp
      refine (HF.out _ _ _ _ (h1.plus_ _ _) hn1).mono ?_
      rintro e w1 ⟨bs2, d2, rfl, rfl⟩
      exact hK.out _ _ (Ex.plus_ _ _ _) rfl
    apply Steps.one (MP.eq _) 13 rfl
    · intro o ho FA x hO hD K hK
      obtain rfl := Option.some.inj ho.symm
      clear ho
      have ev27 : FA.eval (.tmp 27) = _ := hD 11 27 (by kernel_rfl)
      have e27 := (eval_tmp FA 27).symm.trans ev27
      replace ev27 := Lib.hid ev27
      clear hO hD
      go_simp
      exact hK.out _ _ (Ex.refl _) rfl
    refine Steps.fin_ (fun vs x hp => ?_)
    have p0 : vs 0 = _ := hp 0 (by omega)
    have p1 : vs 1 = _ := hp 1 (by omega)
    have p2 : vs 2 = _ := hp 2 (by omega)
    have p3 : vs 3 = _ := hp 3 (by omega)
    have p4 : vs 4 = _ := hp 4 (by omega)
    have p5 : vs 5 = _ := hp 5 (by omega)
    have p6 : vs 6 = _ := hp 6 (by omega)
    have p7 : vs 7 = _ := hp 7 (by omega)
    have p8 : vs 8 = _ := hp 8 (by omega)
    have p9 : vs 9 = _ := hp 9 (by omega)
    have p10 : vs 10 = _ := hp 10 (by omega)
    have p11 : vs 11 = _ := hp 11 (by omega)
    have p12 : vs 12 = _ := hp 12 (by omega)
    clear hp
    simp only [List.take_succ_cons, List.take_zero, List.drop_succ_cons, List.drop_zero, putAll, Nat.zero_add, Nat.reduceAdd, Act.put, List.setIfInBounds_toArray, List.set_cons_zero, List.set_cons_succ, p0, p1, p2, p3, p4, p5, p6, p7, p8, p9, p10, p11, p12]
    clear p0 p1 p2 p3 p4 p5 p6 p7 p8 p9 p10 p11 p12
    clear vs
    replace hI := hI.later (below_plus _ x.bs x.d)
    replace hS := hS.later (below_plus _ x.bs x.d)
    replace h1 := h1.plus_ x.bs x.d
    skip
    replace b8 := belowP b8 x.bs x.d
    generalize plus W8 x.bs x.d = W7 at *
    cases fi
    · go_wp2
      go_ret
      exact Tk.bad (by decide) b8
    · have hC : Chg (fun b => b = g) W7 W7 := Chg.refl _
      have B8 := b8
      have nS : ¬ (fun b => b = g) gs := fun h => by have h' : gs = g := h; omega
      go_upto_region 6 with (fail)
      refine wp_region_lit ?_
      refine wpList_plain rfl (fun K hK => ?_); go_simp; with_reducible refine hK _ _ ?_; clear hK K
      refine wpList_ldA (t := 49) 49 (.tmp 5) rfl rfl (dgX x0 x1 x2 A1 n1 c1) rfl (hS) (whole_ _) q1 q2 (szDX _ _ _ _ _ _) ?_
      iterate 2 (refine wpList_plain rfl (fun K hK => ?_); go_simp; with_reducible refine hK _ _ ?_; clear hK K)
      refine wpList_stM 49 (.tmp 32) (.tmp 30) rfl rfl (dgX x0 x1 x2 A1 n1 c1) (hdC (fhC si st tl s6 sh sl s6 dh dl 0 0 pr) (tcC 0 0 0 0 0 0 0 0 none 0 0 none 0 0) (dgX 0 0 0 none 0 0) (msgC 0 0 0 0 none 0 0) fr Ar nr kr) (Nat.le_of_ble_eq_true rfl) (dgX_one _ _ _ _ _ _ ) (by rfl) (by rfl) hI (szDX _ _ _ _ _ _) ?_
      intro W9 hI' gr'
      replace hI : Bk W9 g 225 (hdC (fhC si st tl s6 sh sl s6 dh dl 0 0 pr) (tcC 0 0 0 0 0 0 0 0 none 0 0 none 0 0) (dgX x0 x1 x2 A1 n1 c1) (msgC 0 0 0 0 none 0 0) fr Ar nr kr) := hI'
      replace hC := hC.trans (Chg.one gr' rfl)
      clear hI' gr'
      simp only [Act.put, List.setIfInBounds_toArray, List.set_cons_zero, List.set_cons_succ]
      have hSS := hS.chg hC nS
      replace b8 : Below w.heap.size w w := Below.refl _ _
      go_upto_region 7 with (fail)
      go_wp2
      refine wp_suS (fun b => b = g) 14 45 2 [9, 13] rfl (by kernel_rfl) (by kernel_rfl) (fun k w' => Bk w' g 225 (if k = 0 then hdC (fhC si st tl s6 sh sl s6 dh dl 0 0 pr) (tcC 0 0 0 0 0 0 0 0 none 0 0 none 0 0) (dgX x0 x1 x2 A1 n1 c1) (msgC 0 0 0 0 none 0 0) fr Ar nr kr else if k = 1 then hdC (fhC si st tl s6 sh sl s6 dh dl x0 0 pr) (tcC 0 0 0 0 0 0 0 0 none 0 0 none 0 0) (dgX x0 x1 x2 A1 n1 c1) (msgC 0 0 0 0 none 0 0) fr Ar nr kr else hdC (fhC si st tl s6 sh sl s6 dh dl x0 x1 pr) (tcC 0 0 0 0 0 0 0 0 none 0 0 none 0 0) (dgX x0 x1 x2 A1 n1 c1) (msgC 0 0 0 0 none 0 0) fr Ar nr kr)) (fun k w w' h h' => h.later h'.below) (hI) ?_
      apply StepsC.one (MC.eq _) 1 rfl (by decide)
      · intro o ho FA w' hC7 hO hD K hK
        obtain rfl := Option.some.inj ho.symm
        clear ho
        have e0 := hO 0 (by kernel_rfl)
        simp only [eval_tmp, List.getElem?_toArray, List.getElem?_cons_succ, List.getElem?_cons_zero, Option.getD_some] at e0
        have ev0 := Lib.hid ((eval_tmp FA 0).trans e0)
        clear hO hD
        go_simp
        exact hK.out _ _ (Ex.refl _) rfl
      apply StepsC.one (MC.eq _) 2 rfl (by decide)
      · intro o ho FA w' hC7 hO hD K hK
        obtain rfl := Option.some.inj ho.symm
        clear ho
        have e0 := hO 0 (by kernel_rfl)
        simp only [eval_tmp, List.getElem?_toArray, List.getElem?_cons_succ, List.getElem?_cons_zero, Option.getD_some] at e0
        have ev0 := Lib.hid ((eval_tmp FA 0).trans e0)
        clear hO hD
        go_simp
        exact hK.out _ _ (Ex.refl _) rfl
      apply StepsC.one (MC.eq _) 3 rfl (by decide)
      · intro o ho FA w' hC7 hO hD K hK
        obtain rfl := Option.some.inj ho.symm
        clear ho
        have e5 := hO 5 (by kernel_rfl)
        simp only [eval_tmp, List.getElem?_toArray, List.getElem?_cons_succ, List.getElem?_cons_zero, Option.getD_some] at e5
        have ev5 := Lib.hid ((eval_tmp FA 5).trans e5)
        clear hO hD
        go_simp
        exact hK.out _ _ (Ex.refl _) rfl
      apply StepsC.one (MC.eq _) 4 rfl (by decide)
      · intro o ho FA w' hC7 hO hD K hK
        obtain rfl := Option.some.inj ho.symm
        clear ho
        have ev35 : FA.eval (.tmp 35) = _ := hD 2 35 (by kernel_rfl)
        have e35 := (eval_tmp FA 35).symm.trans ev35
        replace ev35 := Lib.hid ev35
        clear hO hD
        refine wanted_if rfl ?_
        refine wp_ld1 27 (.tmp 35) rfl ev35.out (hSS.chg hC7 nS) rfl Try.underlying27 rfl ?_
        exact hK.out _ _ (Ex.refl _) rfl
      apply StepsC.one (MC.eq _) 5 rfl (by decide)
      · intro o ho FA w' hC7 hO hD K hK
        obtain rfl := Option.some.inj ho.symm
        clear ho
        have e5 := hO 5 (by kernel_rfl)
        simp only [eval_tmp, List.getElem?_toArray, List.getElem?_cons_succ, List.getElem?_cons_zero, Option.getD_some] at e5
        have ev5 := Lib.hid ((eval_tmp FA 5).trans e5)
        clear hO hD
        go_simp
        exact hK.out _ _ (Ex.refl _) rfl
      apply StepsC.one (MC.eq _) 6 rfl (by decide)
      · intro o ho FA w' hC7 hO hD K hK
        obtain rfl := Option.some.inj ho.symm
        clear ho
        have ev37 : FA.eval (.tmp 37) = _ := hD 4 37 (by kernel_rfl)
        have e37 := (eval_tmp FA 37).symm.trans ev37
        replace ev37 := Lib.hid ev37
        clear hO hD
        refine wanted_if rfl ?_
        refine wp_ld1 27 (.tmp 37) rfl ev37.out (hSS.chg hC7 nS) rfl Try.underlying27 rfl ?_
        exact hK.out _ _ (Ex.refl _) rfl
      apply StepsC.one (MC.eq _) 7 rfl (by decide)
      · intro o ho FA w' hC7 hO hD K hK
        obtain rfl := Option.some.inj ho.symm
        clear ho
        have ev33 : FA.eval (.tmp 33) = _ := hD 0 33 (by kernel_rfl)
        have e33 := (eval_tmp FA 33).symm.trans ev33
        replace ev33 := Lib.hid ev33
        clear hO hD
        go_simp
        exact hK.out _ _ (Ex.refl _) rfl
      apply StepsC.one (MC.eq _) 8 rfl (by decide)
      · intro o ho FA w' hC7 hO hD K hK
        obtain rfl := Option.some.inj ho.symm
        clear ho
        have ev39 : FA.eval (.tmp 39) = _ := hD 6 39 (by kernel_rfl)
        have e39 := (eval_tmp FA 39).symm.trans ev39
        replace ev39 := Lib.hid ev39
        clear hO hD
        go_simp
        exact hK.out _ _ (Ex.refl _) rfl
      apply StepsC.one (MC.eq _) 9 rfl (by decide)
      · intro o ho FA w' hC7 hO hD K hK
        obtain rfl := Option.some.inj ho.symm
        clear ho
        have ev40 : FA.eval (.tmp 40) = _ := hD 7 40 (by kernel_rfl)
        have e40 := (eval_tmp FA 40).symm.trans ev40
        replace ev40 := Lib.hid ev40
        clear hO hD
        go_simp
        exact hK.out _ _ (Ex.refl _) rfl
      apply StepsC.mov MC.any 10 0 rfl rfl rfl
      · intro o ho FA w' hC7 hO hD hS7 K hK
        obtain rfl := Option.some.inj ho.symm
        clear ho
        have ev41 : FA.eval (.tmp 41) = _ := hD 8 41 (by kernel_rfl)
        have e41 := (eval_tmp FA 41).symm.trans ev41
        replace ev41 := Lib.hid ev41
        have ev36 : FA.eval (.tmp 36) = _ := hD 3 36 (by kernel_rfl)
        have e36 := (eval_tmp FA 36).symm.trans ev36
        replace ev36 := Lib.hid ev36
        clear hO hD
        refine wanted_if rfl ?_
        refine wp_st1 27 (.tmp 41) (.tmp 36) rfl ev41.out ev36.out hS7 (Nat.le_of_ble_eq_true rfl) rfl (by kernel_rfl) ?_
        intro w'' hn' hg'
        exact hK.out undef _ (Chg.one hg' rfl) hn' trivial
      apply StepsC.one (MC.eq _) 11 rfl (by decide)
      · intro o ho FA w' hC7 hO hD K hK
        obtain rfl := Option.some.inj ho.symm
        clear ho
        have ev34 : FA.eval (.tmp 34) = _ := hD 1 34 (by kernel_rfl)
        have e34 := (eval_tmp FA 34).symm.trans ev34
        replace ev34 := Lib.hid ev34
        clear hO hD
        go_simp
        exact hK.out _ _ (Ex.refl _) rfl
      apply StepsC.one (MC.eq _) 12 rfl (by decide)
      · intro o ho FA w' hC7 hO hD K hK
        obtain rfl := Option.some.inj ho.symm
        clear ho
        have ev42 : FA.eval (.tmp 42) = _ := hD 10 42 (by kernel_rfl)
        have e42 := (eval_tmp FA 42).symm.trans ev42
        replace ev42 := Lib.hid ev42
        clear hO hD
        go_simp
        exact hK.out _ _ (Ex.refl _) rfl
      apply StepsC.one (MC.eq _) 13 rfl (by decide)
      · intro o ho FA w' hC7 hO hD K hK
        obtain rfl := Option.some.inj ho.symm
        clear ho
        have ev43 : FA.eval (.tmp 43) = _ := hD 11 43 (by kernel_rfl)
        have e43 := (eval_tmp FA 43).symm.trans ev43
        replace ev43 := Lib.hid ev43
        clear hO hD
        go_simp
        exact hK.out _ _ (Ex.refl _) rfl
      apply StepsC.mov MC.any 14 1 rfl rfl rfl
      · intro o ho FA w' hC7 hO hD hS7 K hK
        obtain rfl := Option.some.inj ho.symm
        clear ho
        have ev44 : FA.eval (.tmp 44) = _ := hD 12 44 (by kernel_rfl)
        have e44 := (eval_tmp FA 44).symm.trans ev44
        replace ev44 := Lib.hid ev44
        have ev38 : FA.eval (.tmp 38) = _ := hD 5 38 (by kernel_rfl)
        have e38 := (eval_tmp FA 38).symm.trans ev38
        replace ev38 := Lib.hid ev38
        clear hO hD
        refine wanted_if rfl ?_
        refine wp_st1 27 (.tmp 44) (.tmp 38) rfl ev44.out ev38.out hS7 (Nat.le_of_ble_eq_true rfl) rfl (by kernel_rfl) ?_
        intro w'' hn' hg'
        exact hK.out undef _ (Chg.one hg' rfl) hn' trivial
      refine StepsC.fin_ (fun vs w' hC7 hI7 hp => ?_)
      have p0 : vs 0 = _ := hp 0 (by omega) rfl
      have p1 : vs 1 = _ := hp 1 (by omega) rfl
      have p2 : vs 2 = _ := hp 2 (by omega) rfl
      have p3 : vs 3 = _ := hp 3 (by omega) rfl
      have p4 : vs 4 = _ := hp 4 (by omega) rfl
      have p5 : vs 5 = _ := hp 5 (by omega) rfl
      have p6 : vs 6 = _ := hp 6 (by omega) rfl
      have p7 : vs 7 = _ := hp 7 (by omega) rfl
      have p8 : vs 8 = _ := hp 8 (by omega) rfl
      have p10 : vs 10 = _ := hp 10 (by omega) rfl
      have p11 : vs 11 = _ := hp 11 (by omega) rfl
      have p12 : vs 12 = _ := hp 12 (by omega) rfl
      clear hp
      simp only [List.take_succ_cons, List.take_zero, List.drop_succ_cons, List.drop_zero, putAll, Nat.zero_add, Nat.reduceAdd, Act.put, List.setIfInBounds_toArray, List.set_cons_zero, List.set_cons_succ, p0, p1, p2, p3, p4, p5, p6, p7, p8, p10, p11, p12]
      clear p0 p1 p2 p3 p4 p5 p6 p7 p8 p10 p11 p12
      clear vs
      replace hC := hC.trans hC7
      replace hI := hI7
      clear hI7 hC7
      go_wp2
      go_ret
      refine ⟨rfl, (Chg.of_below B8).trans hC, fun _ => ⟨none, 0, 0, none, 0, 0, A1, n1, c1, none, 0, 0, hI, ?_⟩⟩
      exact ⟨Rb.nil_, Rb.nil_, h1.chg hC (fun a ha hb => by have h' : a.block = g := hb; have := f1 a ha; omega), Rb.nil_, noRow, noRow, f1, noRow⟩
set_option maxHeartbeats 4000000 in
set_option maxRecDepth 100000 in
theorem takeICMP (g : Nat) (A : Option Addr) (n c : Nat) (si st : Bool) (tl : Nat) (s6 : Bool) (sh sl dh dl pr : Nat) (fr : Bool) (Ar : Option Addr) (nr kr : Nat) (L : List UInt8) (w : World) (x0 x1 x2 x3 : Nat) (o1 : List UInt8) (ok : Bool) (any : IcmpAny L x0 x1 x2 x3 o1 ok) (k1 : sh < 18446744073709551616) (k2 : sl < 18446744073709551616) (k3 : dh < 18446744073709551616) (k4 : dl < 18446744073709551616) (hI : Bk w g 225 (hdC (fhC si st tl s6 sh sl s6 dh dl 0 0 pr) (tcC 0 0 0 0 0 0 0 0 none 0 0 none 0 0) (dgX 0 0 0 none 0 0) (msgC 0 0 0 0 none 0 0) fr Ar nr kr)) (h : Rb w A n c L) (hn : n ≤ 5000) : Calls Try.prog 117 #[.pointer (some ⟨g, 0, none⟩), .slice A n c] w (Tk w g (tkW (if ok then 0 else 20) (65535 - fd (icT s6 sh sl s6 dh dl x0 x1 x2 x3 o1) == 0)) { si := si, st := st, tl := tl, s6 := s6, sh := sh, sl := sl, d6 := s6, dh := dh, dl := dl, sp := 0, dp := 0, pr := pr, m0 := x0, m1 := x1, m2 := x2, m3 := x3, o4 := o1 } fr Ar nr kr) := by
  obtain ⟨dp_, q1, q2⟩ := rowMs
  obtain ⟨du_, u1, u2⟩ := rowHd
  obtain ⟨dv_, v1, v2⟩ := rowAd
  have hg := hI.lt
  obtain ⟨b0, b1, b2, b3⟩ := any.b
  have hlo := any.o
  have HP := any.P
  have hLn := h.1
  by_cases hE : ok = false
  · subst hE
    skip
    simp only [Bool.false_eq_true, if_false] at HP
    replace HP := Lib.hid HP
    have hw : tkW (if false = true then 0 else 20) (65535 - fd (icT s6 sh sl s6 dh dl x0 x1 x2 x3 o1) == 0) = ofN 20 := by unfold tkW; simp
    rw [hw]
    clear hw any hlo b0
    go_enter Try.func117, Try.ntmps117
    go_upto_region 1 with (fail)
    go_wp2_with fail
    refine (HP.out _ _ _ _ h).mono ?_
    rintro e w1 ⟨A1, n1, c1, bs1, d1, rfl, rfl, -, -⟩
    go_upto_region 2 with (refine at_op (.store 51 (.tmp 5) (.tmp 10)) rfl ?_; refine wpList_stA (t := 51) 51 (.tmp 5) (.tmp 10) rfl rfl (msgC x0 x1 x2 x3 A1 n1 c1) (msgC 0 0 0 0 none 0 0) rfl (msgC_one _ _ _ _ _ _ _ ) rfl rfl ?_ (szMs _ _ _ _ _ _ _ ) ?_; (· refine Bk.newK _ _ _ ?_ rfl; simp [size_plus]); intro W8 hS gr8)
    have b8 := below_grown (Below.allocS (below_plus w bs1 d1) _) gr8 (by simp)
    clear gr8 hS
    go_wp2_with (go_at_call 17; refine (ofP _ _).mono ?_; rintro e w1 ⟨rfl, rfl⟩)
    go_ret
    exact Tk.bad (ofN_ne (by decide)) b8
  · obtain rfl : ok = true := by cases ok <;> simp_all
    skip
    simp only [if_true] at HP
    replace HP := Lib.hid HP
    have HF := Lib.hid (fun w A n c (h : Rb w A n c o1) (hn : n ≤ 10000) => icmpFine x0 x1 x2 x3 A n c s6 sh sl s6 dh dl o1 w b0 b1 b2 b3 k1 k2 k3 k4 h hn)
    have hw : tkW (if true = true then 0 else 20) (65535 - fd (icT s6 sh sl s6 dh dl x0 x1 x2 x3 o1) == 0) = bad3 (65535 - fd (icT s6 sh sl s6 dh dl x0 x1 x2 x3 o1) == 0) := by unfold tkW; simp
    rw [hw]
    clear hw hE
    generalize (65535 - fd (icT s6 sh sl s6 dh dl x0 x1 x2 x3 o1) == 0) = fi at *
    go_enter Try.func117, Try.ntmps117
    go_upto_region 1 with (fail)
    go_wp2_with fail
    refine (HP.out _ _ _ _ h).mono ?_
    rintro e w1 ⟨A1, n1, c1, bs1, d1, rfl, rfl, h1, f1⟩
    go_upto_region 2 with (refine at_op (.store 51 (.tmp 5) (.tmp 10)) rfl ?_; refine wpList_stA (t := 51) 51 (.tmp 5) (.tmp 10) rfl rfl (msgC x0 x1 x2 x3 A1 n1 c1) (msgC 0 0 0 0 none 0 0) rfl (msgC_one _ _ _ _ _ _ _ ) rfl rfl ?_ (szMs _ _ _ _ _ _ _ ) ?_; (· refine Bk.newK _ _ _ ?_ rfl; simp [size_plus]); intro W8 hS gr8)
    have b8 := below_grown (Below.allocS (below_plus w bs1 d1) _) gr8 (by simp)
    have b9 := below_grown (Below.allocS (Below.refl _ _) _) gr8 (by simp [size_plus])
    replace hI := hI.later b8
    replace h := h.later b8
    replace h1 := h1.later b9
    have hn1 : n1 ≤ 10000 := by have := h1.1; omega
    have hgs : w.heap.size + bs1.length ≥ w.heap.size := by omega
    clear gr8 b9 hlo hLn
    generalize w.heap.size + bs1.length = gs at *
    go_upto_region 4 with (fail)
    go_wp2
    refine wp_relS 13 33 rfl (by kernel_rfl) (by kernel_rfl) ?_
    apply Steps.one (MP.eq _) 1 rfl
    · intro o ho FA x hO hD K hK
      obtain rfl := Option.some.inj ho.symm
      clear ho
      have e5 := hO 5 (by kernel_rfl)
      simp only [eval_tmp, List.getElem?_toArray, List.getElem?_cons_succ, List.getElem?_cons_zero, Option.getD_some] at e5
      have ev5 := Lib.hid ((eval_tmp FA 5).trans e5)
      clear hO hD
      refine wanted_if rfl ?_
      refine wp_ldA 51 (.tmp 5) rfl (msgC x0 x1 x2 x3 A1 n1 c1) ev5.out (hS.later (below_plus _ _ _)) (whole_ _) q1 q2 (szMs _ _ _ _ _ _ _ ) ?_
      exact hK.out _ _ (Ex.refl _) rfl
    apply Steps.one (MP.eq _) 2 rfl
    · intro o ho FA x hO hD K hK
      obtain rfl := Option.some.inj ho.symm
      clear ho
      have e0 := hO 0 (by kernel_rfl)
      simp only [eval_tmp, List.getElem?_toArray, List.getElem?_cons_succ, List.getElem?_cons_zero, Option.getD_some] at e0
      have ev0 := Lib.hid ((eval_tmp FA 0).trans e0)
      clear hO hD
      go_simp
      exact hK.out _ _ (Ex.refl _) rfl
    apply Steps.one (MP.eq _) 3 rfl
    · intro o ho FA x hO hD K hK
      obtain rfl := Option.some.inj ho.symm
      clear ho
      have ev17 : FA.eval (.tmp 17) = _ := hD 1 17 (by kernel_rfl)
      have e17 := (eval_tmp FA 17).symm.trans ev17
      replace ev17 := Lib.hid ev17
      clear hO hD
      go_simp
      exact hK.out _ _ (Ex.refl _) rfl
    apply Steps.one (MP.eq _) 4 rfl
    · intro o ho FA x hO hD K hK
      obtain rfl := Option.some.inj ho.symm
      clear ho
      have ev18 : FA.eval (.tmp 18) = _ := hD 2 18 (by kernel_rfl)
      have e18 := (eval_tmp FA 18).symm.trans ev18
      replace ev18 := Lib.hid ev18
      clear hO hD
      go_simp
      exact hK.out _ _ (Ex.refl _) rfl
    apply Steps.one (MP.eq _) 5 rfl
    · intro o ho FA x hO hD K hK
      obtain rfl := Option.some.inj ho.symm
      clear ho
      have ev19 : FA.eval (.tmp 19) = _ := hD 3 19 (by kernel_rfl)
      have e19 := (eval_tmp FA 19).symm.trans ev19
      replace ev19 := Lib.hid ev19
      clear hO hD
      go_simp
      exact hK.out _ _ (Ex.refl _) rfl
    apply Steps.one (MP.eq _) 6 rfl
    · intro o ho FA x hO hD K hK
      obtain rfl := Option.some.inj ho.symm
      clear ho
      have ev20 : FA.eval (.tmp 20) = _ := hD 4 20 (by kernel_rfl)
      have e20 := (eval_tmp FA 20).symm.trans ev20
      replace ev20 := Lib.hid ev20
      clear hO hD
      refine wanted_if rfl ?_
      refine wp_ldA 26 (.tmp 20) rfl ([.bool s6, .int .u64 (sh : Int), .int .u64 (sl : Int)]) ev20.out (hI.later (below_plus _ _ _)) rfl v1 v2 (szAd _ _ _) ?_
      exact hK.out _ _ (Ex.refl _) rfl
    apply Steps.one (MP.eq _) 7 rfl
    · intro o ho FA x hO hD K hK
      obtain rfl := Option.some.inj ho.symm
      clear ho
      have e0 := hO 0 (by kernel_rfl)
      simp only [eval_tmp, List.getElem?_toArray, List.getElem?_cons_succ, List.getElem?_cons_zero, Option.getD_some] at e0
      have ev0 := Lib.hid ((eval_tmp FA 0).trans e0)
      clear hO hD
      go_simp
      exact hK.out _ _ (Ex.refl _) rfl
    apply Steps.one (MP.eq _) 8 rfl
    · intro o ho FA x hO hD K hK
      obtain rfl := Option.some.inj ho.symm
      clear ho
      have ev22 : FA.eval (.tmp 22) = _ := hD 6 22 (by kernel_rfl)
      have e22 := (eval_tmp FA 22).symm.trans ev22
      replace ev22 := Lib.hid ev22
      clear hO hD
      go_simp
      exact hK.out _ _ (Ex.refl _) rfl
    apply Steps.one (MP.eq _) 9 rfl
    · intro o ho FA x hO hD K hK
      obtain rfl := Option.some.inj ho.symm
      clear ho
      have ev23 : FA.eval (.tmp 23) = _ := hD 7 23 (by kernel_rfl)
      have e23 := (eval_tmp FA 23).symm.trans ev23
      replace ev23 := Lib.hid ev23
      clear hO hD
      go_simp
      exact hK.out _ _ (Ex.refl _) rfl
    apply Steps.one (MP.eq _) 10 rfl
    · intro o ho FA x hO hD K hK
      obtain rfl := Option.some.inj ho.symm
      clear ho
      have ev24 : FA.eval (.tmp 24) = _ := hD 8 24 (by kernel_rfl)
      have e24 := (eval_tmp FA 24).symm.trans ev24
      replace ev24 := Lib.hid ev24
      clear hO hD
      go_simp
      exact hK.out _ _ (Ex.refl _) rfl
    apply Steps.one (MP.eq _) 11 rfl
    · intro o ho FA x hO hD K hK
      obtain rfl := Option.some.inj ho.symm
      clear ho
      have ev25 : FA.eval (.tmp 25) = _ := hD 9 25 (by kernel_rfl)
      have e25 := (eval_tmp FA 25).symm.trans ev25
      replace ev25 := Lib.hid ev25
      clear hO hD
      refine wanted_if rfl ?_
      refine wp_ldA 26 (.tmp 25) rfl ([.bool s6, .int .u64 (dh : Int), .int .u64 (dl : Int)]) ev25.out (hI.later (below_plus _ _ _)) rfl v1 v2 (szAd _ _ _) ?_
      exact hK.out _ _ (Ex.refl _) rfl
    apply Steps.one (MP.eq _) 12 rfl
    · intro o ho FA x hO hD K hK
      obtain rfl := Option.some.inj ho.symm
      clear ho
      have ev16 : FA.eval (.tmp 16) = _ := hD 0 16 (by kernel_rfl)
      have e16 := (eval_tmp FA 16).symm.trans ev16
      replace ev16 := Lib.hid ev16
      have ev21 : FA.eval (.tmp 21) = _ := hD 5 21 (by kernel_rfl)
      have e21 := (eval_tmp FA 21).symm.trans ev21
      replace ev21 := Lib.hid ev21
      have ev26 : FA.eval (.tmp 26) = _ := hD 10 26 (by kernel_rfl)
      have e26 := (eval_tmp FA 26).symm.trans ev26
      replace ev26 := Lib.hid ev26
      clear hO hD
      go_simp
      refine (HF.out _ _ _ _ (h1.plus_ _ _) hn1).mono ?_
      rintro e w1 ⟨bs2, d2, rfl, rfl⟩
      exact hK.out _ _ (Ex.plus_ _ _ _) rfl
    apply Steps.one (MP.eq _) 13 rfl
    · intro o ho FA x hO hD K hK
      obtain rfl := Option.some.inj ho.symm
      clear ho
      have ev27 : FA.eval (.tmp 27) = _ := hD 11 27 (by kernel_rfl)
      have e27 := (eval_tmp FA 27).symm.trans ev27
      replace ev27 := Lib.hid ev27
      clear hO hD
      go_simp
      exact hK.out _ _ (Ex.refl _) rfl
    refine Steps.fin_ (fun vs x hp => ?_)
    have p0 : vs 0 = _ := hp 0 (by omega)
    have p1 : vs 1 = _ := hp 1 (by omega)
    have p2 : vs 2 = _ := hp 2 (by omega)
    have p3 : vs 3 = _ := hp 3 (by omega)
    have p4 : vs 4 = _ := hp 4 (by omega)
    have p5 : vs 5 = _ := hp 5 (by omega)
    have p6 : vs 6 = _ := hp 6 (by omega)
    have p7 : vs 7 = _ := hp 7 (by omega)
    have p8 : vs 8 = _ := hp 8 (by omega)
    have p9 : vs 9 = _ := hp 9 (by omega)
    have p10 : vs 10 = _ := hp 10 (by omega)
    have p11 : vs 11 = _ := hp 11 (by omega)
    have p12 : vs 12 = _ := hp 12 (by omega)
    clear hp
    simp only [List.take_succ_cons, List.take_zero, List.drop_succ_cons, List.drop_zero, putAll, Nat.zero_add, Nat.reduceAdd, Act.put, List.setIfInBounds_toArray, List.set_cons_zero, List.set_cons_succ, p0, p1, p2, p3, p4, p5, p6, p7, p8, p9, p10, p11, p12]
    clear p0 p1 p2 p3 p4 p5 p6 p7 p8 p9 p10 p11 p12
    clear vs
    replace hI := hI.later (below_plus _ x.bs x.d)
    replace hS := hS.later (below_plus _ x.bs x.d)
    replace h1 := h1.plus_ x.bs x.d
    skip
    replace b8 := belowP b8 x.bs x.d
    generalize plus W8 x.bs x.d = W7 at *
    cases fi
    · go_wp2
      go_ret
      exact Tk.bad (by decide) b8
    · have hC : Chg (fun b => b = g) W7 W7 := Chg.refl _
      have B8 := b8
      have nS : ¬ (fun b => b = g) gs := fun h => by have h' : gs = g := h; omega
      go_upto_region 6 with (fail)
      refine wp_region_lit ?_
      refine wpList_plain rfl (fun K hK => ?_); go_simp; with_reducible refine hK _ _ ?_; clear hK K
      refine wpList_ldA (t := 51) 51 (.tmp 5) rfl rfl (msgC x0 x1 x2 x3 A1 n1 c1) rfl (hS) (whole_ _) q1 q2 (szMs _ _ _ _ _ _ _ ) ?_
      iterate 2 (refine wpList_plain rfl (fun K hK => ?_); go_simp; with_reducible refine hK _ _ ?_; clear hK K)
      refine wpList_stM 51 (.tmp 32) (.tmp 30) rfl rfl (msgC x0 x1 x2 x3 A1 n1 c1) (hdC (fhC si st tl s6 sh sl s6 dh dl 0 0 pr) (tcC 0 0 0 0 0 0 0 0 none 0 0 none 0 0) (dgX 0 0 0 none 0 0) (msgC 0 0 0 0 none 0 0) fr Ar nr kr) (Nat.le_of_ble_eq_true rfl) (msgC_one _ _ _ _ _ _ _ ) (by rfl) (by rfl) hI (szMs _ _ _ _ _ _ _ ) ?_
      intro W9 hI' gr'
      replace hI : Bk W9 g 225 (hdC (fhC si st tl s6 sh sl s6 dh dl 0 0 pr) (tcC 0 0 0 0 0 0 0 0 none 0 0 none 0 0) (dgX 0 0 0 none 0 0) (msgC x0 x1 x2 x3 A1 n1 c1) fr Ar nr kr) := hI'
      replace hC := hC.trans (Chg.one gr' rfl)
      clear hI' gr'
      simp only [Act.put, List.setIfInBounds_toArray, List.set_cons_zero, List.set_cons_succ]
      go_wp2
      go_ret
      refine ⟨rfl, (Chg.of_below B8).trans hC, fun _ => ⟨none, 0, 0, none, 0, 0, none, 0, 0, A1, n1, c1, hI, ?_⟩⟩
      exact ⟨Rb.nil_, Rb.nil_, Rb.nil_, h1.chg hC (fun a ha hb => by have h' : a.block = g := hb; have := f1 a ha; omega), noRow, noRow, noRow, f1⟩
end Go.Proofs.Ytfmkndemkpecpaa

