/- Texts of the law PacketCarries, part 4. -/
import Derived.Test.YtfmkndemkpecpaaZPacketCarries3
/- addr.Of; headers of IPv6: header, Parse, Packet, Older. -/
namespace Go.Proofs.Ytfmkndemkpecpaa
open Go.RowKit
set_option linter.unusedVariables false
set_option linter.unusedSimpArgs false
attribute [local go_sem ↓] sliced_cut

attribute [local go_sem] cutA_zero

def h6C (cl lb : Nat) (ln : Int) (nx ht : Nat) (s6 : Bool) (sh sl : Nat) (d6 : Bool) (dh dl : Nat) : List Value := [.int .u8 (cl : Int), .int .u32 (lb : Int), .int .i64 ln, .int .u8 (nx : Int), .int .u8 (ht : Int), .bool s6, .int .u64 (sh : Int), .int .u64 (sl : Int), .bool d6, .int .u64 (dh : Int), .int .u64 (dl : Int)]
theorem h6C_one (cl lb : Nat) (ln : Int) (nx ht : Nat) (s6 : Bool) (sh sl : Nat) (d6 : Bool) (dh dl : Nat) : ∀ u ∈ h6C cl lb ln nx ht s6 sh sl d6 dh dl, u.oneCell' = true := by
  intro u hu
  simp only [h6C, List.mem_cons, List.not_mem_nil, or_false] at hu
  rcases hu with rfl | rfl | rfl | rfl | rfl | rfl | rfl | rfl | rfl | rfl | rfl <;> rfl
theorem szH6 (cl lb : Nat) (ln : Int) (nx ht : Nat) (s6 : Bool) (sh sl : Nat) (d6 : Bool) (dh dl : Nat) : (Try.prog.info? 171).map (·.size) = some (h6C cl lb ln nx ht s6 sh sl d6 dh dl).length := by kernel_rfl
theorem rowH6 : ∃ d, Try.prog.underlying 171 = some d ∧ d.isRow = true := ⟨_, Try.underlying171, rfl⟩
theorem u32_mask20 (x : Nat) (h : x < 4294967296) : bits .and .u32 (x : Int) 1048575 = ((x % 1048576 : Nat) : Int) := by
  have := u32_and_nat x 1048575 h (by decide)
  rw [show (1048575 : Nat) = 2 ^ 20 - 1 from rfl, Nat.and_two_pow_sub_one_eq_mod] at this
  exact this
set_option maxHeartbeats 4000000 in
set_option maxRecDepth 100000 in
/-- ip6.header of what was written -/
theorem ip6Header (cl lb ln nx ht sh sl dh dl : Nat) (A : Option Addr) (n c : Nat) (load : List UInt8) (w : World) (h1 : cl < 256) (h2 : lb < 1048576) (h3 : ln < 65536) (h4 : nx < 256) (h5 : ht < 256) (k1 : sh < 18446744073709551616) (k2 : sl < 18446744073709551616) (k3 : dh < 18446744073709551616) (k4 : dl < 18446744073709551616) (h : Rb w A n c (ip6B cl lb ln nx ht sh sl dh dl ++ load)) (hn : ln ≤ load.length) (hm : n ≤ 1000000) :
    Calls Try.prog 124 #[.slice A n c] w (RetV w (.tuple #[.agg (h6C cl lb (ln : Int) nx ht true sh sl true dh dl).toArray, .int .i64 0])) := by
  obtain ⟨dk, u1, u2⟩ := rowH6
  have hlen : n = 40 + load.length := by rw [← h.1, List.length_append, ip6B_length]
  have hc := h.2.1
  have h40 : (40 : Int) ≤ (n : Int) := by omega
  have h40c : (40 : Int) ≤ (c : Int) := by omega
  have hln : ((n : Int) - 40 < (ln : Int)) = False := eq_false (by omega)
  have hdl : decide ((n : Int) - 40 < (ln : Int)) = false := by simp; omega
  have ht40 : Rb w A 40 c (ip6B cl lb ln nx ht sh sl dh dl) := by
    have := h.take (k := 40) (by omega)
    rwa [List.take_left' (ip6B_length _ _ _ _ _ _ _ _ _)] at this
  have x0 : num (((ip6B cl lb ln nx ht sh sl dh dl).drop 0).take 4) = (1610612736 + cl * 1048576 + lb) := by unfold ip6B; have := num_mid ([]) (dig ln 2 ++ dig nx 1 ++ dig ht 1 ++ (dig sh 8 ++ dig sl 8) ++ (dig dh 8 ++ dig dl 8)) (1610612736 + cl * 1048576 + lb) 4 0 (by simp [dig_length]) (by omega); simpa [List.append_assoc] using this
  have x1 : num (((ip6B cl lb ln nx ht sh sl dh dl).drop 4).take 2) = ln := by unfold ip6B; have := num_mid (dig (1610612736 + cl * 1048576 + lb) 4) (dig nx 1 ++ dig ht 1 ++ (dig sh 8 ++ dig sl 8) ++ (dig dh 8 ++ dig dl 8)) ln 2 4 (by simp [dig_length]) (by omega); simpa [List.append_assoc] using this
  have x2 : num (((ip6B cl lb ln nx ht sh sl dh dl).drop 6).take 1) = nx := by unfold ip6B; have := num_mid (dig (1610612736 + cl * 1048576 + lb) 4 ++ dig ln 2) (dig ht 1 ++ (dig sh 8 ++ dig sl 8) ++ (dig dh 8 ++ dig dl 8)) nx 1 6 (by simp [dig_length]) (by omega); simpa [List.append_assoc] using this
  have x3 : num (((ip6B cl lb ln nx ht sh sl dh dl).drop 7).take 1) = ht := by unfold ip6B; have := num_mid (dig (1610612736 + cl * 1048576 + lb) 4 ++ dig ln 2 ++ dig nx 1) ((dig sh 8 ++ dig sl 8) ++ (dig dh 8 ++ dig dl 8)) ht 1 7 (by simp [dig_length]) (by omega); simpa [List.append_assoc] using this
  have y0 : ((ip6B cl lb ln nx ht sh sl dh dl).drop 8).take 16 = dig sh 8 ++ dig sl 8 := by
    unfold ip6B
    rw [List.append_assoc, List.drop_left' (by simp [dig_length]), List.take_left' (by simp [dig_length])]
  have y1 : ((ip6B cl lb ln nx ht sh sl dh dl).drop 24).take 16 = dig dh 8 ++ dig dl 8 := by
    unfold ip6B
    rw [List.drop_left' (by simp [dig_length]), List.take_of_length_le (by simp [dig_length])]
  have hXl : 1610612736 + cl * 1048576 + lb < 4294967296 := by omega
  have hand := u32_mask20 (1610612736 + cl * 1048576 + lb) hXl
  have e1 : (1610612736 + cl * 1048576 + lb) % 1048576 = lb := by omega
  rw [e1] at hand
  have e2 : ((1610612736 + cl * 1048576 + lb : Nat) : Int) / 268435456 = 6 := by omega
  have e3 : ((1610612736 + cl * 1048576 + lb : Nat) : Int) / 1048576 % 256 = (cl : Int) := by omega
  have hBl : (ip6B cl lb ln nx ht sh sl dh dl).length = 40 := ip6B_length _ _ _ _ _ _ _ _ _
  have HR := Lib.hid (fun W (h : Rb W A 40 c (ip6B cl lb ln nx ht sh sl dh dl)) => readK A 40 c (ip6B cl lb ln nx ht sh sl dh dl) W h (by omega))
  clear h e1 hlen
  generalize 1610612736 + cl * 1048576 + lb = X at *
  generalize ip6B cl lb ln nx ht sh sl dh dl = B at *
  replace x0 := Lib.hid x0
  replace x1 := Lib.hid x1
  replace x2 := Lib.hid x2
  replace x3 := Lib.hid x3
  replace y0 := Lib.hid y0
  replace y1 := Lib.hid y1
  have hB1 : B.length ≤ 40 := by omega
  have hB2 : 40 ≤ B.length := by omega
  clear hBl
  have b2 : Bk (w.alloc (.cells #[.int .u8 0, .int .u32 0, .int .i64 0, .int .u8 0, .int .u8 0, .bool false, .int .u64 0, .int .u64 0, .bool false, .int .u64 0, .int .u64 0] 171)) w.heap.size 171 (h6C 0 0 0 0 0 false 0 0 false 0 0) := Bk.new w 171 #[.int .u8 0, .int .u32 0, .int .i64 0, .int .u8 0, .int .u8 0, .bool false, .int .u64 0, .int .u64 0, .bool false, .int .u64 0, .int .u64 0]
  have be : Below w.heap.size w (w.alloc (.cells #[.int .u8 0, .int .u32 0, .int .i64 0, .int .u8 0, .int .u8 0, .bool false, .int .u64 0, .int .u64 0, .bool false, .int .u64 0, .int .u64 0] 171)) := Below.allocS (Below.refl _ _) _
  go_enter Try.func124, Try.ntmps124
  go_wp2_with fail
  refine (HR.out _ (ht40.alloc _)).mono ?_
  rintro e w1 ⟨r, bs1, d1, rfl, rfl, hr1, hR⟩
  replace b2 := b2.later (below_plus _ bs1 d1)
  replace be := belowP be bs1 d1
  have hr2 : w.heap.size < r := by simp at hr1; omega
  generalize plus (w.alloc (.cells #[.int .u8 0, .int .u32 0, .int .i64 0, .int .u8 0, .int .u8 0, .bool false, .int .u64 0, .int .u64 0, .bool false, .int .u64 0, .int .u64 0] 171)) bs1 d1 = W at *
  clear hr1
  go_wp2_with fail
  refine (longG W r B 0 X hR (by omega) (by omega) x0.out).mono ?_
  rintro e W1 ⟨rfl, hR1, hg1⟩
  replace b2 := b2.grown hg1 (by simp; omega)
  replace be := below_grown be hg1 (by omega)
  clear hg1 hR
  have zr := hR1.lt
  go_wp2_with fail
  have b6 : Bk (W1.alloc (.cells #[.int .u8 (cl : Int), .int .u32 (lb : Int), .int .i64 0, .int .u8 0, .int .u8 0, .bool false, .int .u64 0, .int .u64 0, .bool false, .int .u64 0, .int .u64 0] 171)) W1.heap.size 171 [.int .u8 (cl : Int), .int .u32 (lb : Int), .int .i64 0, .int .u8 0, .int .u8 0, .bool false, .int .u64 0, .int .u64 0, .bool false, .int .u64 0, .int .u64 0] := Bk.new W1 171 _
  replace b2 := b2.alloc (.cells #[.int .u8 (cl : Int), .int .u32 (lb : Int), .int .i64 0, .int .u8 0, .int .u8 0, .bool false, .int .u64 0, .int .u64 0, .bool false, .int .u64 0, .int .u64 0] 171)
  replace be := Below.allocS be (.cells #[.int .u8 (cl : Int), .int .u32 (lb : Int), .int .i64 0, .int .u8 0, .int .u8 0, .bool false, .int .u64 0, .int .u64 0, .bool false, .int .u64 0, .int .u64 0] 171)
  replace hR1 := hR1.later ((Below.refl _ _).alloc (Nat.le_refl _) (.cells #[.int .u8 (cl : Int), .int .u32 (lb : Int), .int .i64 0, .int .u8 0, .int .u8 0, .bool false, .int .u64 0, .int .u64 0, .bool false, .int .u64 0, .int .u64 0] 171))
  generalize W1.alloc (.cells #[.int .u8 (cl : Int), .int .u32 (lb : Int), .int .i64 0, .int .u8 0, .int .u8 0, .bool false, .int .u64 0, .int .u64 0, .bool false, .int .u64 0, .int .u64 0] 171) = W2 at *
  have zg : w.heap.size < W1.heap.size := by omega
  generalize W1.heap.size = g6 at *
  clear e2 e3 hand hXl x0 W
  refine (wordG W2 r B 4 ln hR1 (by omega) (by omega) x1.out).mono ?_
  clear x1
  rintro e W3 ⟨rfl, hR2, hg2⟩
  replace b2 := b2.grown hg2 (by simp; omega)
  replace b6 := b6.grown hg2 (by simp; omega)
  replace be := below_grown be hg2 (by omega)
  clear hg2 hR1
  have q := b6.cell 2
  have fr := b6.frozen 2
  have z6 := b6.lt
  simp only [List.getElem?_cons_succ, List.getElem?_cons_zero] at q
  go_wp2_with fail
  replace b6 := b6.set_ 2 (.int .i64 (ln : Int))
  replace b2 := b2.far (p := ⟨g6, 2, none⟩) (by simp; omega) (.int .i64 (ln : Int))
  have hR1 := hR2.far (p := ⟨g6, 2, none⟩) (by simp; omega) (.int .i64 (ln : Int))
  replace be := be.setCell (p := ⟨g6, 2, none⟩) (by simp; omega) (.int .i64 (ln : Int))
  simp only [List.set_cons_succ, List.set_cons_zero] at b6
  clear q fr z6 hR2
  generalize W3.setCell ⟨g6, 2, none⟩ (.int .i64 (ln : Int)) = W3s at *
  clear hdl
  refine (byteG W3s r B 6 nx hR1 (by omega) (by omega) x2.out).mono ?_
  clear x2
  rintro e W4 ⟨rfl, hR2, hg2⟩
  replace b2 := b2.grown hg2 (by simp; omega)
  replace b6 := b6.grown hg2 (by simp; omega)
  replace be := below_grown be hg2 (by omega)
  clear hg2 hR1
  have q := b6.cell 3
  have fr := b6.frozen 3
  have z6 := b6.lt
  simp only [List.getElem?_cons_succ, List.getElem?_cons_zero] at q
  go_wp2_with fail
  replace b6 := b6.set_ 3 (.int .u8 (nx : Int))
  replace b2 := b2.far (p := ⟨g6, 3, none⟩) (by simp; omega) (.int .u8 (nx : Int))
  have hR1 := hR2.far (p := ⟨g6, 3, none⟩) (by simp; omega) (.int .u8 (nx : Int))
  replace be := be.setCell (p := ⟨g6, 3, none⟩) (by simp; omega) (.int .u8 (nx : Int))
  simp only [List.set_cons_succ, List.set_cons_zero] at b6
  clear q fr z6 hR2
  generalize W4.setCell ⟨g6, 3, none⟩ (.int .u8 (nx : Int)) = W4s at *
  refine (byteG W4s r B 7 ht hR1 (by omega) (by omega) x3.out).mono ?_
  clear x3
  rintro e W5 ⟨rfl, hR2, hg2⟩
  replace b2 := b2.grown hg2 (by simp; omega)
  replace b6 := b6.grown hg2 (by simp; omega)
  replace be := below_grown be hg2 (by omega)
  clear hg2 hR1
  have q := b6.cell 4
  have fr := b6.frozen 4
  have z6 := b6.lt
  simp only [List.getElem?_cons_succ, List.getElem?_cons_zero] at q
  go_wp2_with fail
  replace b6 := b6.set_ 4 (.int .u8 (ht : Int))
  replace b2 := b2.far (p := ⟨g6, 4, none⟩) (by simp; omega) (.int .u8 (ht : Int))
  have hR1 := hR2.far (p := ⟨g6, 4, none⟩) (by simp; omega) (.int .u8 (ht : Int))
  replace be := be.setCell (p := ⟨g6, 4, none⟩) (by simp; omega) (.int .u8 (ht : Int))
  simp only [List.set_cons_succ, List.set_cons_zero] at b6
  clear q fr z6 hR2
  generalize W5.setCell ⟨g6, 4, none⟩ (.int .u8 (ht : Int)) = W5s at *
  refine (bytesG W5s r B 8 16 hR1 (by omega) (by omega)).mono ?_
  rintro e W6 ⟨Aa, na, ca, rfl, hoa, hR2, hg2⟩
  rw [y0.out] at hoa
  obtain rfl : na = 16 := by rw [← hoa.1]; simp [dig_length]
  replace b2 := b2.grown hg2 (by simp; omega)
  replace b6 := b6.grown hg2 (by simp; omega)
  replace be := below_grown be hg2 (by omega)
  clear hg2 hR1
  have z6 := b6.lt
  have zr := hR2.lt
  go_wp2_with fail
  refine (adrOf16 sh sl _ _ _ k1 k2 hoa.rb).mono ?_
  rintro e w1 ⟨bsa, da, rfl, rfl⟩
  replace b6 := b6.later (below_plus _ bsa da)
  replace b2 := b2.later (below_plus _ bsa da)
  replace be := belowP be bsa da
  replace hR2 := hR2.later (below_plus _ bsa da)
  clear hoa
  generalize plus W6 bsa da = W6p at *
  go_upto_region 14 with (refine at_op (.store 26 (.tmp 49) (.tmp 47)) rfl ?_; refine wpList_stM (t := 171) 26 (.tmp 49) (.tmp 47) rfl rfl (adC true sh sl) _ (by simp [adC]) (adC_one _ _ _) rfl rfl b6 (szAd _ _ _) ?_; intro W6s b6' hg3)
  simp only [splice, adC, List.take_succ_cons, List.take_zero, List.drop_succ_cons, List.drop_zero, List.length_cons, List.length_nil, Nat.zero_add, Nat.reduceAdd, List.cons_append, List.nil_append] at b6'
  replace b2 := b2.grown hg3 (by simp; omega)
  have hR1 := hR2.far_ hg3 (by omega)
  replace be := below_grown be hg3 (by omega)
  clear b6 hR2 hg3 z6 zr
  have b6 := b6'
  clear b6'
  go_wp2_with fail
  refine (bytesG W6s r B 24 16 hR1 (by omega) (by omega)).mono ?_
  rintro e W7 ⟨Aa, na, ca, rfl, hoa, hR2, hg2⟩
  rw [y1.out] at hoa
  obtain rfl : na = 16 := by rw [← hoa.1]; simp [dig_length]
  replace b2 := b2.grown hg2 (by simp; omega)
  replace b6 := b6.grown hg2 (by simp; omega)
  replace be := below_grown be hg2 (by omega)
  clear hg2 hR1
  have z6 := b6.lt
  have zr := hR2.lt
  go_wp2_with fail
  refine (adrOf16 dh dl _ _ _ k3 k4 hoa.rb).mono ?_
  rintro e w1 ⟨bsa, da, rfl, rfl⟩
  replace b6 := b6.later (below_plus _ bsa da)
  replace b2 := b2.later (below_plus _ bsa da)
  replace be := belowP be bsa da
  replace hR2 := hR2.later (below_plus _ bsa da)
  clear hoa
  generalize plus W7 bsa da = W7p at *
  go_upto_region 15 with (refine at_op (.store 26 (.tmp 56) (.tmp 54)) rfl ?_; refine wpList_stM (t := 171) 26 (.tmp 56) (.tmp 54) rfl rfl (adC true dh dl) _ (by simp [adC]) (adC_one _ _ _) rfl rfl b6 (szAd _ _ _) ?_; intro W7s b6' hg3)
  simp only [splice, adC, List.take_succ_cons, List.take_zero, List.drop_succ_cons, List.drop_zero, List.length_cons, List.length_nil, Nat.zero_add, Nat.reduceAdd, List.cons_append, List.nil_append] at b6'
  replace b2 := b2.grown hg3 (by simp; omega)
  have hR1 := hR2.far_ hg3 (by omega)
  replace be := below_grown be hg3 (by omega)
  clear b6 hR2 hg3 z6 zr
  have b6 := b6'
  clear b6'
  go_wp2_with (first
    | (refine at_op (.load 171 (.tmp 6)) rfl ?_; refine wpList_ldA (t := 171) 171 (.tmp 6) rfl rfl (h6C cl lb (ln : Int) nx ht true sh sl true dh dl) rfl b6 (whole_ _) u1 u2 (szH6 _ _ _ _ _ _ _ _ _ _ _) ?_)
    | (refine at_op (.store 171 (.tmp 2) (.tmp 57)) rfl ?_; refine wpList_stA (t := 171) 171 (.tmp 2) (.tmp 57) rfl rfl (h6C cl lb (ln : Int) nx ht true sh sl true dh dl) (h6C 0 0 0 0 0 false 0 0 false 0 0) rfl (h6C_one _ _ _ _ _ _ _ _ _ _ _) rfl rfl b2 (szH6 _ _ _ _ _ _ _ _ _ _ _) ?_; intro W9 h9 g9))
  refine bodyPost_agg2 Try.results124 rfl rfl h9.range u1 u2 (szH6 _ _ _ _ _ _ _ _ _ _ _) rfl (RetV.mk ?_)
  exact below_grown be g9 (by omega)
end Go.Proofs.Ytfmkndemkpecpaa

/- Packets of IPv6: Parse, Packet, Older. -/
namespace Go.Proofs.Ytfmkndemkpecpaa
open Go.RowKit
set_option linter.unusedVariables false
set_option linter.unusedSimpArgs false
attribute [local go_sem ↓] sliced_cut

attribute [local go_sem] cutA_zero

/-- a header and bytes, and an error -/
def RetH (w : World) (cs : List Value) (l : List UInt8) (e : Ending) (w' : World) : Prop := ∃ A n c bs d, e = .returned (.tuple #[.agg cs.toArray, .slice A n c, .int .i64 0]) ∧ w' = plus w bs d ∧ Ob (plus w bs d) w.heap.size A n c l
theorem RetH.mk {w w' : World} {cs : List Value} {l : List UInt8} {A : Option Addr} {n c : Nat} (h : Ob w' w.heap.size A n c l) (hb : Below w.heap.size w w') : RetH w cs l (.returned (.tuple #[.agg cs.toArray, .slice A n c, .int .i64 0])) w' := by
  obtain ⟨bs, d, rfl⟩ := plus_of hb
  exact ⟨A, n, c, bs, d, rfl, rfl, h⟩
set_option maxHeartbeats 2000000 in
set_option maxRecDepth 100000 in
theorem ip6Packet_yes (cl lb : Nat) (l0 : Int) (nx ht sh sl dh dl : Nat) (A : Option Addr) (ln c : Nat) (load : List UInt8) (w : World) (h1 : cl < 256) (h2 : lb < 1048576) (h3 : ln < 65536) (h4 : nx < 256) (h5 : ht < 256) (k1 : sh < 18446744073709551616) (k2 : sl < 18446744073709551616) (k3 : dh < 18446744073709551616) (k4 : dl < 18446744073709551616) (h : Rb w A ln c load) :
    Calls Try.prog 70 #[.agg (h6C cl lb l0 nx ht true sh sl true dh dl).toArray, .slice A ln c] w (RetBE w (ip6B cl lb ln nx ht sh sl dh dl ++ load) 0) := by
  have HR := Lib.hid (fun w => ip6Right cl lb (ln : Int) nx ht true sh sl true dh dl w (by omega) (by omega))
  rw [show r6 lb (ln : Int) true true = true from r6_true.2 ⟨h2, by omega, by omega, rfl, rfl⟩] at HR
  have HB := Lib.hid (fun w => ip6Bytes_yes cl lb ln nx ht sh sl dh dl w h1 h2 h3 h4 h5 k1 k2 k3 k4)
  unfold h6C
  go_enter Try.func70, Try.ntmps70
  go_wp2_with fail
  refine (HR.out _).mono ?_
  rintro e w1 ⟨bs1, d1, rfl, rfl⟩
  go_wp2_with fail
  refine (HB.out _).mono ?_
  rintro e w1 ⟨A2, n2, c2, bs2, d2, rfl, rfl, ho2⟩
  obtain rfl : n2 = 40 := by rw [← ho2.1, ip6B_length]
  go_wp2_with (at_builtin; refine wpList_appP _ bt rfl (.tmp 16) (.tmp 17) rfl (by exact below_plus _ bs2 d2) rfl ho2 rfl (by exact ((h.alloc _).plus_ _ _).plus_ _ _) (by omega) ?_; intro A3 n3 k3 bs3 m3 ho3 hg3)
  go_ret2
  exact RetBE.mk ho3.rb (belowP (belowP (Below.allocS (Below.refl _ _) _) _ _) _ _)
set_option maxHeartbeats 2000000 in
set_option maxRecDepth 100000 in
theorem refIp6Packet_yes (cl lb : Nat) (l0 : Int) (nx ht sh sl dh dl : Nat) (A : Option Addr) (ln c : Nat) (load : List UInt8) (w : World) (h1 : cl < 256) (h2 : lb < 1048576) (h3 : ln < 65536) (h4 : nx < 256) (h5 : ht < 256) (k1 : sh < 18446744073709551616) (k2 : sl < 18446744073709551616) (k3 : dh < 18446744073709551616) (k4 : dl < 18446744073709551616) (h : Rb w A ln c load) :
    Calls Try.prog 77 #[.agg (h6C cl lb l0 nx ht true sh sl true dh dl).toArray, .slice A ln c] w (RetBE w (ip6B cl lb ln nx ht sh sl dh dl ++ load) 0) := by
  have HR := Lib.hid (fun w => refIp6Right cl lb (ln : Int) nx ht true sh sl true dh dl w (by omega) (by omega))
  rw [show r6 lb (ln : Int) true true = true from r6_true.2 ⟨h2, by omega, by omega, rfl, rfl⟩] at HR
  have HB := Lib.hid (fun w => refIp6Bytes cl lb ln nx ht true sh sl true dh dl w h1 h2 h3 h4 h5 k1 k2 k3 k4)
  rw [ip6R_B cl lb ln nx ht sh sl dh dl h1 h2 h4 h5] at HB
  unfold h6C
  go_enter Try.func77, Try.ntmps77
  go_wp2_with fail
  refine (HR.out _).mono ?_
  rintro e w1 ⟨bs1, d1, rfl, rfl⟩
  go_wp2_with fail
  refine (HB.out _).mono ?_
  rintro e w1 ⟨A2, n2, c2, bs2, d2, rfl, rfl, ho2⟩
  obtain rfl : n2 = 40 := by rw [← ho2.1, ip6B_length]
  go_wp2_with (at_builtin; refine wpList_appP _ bt rfl (.tmp 16) (.tmp 17) rfl (by exact below_plus _ bs2 d2) rfl ho2 rfl (by exact ((h.alloc _).plus_ _ _).plus_ _ _) (by omega) ?_; intro A3 n3 k3 bs3 m3 ho3 hg3)
  go_ret2
  exact RetBE.mk ho3.rb (belowP (belowP (Below.allocS (Below.refl _ _) _) _ _) _ _)
end Go.Proofs.Ytfmkndemkpecpaa

/- IPv6 packets of any bytes: ip6.Parse, the reference's Parse. -/
namespace Go.Proofs.Ytfmkndemkpecpaa
open Go.RowKit
set_option linter.unusedVariables false
set_option linter.unusedSimpArgs false
attribute [local go_sem ↓] sliced_cut

attribute [local go_sem] cutA_zero

set_option maxHeartbeats 4000000 in
set_option maxRecDepth 100000 in
theorem hdr6_short (A : Option Addr) (n c : Nat) (l : List UInt8) (w : World) (h : Rb w A n c l) (hm : n ≤ 1000000) (hn : n < 40) : Calls Try.prog 124 #[.slice A n c] w (RetV w (.tuple #[.agg (h6C 0 0 0 0 0 false 0 0 false 0 0).toArray, .int .i64 20])) := by
  obtain ⟨du, u1, u2⟩ := rowH6
  have d40 : decide ((n : Int) < 40) = true := by simp only [decide_eq_true_eq]; omega
  have b2 : Bk (w.alloc (.cells #[.int .u8 0, .int .u32 0, .int .i64 0, .int .u8 0, .int .u8 0, .bool false, .int .u64 0, .int .u64 0, .bool false, .int .u64 0, .int .u64 0] 171)) w.heap.size 171 (h6C 0 0 0 0 0 false 0 0 false 0 0) := Bk.new w 171 #[.int .u8 0, .int .u32 0, .int .i64 0, .int .u8 0, .int .u8 0, .bool false, .int .u64 0, .int .u64 0, .bool false, .int .u64 0, .int .u64 0]
  have be : Below w.heap.size w (w.alloc (.cells #[.int .u8 0, .int .u32 0, .int .i64 0, .int .u8 0, .int .u8 0, .bool false, .int .u64 0, .int .u64 0, .bool false, .int .u64 0, .int .u64 0] 171)) := Below.allocS (Below.refl _ _) _
  go_enter Try.func124, Try.ntmps124
  go_wp2_with (refine at_op (.store 171 (.tmp 2) (.tmp 10)) rfl ?_; refine wpList_stA (t := 171) 171 (.tmp 2) (.tmp 10) rfl rfl (h6C 0 0 0 0 0 false 0 0 false 0 0) (h6C 0 0 0 0 0 false 0 0 false 0 0) rfl (h6C_one _ _ _ _ _ _ _ _ _ _ _) rfl rfl b2 (szH6 _ _ _ _ _ _ _ _ _ _ _) ?_; intro W9 h9 g9)
  refine bodyPost_agg2 Try.results124 rfl rfl h9.range u1 u2 (szH6 _ _ _ _ _ _ _ _ _ _ _) rfl (RetV.mk ?_)
  exact below_grown be g9 (by omega)
set_option maxHeartbeats 4000000 in
set_option maxRecDepth 100000 in
theorem hdr6_form (A : Option Addr) (n c : Nat) (l : List UInt8) (w : World) (h : Rb w A n c l) (hm : n ≤ 1000000) (X : Nat) (x0 : num ((l.drop 0).take 4) = X) (hn : 40 ≤ n) (hf : X / 268435456 ≠ 6) : Calls Try.prog 124 #[.slice A n c] w (RetV w (.tuple #[.agg (h6C 0 0 0 0 0 false 0 0 false 0 0).toArray, .int .i64 21])) := by
  obtain ⟨du, u1, u2⟩ := rowH6
  have hc := h.2.1
  have h40 : (40 : Int) ≤ (n : Int) := by omega
  have h40c : (40 : Int) ≤ (c : Int) := by omega
  have d40 : decide ((n : Int) < 40) = false := by simp only [decide_eq_false_iff_not]; omega
  have ht40 : Rb w A 40 c (l.take 40) := h.take (by omega)
  have hX : X < 4294967296 := by rw [← x0]; exact num_lt' l 0 4 4294967296 (by decide)
  replace x0 : Hid (num (((l.take 40).drop 0).take 4) = X) := Lib.hid (by rw [num_in l 40 0 4 (by decide)]; exact x0)
  have e2 : ((X : Int) / 268435456 != 6) = true := by rw [bne_iff_ne]; omega
  have hB : (l.take 40).length = 40 := by rw [List.length_take, h.1]; omega
  have HR := Lib.hid (fun W (h : Rb W A 40 c (l.take 40)) => readK A 40 c (l.take 40) W h (by decide))
  generalize l.take 40 = B at *
  clear h
  have b2 : Bk (w.alloc (.cells #[.int .u8 0, .int .u32 0, .int .i64 0, .int .u8 0, .int .u8 0, .bool false, .int .u64 0, .int .u64 0, .bool false, .int .u64 0, .int .u64 0] 171)) w.heap.size 171 (h6C 0 0 0 0 0 false 0 0 false 0 0) := Bk.new w 171 #[.int .u8 0, .int .u32 0, .int .i64 0, .int .u8 0, .int .u8 0, .bool false, .int .u64 0, .int .u64 0, .bool false, .int .u64 0, .int .u64 0]
  have be : Below w.heap.size w (w.alloc (.cells #[.int .u8 0, .int .u32 0, .int .i64 0, .int .u8 0, .int .u8 0, .bool false, .int .u64 0, .int .u64 0, .bool false, .int .u64 0, .int .u64 0] 171)) := Below.allocS (Below.refl _ _) _
  go_enter Try.func124, Try.ntmps124
  go_wp2_with fail
  refine (HR.out _ (ht40.alloc _)).mono ?_
  rintro e w1 ⟨r, bs1, d1, rfl, rfl, hr1, hR⟩
  replace b2 := b2.later (below_plus _ bs1 d1)
  replace be := belowP be bs1 d1
  have hr2 : w.heap.size < r := by simp at hr1; omega
  generalize plus (w.alloc (.cells #[.int .u8 0, .int .u32 0, .int .i64 0, .int .u8 0, .int .u8 0, .bool false, .int .u64 0, .int .u64 0, .bool false, .int .u64 0, .int .u64 0] 171)) bs1 d1 = W at *
  clear hr1
  go_wp2_with fail
  refine (longG W r B 0 X hR (by omega) (by omega) x0.out).mono ?_
  rintro e W1 ⟨rfl, hR1, hg1⟩
  replace b2 := b2.grown hg1 (by simp; omega)
  replace be := below_grown be hg1 (by omega)
  clear hg1 hR
  have zr := hR1.lt
  go_wp2_with (refine at_op (.store 171 (.tmp 2) (.tmp 19)) rfl ?_; refine wpList_stA (t := 171) 171 (.tmp 2) (.tmp 19) rfl rfl (h6C 0 0 0 0 0 false 0 0 false 0 0) (h6C 0 0 0 0 0 false 0 0 false 0 0) rfl (h6C_one _ _ _ _ _ _ _ _ _ _ _) rfl rfl b2 (szH6 _ _ _ _ _ _ _ _ _ _ _) ?_; intro W9 h9 g9)
  refine bodyPost_agg2 Try.results124 rfl rfl h9.range u1 u2 (szH6 _ _ _ _ _ _ _ _ _ _ _) rfl (RetV.mk ?_)
  exact below_grown be g9 (by omega)
set_option maxHeartbeats 4000000 in
set_option maxRecDepth 100000 in
theorem hdr6_long (A : Option Addr) (n c : Nat) (l : List UInt8) (w : World) (h : Rb w A n c l) (hm : n ≤ 1000000) (X ln : Nat) (x0 : num ((l.drop 0).take 4) = X) (x1 : num ((l.drop 4).take 2) = ln) (hn : 40 ≤ n) (hf : X / 268435456 = 6) (hq : n - 40 < ln) : Calls Try.prog 124 #[.slice A n c] w (RetV w (.tuple #[.agg (h6C 0 0 0 0 0 false 0 0 false 0 0).toArray, .int .i64 20])) := by
  obtain ⟨du, u1, u2⟩ := rowH6
  have hc := h.2.1
  have h40 : (40 : Int) ≤ (n : Int) := by omega
  have h40c : (40 : Int) ≤ (c : Int) := by omega
  have d40 : decide ((n : Int) < 40) = false := by simp only [decide_eq_false_iff_not]; omega
  have ht40 : Rb w A 40 c (l.take 40) := h.take (by omega)
  have hX : X < 4294967296 := by rw [← x0]; exact num_lt' l 0 4 4294967296 (by decide)
  replace x0 : Hid (num (((l.take 40).drop 0).take 4) = X) := Lib.hid (by rw [num_in l 40 0 4 (by decide)]; exact x0)
  have hln : ln < 65536 := by rw [← x1]; exact num_lt' l 4 2 65536 (by decide)
  replace x1 : Hid (num (((l.take 40).drop 4).take 2) = ln) := Lib.hid (by rw [num_in l 40 4 2 (by decide)]; exact x1)
  have e2 : (X : Int) / 268435456 = 6 := by omega
  obtain ⟨cl, hcl⟩ : ∃ cl : Nat, (X : Int) / 1048576 % 256 = (cl : Int) := ⟨X / 1048576 % 256, by omega⟩
  obtain ⟨lb, hlb⟩ : ∃ lb : Nat, X % 1048576 = lb := ⟨_, rfl⟩
  have hand := u32_mask20 X hX
  rw [hlb] at hand
  have hdl : decide ((n : Int) - 40 < (ln : Int)) = true := by simp only [decide_eq_true_eq]; omega
  have hdn : IntKind.i64.wrap ((n : Int) - 40) = (n : Int) - 40 := IntWalk.i64_in _ (by omega)
  clear hlb
  have hB : (l.take 40).length = 40 := by rw [List.length_take, h.1]; omega
  have HR := Lib.hid (fun W (h : Rb W A 40 c (l.take 40)) => readK A 40 c (l.take 40) W h (by decide))
  generalize l.take 40 = B at *
  clear h
  have b2 : Bk (w.alloc (.cells #[.int .u8 0, .int .u32 0, .int .i64 0, .int .u8 0, .int .u8 0, .bool false, .int .u64 0, .int .u64 0, .bool false, .int .u64 0, .int .u64 0] 171)) w.heap.size 171 (h6C 0 0 0 0 0 false 0 0 false 0 0) := Bk.new w 171 #[.int .u8 0, .int .u32 0, .int .i64 0, .int .u8 0, .int .u8 0, .bool false, .int .u64 0, .int .u64 0, .bool false, .int .u64 0, .int .u64 0]
  have be : Below w.heap.size w (w.alloc (.cells #[.int .u8 0, .int .u32 0, .int .i64 0, .int .u8 0, .int .u8 0, .bool false, .int .u64 0, .int .u64 0, .bool false, .int .u64 0, .int .u64 0] 171)) := Below.allocS (Below.refl _ _) _
  go_enter Try.func124, Try.ntmps124
  go_wp2_with fail
  refine (HR.out _ (ht40.alloc _)).mono ?_
  rintro e w1 ⟨r, bs1, d1, rfl, rfl, hr1, hR⟩
  replace b2 := b2.later (below_plus _ bs1 d1)
  replace be := belowP be bs1 d1
  have hr2 : w.heap.size < r := by simp at hr1; omega
  generalize plus (w.alloc (.cells #[.int .u8 0, .int .u32 0, .int .i64 0, .int .u8 0, .int .u8 0, .bool false, .int .u64 0, .int .u64 0, .bool false, .int .u64 0, .int .u64 0] 171)) bs1 d1 = W at *
  clear hr1
  go_wp2_with fail
  refine (longG W r B 0 X hR (by omega) (by omega) x0.out).mono ?_
  rintro e W1 ⟨rfl, hR1, hg1⟩
  replace b2 := b2.grown hg1 (by simp; omega)
  replace be := below_grown be hg1 (by omega)
  clear hg1 hR
  have zr := hR1.lt
  go_wp2_with fail
  have b6 : Bk (W1.alloc (.cells #[.int .u8 (cl : Int), .int .u32 (lb : Int), .int .i64 0, .int .u8 0, .int .u8 0, .bool false, .int .u64 0, .int .u64 0, .bool false, .int .u64 0, .int .u64 0] 171)) W1.heap.size 171 [.int .u8 (cl : Int), .int .u32 (lb : Int), .int .i64 0, .int .u8 0, .int .u8 0, .bool false, .int .u64 0, .int .u64 0, .bool false, .int .u64 0, .int .u64 0] := Bk.new W1 171 _
  replace b2 := b2.alloc (.cells #[.int .u8 (cl : Int), .int .u32 (lb : Int), .int .i64 0, .int .u8 0, .int .u8 0, .bool false, .int .u64 0, .int .u64 0, .bool false, .int .u64 0, .int .u64 0] 171)
  replace be := Below.allocS be (.cells #[.int .u8 (cl : Int), .int .u32 (lb : Int), .int .i64 0, .int .u8 0, .int .u8 0, .bool false, .int .u64 0, .int .u64 0, .bool false, .int .u64 0, .int .u64 0] 171)
  replace hR1 := hR1.later ((Below.refl _ _).alloc (Nat.le_refl _) (.cells #[.int .u8 (cl : Int), .int .u32 (lb : Int), .int .i64 0, .int .u8 0, .int .u8 0, .bool false, .int .u64 0, .int .u64 0, .bool false, .int .u64 0, .int .u64 0] 171))
  generalize W1.alloc (.cells #[.int .u8 (cl : Int), .int .u32 (lb : Int), .int .i64 0, .int .u8 0, .int .u8 0, .bool false, .int .u64 0, .int .u64 0, .bool false, .int .u64 0, .int .u64 0] 171) = W2 at *
  have zg : w.heap.size < W1.heap.size := by omega
  generalize W1.heap.size = g6 at *
  clear e2 hcl hand hX x0 W
  refine (wordG W2 r B 4 ln hR1 (by omega) (by omega) x1.out).mono ?_
  clear x1
  rintro e W3 ⟨rfl, hR2, hg2⟩
  replace b2 := b2.grown hg2 (by simp; omega)
  replace b6 := b6.grown hg2 (by simp; omega)
  replace be := below_grown be hg2 (by omega)
  clear hg2 hR1
  have q := b6.cell 2
  have fr := b6.frozen 2
  have z6 := b6.lt
  simp only [List.getElem?_cons_succ, List.getElem?_cons_zero] at q
  go_upto_region 9 with (fail)
  replace b6 := b6.set_ 2 (.int .i64 (ln : Int))
  replace b2 := b2.far (p := ⟨g6, 2, none⟩) (by simp; omega) (.int .i64 (ln : Int))
  replace be := be.setCell (p := ⟨g6, 2, none⟩) (by simp; omega) (.int .i64 (ln : Int))
  simp only [List.set_cons_succ, List.set_cons_zero] at b6
  clear q fr z6 hR2
  generalize W3.setCell ⟨g6, 2, none⟩ (.int .i64 (ln : Int)) = W3s at *
  have q := b6.cell 2
  simp only [List.getElem?_cons_succ, List.getElem?_cons_zero] at q
  go_wp2_with (refine at_op (.store 171 (.tmp 2) (.tmp 36)) rfl ?_; refine wpList_stA (t := 171) 171 (.tmp 2) (.tmp 36) rfl rfl (h6C 0 0 0 0 0 false 0 0 false 0 0) (h6C 0 0 0 0 0 false 0 0 false 0 0) rfl (h6C_one _ _ _ _ _ _ _ _ _ _ _) rfl rfl b2 (szH6 _ _ _ _ _ _ _ _ _ _ _) ?_; intro W9 h9 g9)
  refine bodyPost_agg2 Try.results124 rfl rfl h9.range u1 u2 (szH6 _ _ _ _ _ _ _ _ _ _ _) rfl (RetV.mk ?_)
  exact below_grown be g9 (by omega)

/-- forty bytes that say 6 are a written header -/
theorem as_ip6B (l : List UInt8) (h : 40 ≤ l.length) (hv : num ((l.drop 0).take 4) / 268435456 = 6) : l = ip6B (num ((l.drop 0).take 4) / 1048576 % 256) (num ((l.drop 0).take 4) % 1048576) (num ((l.drop 4).take 2)) (num ((l.drop 6).take 1)) (num ((l.drop 7).take 1)) (num ((l.drop 8).take 8)) (num ((l.drop 16).take 8)) (num ((l.drop 24).take 8)) (num ((l.drop 32).take 8)) ++ l.drop 40 := by
  have part : ∀ (k s : Nat), k + s ≤ l.length → dig (num ((l.drop k).take s)) s = (l.drop k).take s := fun k s hk => digNum s _ (by rw [List.length_take, List.length_drop]; omega)
  have hX : num ((l.drop 0).take 4) < 4294967296 := num_lt' l 0 4 _ (by decide)
  have e0 : 1610612736 + num ((l.drop 0).take 4) / 1048576 % 256 * 1048576 + num ((l.drop 0).take 4) % 1048576 = num ((l.drop 0).take 4) := by omega
  unfold ip6B
  rw [e0, part 0 4 (by omega), part 4 2 (by omega), part 6 1 (by omega), part 7 1 (by omega), part 8 8 (by omega), part 16 8 (by omega), part 24 8 (by omega), part 32 8 (by omega)]
  have cut : ∀ (k s : Nat), l.drop k = (l.drop k).take s ++ l.drop (k + s) := fun k s => by rw [← List.drop_drop, List.take_append_drop]
  have c0 := cut 0 4
  rw [cut 4 2, cut 6 1, cut 7 1, cut 8 8, cut 16 8, cut 24 8, cut 32 8] at c0
  rw [List.drop_zero] at c0 ⊢
  conv => lhs; rw [c0]
  simp only [List.append_assoc]
theorem num_app : ∀ (b a : List UInt8), num (a ++ b) = num a * 256 ^ b.length + num b := by
  intro b
  induction b with
  | nil => intro a; simp [num]
  | cons x b ih =>
    intro a
    have h1 := ih [x]
    rw [show a ++ x :: b = (a ++ [x]) ++ b by simp, ih, num_snoc, show x :: b = [x] ++ b from rfl, h1, show num [x] = x.toNat from by simp [num], List.length_append, List.length_singleton, Nat.add_comm 1 b.length, Nat.pow_succ, Nat.add_mul, Nat.mul_assoc, Nat.mul_comm 256]
    omega
theorem first_ip6 (l : List UInt8) (h : 4 ≤ l.length) : num ((l.drop 0).take 4) = num ((l.drop 0).take 1) * 16777216 + num ((l.drop 1).take 1) * 65536 + num ((l.drop 2).take 2) := by
  have e : (l.drop 0).take 4 = (l.drop 0).take 1 ++ ((l.drop 1).take 1 ++ (l.drop 2).take 2) := by
    match l, h with
    | a :: b :: c :: d :: r, _ => simp
  rw [e, num_app, num_app]
  have h1 : ((l.drop 1).take 1).length = 1 := by rw [List.length_take, List.length_drop]; omega
  have h2 : ((l.drop 2).take 2).length = 2 := by rw [List.length_take, List.length_drop]; omega
  rw [List.length_append, h1, h2]
  omega
end Go.Proofs.Ytfmkndemkpecpaa

/- The law Ip6Writes (chapter 5). -/
namespace Go.Proofs.Ytfmkndemkpecpaa
open Go.RowKit
set_option linter.unusedVariables false
set_option linter.unusedSimpArgs false
attribute [local go_sem ↓] sliced_cut

attribute [local go_sem] cutA_zero

theorem szR6 (cl lb : Nat) (ln : Int) (nx ht : Nat) (s6 : Bool) (sh sl : Nat) (d6 : Bool) (dh dl : Nat) : (Try.prog.info? 180).map (·.size) = some (h6C cl lb ln nx ht s6 sh sl d6 dh dl).length := by kernel_rfl
theorem rowR6 : ∃ d, Try.prog.underlying 180 = some d ∧ d.isRow = true := ⟨_, Try.underlying180, rfl⟩
set_option maxRecDepth 100000 in
theorem eq_h6 (w : World) (cl lb : Nat) (ln : Int) (nx ht : Nat) (s6 : Bool) (sh sl : Nat) (d6 : Bool) (dh dl : Nat) : (binOp .eql 171 (.agg (h6C cl lb ln nx ht s6 sh sl d6 dh dl).toArray) (.agg (h6C cl lb ln nx ht s6 sh sl d6 dh dl).toArray)).run Try.prog w = .ok (.bool true) w := by
  unfold h6C
  go_simp
attribute [local go_sem ↓] eq_h6

end Go.Proofs.Ytfmkndemkpecpaa

/- IPv6 packets of any bytes: ip6.Parse, the reference's Parse. -/
namespace Go.Proofs.Ytfmkndemkpecpaa
open Go.RowKit
set_option linter.unusedVariables false
set_option linter.unusedSimpArgs false
attribute [local go_sem ↓] sliced_cut

attribute [local go_sem] cutA_zero

set_option maxHeartbeats 4000000 in
set_option maxRecDepth 100000 in
theorem parse6_err (A : Option Addr) (n c : Nat) (E : Int) (w : World) (hE : (E != 0) = true) (HH : ∀ w', Below w.heap.size w w' → Calls Try.prog 124 #[.slice A n c] w' (RetV w' (.tuple #[.agg (h6C 0 0 0 0 0 false 0 0 false 0 0).toArray, .int .i64 E]))) : Calls Try.prog 69 #[.slice A n c] w (RetV w (.tuple #[.agg (h6C 0 0 0 0 0 false 0 0 false 0 0).toArray, .slice none 0 0, .int .i64 E])) := by
  obtain ⟨du, u1, u2⟩ := rowH6
  replace HH := Lib.hid HH
  have b2 : Bk (w.alloc (.cells #[.int .u8 0, .int .u32 0, .int .i64 0, .int .u8 0, .int .u8 0, .bool false, .int .u64 0, .int .u64 0, .bool false, .int .u64 0, .int .u64 0] 171)) w.heap.size 171 (h6C 0 0 0 0 0 false 0 0 false 0 0) := Bk.new w 171 #[.int .u8 0, .int .u32 0, .int .i64 0, .int .u8 0, .int .u8 0, .bool false, .int .u64 0, .int .u64 0, .bool false, .int .u64 0, .int .u64 0]
  have be : Below w.heap.size w (w.alloc (.cells #[.int .u8 0, .int .u32 0, .int .i64 0, .int .u8 0, .int .u8 0, .bool false, .int .u64 0, .int .u64 0, .bool false, .int .u64 0, .int .u64 0] 171)) := Below.allocS (Below.refl _ _) _
  go_enter Try.func69, Try.ntmps69
  go_wp2_with fail
  refine (HH.out _ be).mono ?_
  rintro e w1 ⟨bs1, d1, rfl, rfl⟩
  go_upto_region 2 with (refine at_op (.store 171 (.tmp 5) (.tmp 10)) rfl ?_; refine wpList_stA (t := 171) 171 (.tmp 5) (.tmp 10) rfl rfl (h6C 0 0 0 0 0 false 0 0 false 0 0) (h6C 0 0 0 0 0 false 0 0 false 0 0) rfl (h6C_one _ _ _ _ _ _ _ _ _ _ _) rfl rfl ?_ (szH6 _ _ _ _ _ _ _ _ _ _ _) ?_; (· refine Bk.newK _ _ _ ?_ rfl; simp [size_plus]); intro W b5 hgr)
  have zb := be.size
  replace b2 := ((b2.later (below_plus _ bs1 d1)).alloc _).grown hgr (by simp; omega)
  replace be := below_grown (Below.allocS (belowP be bs1 d1) _) hgr (by omega)
  clear hgr zb
  go_wp2_with (refine at_op (.store 171 (.tmp 2) (.tmp 14)) rfl ?_; refine wpList_stA (t := 171) 171 (.tmp 2) (.tmp 14) rfl rfl (h6C 0 0 0 0 0 false 0 0 false 0 0) (h6C 0 0 0 0 0 false 0 0 false 0 0) rfl (h6C_one _ _ _ _ _ _ _ _ _ _ _) rfl rfl b2 (szH6 _ _ _ _ _ _ _ _ _ _ _) ?_; intro W9 h9 g9)
  refine bodyPost_agg3 Try.results69 rfl rfl rfl h9.range u1 u2 (szH6 _ _ _ _ _ _ _ _ _ _ _) rfl (RetV.mk ?_)
  exact below_grown be g9 (by omega)
/-- a header, bytes, an error -/
def RetP6 (w : World) (cl lb ln nx ht : Nat) (s6 : Bool) (sh sl dh dl : Nat) (load : List UInt8) (E : Int) (e : Ending) (w' : World) : Prop := ∃ A n k bs d, e = .returned (.tuple #[.agg (h6C cl lb (ln : Int) nx ht s6 sh sl s6 dh dl).toArray, .slice A n k, .int .i64 E]) ∧ w' = plus w bs d ∧ Rb (plus w bs d) A n k load ∧ ∀ a, A = some a → w.heap.size ≤ a.block
theorem Ob.fresh6 {w : World} {w0 base : Nat} {A : Option Addr} {n c : Nat} {l : List UInt8} (h : Ob w base A n c l) (hb : w0 ≤ base) : ∀ a, A = some a → w0 ≤ a.block := fun a ha => by
  subst ha
  have := (h.blk a.block rfl).1
  omega
theorem RetP6.err {w : World} {E : Int} {e : Ending} {w' : World} (h : RetV w (.tuple #[.agg (h6C 0 0 0 0 0 false 0 0 false 0 0).toArray, .slice none 0 0, .int .i64 E]) e w') : RetP6 w 0 0 0 0 0 false 0 0 0 0 [] E e w' := by
  obtain ⟨bs, d, rfl, rfl⟩ := h
  exact ⟨none, 0, 0, bs, d, rfl, rfl, Rb.nil_, fun a ha => by cases ha⟩
theorem RetP6.mk {w w' : World} {cl lb ln nx ht : Nat} {s6 : Bool} {sh sl dh dl : Nat} {load : List UInt8} {E : Int} {A : Option Addr} {n k : Nat} (h : Rb w' A n k load) (hf : ∀ a, A = some a → w.heap.size ≤ a.block) (hb : Below w.heap.size w w') : RetP6 w cl lb ln nx ht s6 sh sl dh dl load E (.returned (.tuple #[.agg (h6C cl lb (ln : Int) nx ht s6 sh sl s6 dh dl).toArray, .slice A n k, .int .i64 E])) w' := by
  obtain ⟨bs, d, rfl⟩ := plus_of hb
  exact ⟨A, n, k, bs, d, rfl, rfl, h, hf⟩
set_option maxHeartbeats 4000000 in
set_option maxRecDepth 100000 in
theorem parse6_ok (cl lb ln nx ht sh sl dh dl : Nat) (A : Option Addr) (n c : Nat) (rest : List UInt8) (w : World) (h1 : cl < 256) (h2 : lb < 1048576) (h3 : ln < 65536) (h4 : nx < 256) (h5 : ht < 256) (k1 : sh < 18446744073709551616) (k2 : sl < 18446744073709551616) (k3 : dh < 18446744073709551616) (k4 : dl < 18446744073709551616) (h : Rb w A n c (ip6B cl lb ln nx ht sh sl dh dl ++ rest)) (hn : ln ≤ rest.length) (hm : n ≤ 1000000) :
    Calls Try.prog 69 #[.slice A n c] w (RetP6 w cl lb ln nx ht true sh sl dh dl (rest.take ln) 0) := by
  obtain ⟨dk, u1, u2⟩ := rowH6
  have hlen : n = 40 + rest.length := by rw [← h.1, List.length_append, ip6B_length]
  obtain ⟨b, off, rfl, hbl, hcell⟩ := h.2.2.at_ (by rw [bcs_length, h.1]; omega)
  have hc := h.2.1
  have HH := Lib.hid (fun w (h : Rb w (some ⟨b, off, none⟩) n c (ip6B cl lb ln nx ht sh sl dh dl ++ rest)) => ip6Header cl lb ln nx ht sh sl dh dl (some ⟨b, off, none⟩) n c rest w h1 h2 h3 h4 h5 k1 k2 k3 k4 h hn hm)
  have hr0 : Rb w (cutA (some ⟨b, off, none⟩) c 40 1) ln (c - 40) (rest.take ln) := by
    have h40 := (h.cut (k := 40) (by omega)).take (k := ln) (by omega)
    rwa [List.drop_left' (ip6B_length _ _ _ _ _ _ _ _ _)] at h40
  obtain ⟨z, hz⟩ : ∃ z : Nat, z = 40 + ln := ⟨_, rfl⟩
  have e1 : IntKind.i64.wrap (40 + (ln : Int)) = (z : Int) := by rw [IntWalk.i64_in _ (by omega)]; omega
  have j0 : (0 : Int) ≤ 40 := by omega
  have j1 : (40 : Int) ≤ (z : Int) := by omega
  have j2 : (z : Int) ≤ (c : Int) := by omega
  have j3 : z - 40 = ln := by omega
  clear hcell hz
  generalize rest.take ln = load at *
  have b2 : Bk (w.alloc (.cells #[.int .u8 0, .int .u32 0, .int .i64 0, .int .u8 0, .int .u8 0, .bool false, .int .u64 0, .int .u64 0, .bool false, .int .u64 0, .int .u64 0] 171)) w.heap.size 171 (h6C 0 0 0 0 0 false 0 0 false 0 0) := Bk.new w 171 #[.int .u8 0, .int .u32 0, .int .i64 0, .int .u8 0, .int .u8 0, .bool false, .int .u64 0, .int .u64 0, .bool false, .int .u64 0, .int .u64 0]
  have be : Below w.heap.size w (w.alloc (.cells #[.int .u8 0, .int .u32 0, .int .i64 0, .int .u8 0, .int .u8 0, .bool false, .int .u64 0, .int .u64 0, .bool false, .int .u64 0, .int .u64 0] 171)) := Below.allocS (Below.refl _ _) _
  replace hlen := Lib.hid hlen
  go_enter Try.func69, Try.ntmps69
  go_wp2_with fail
  refine (HH.out _ (h.alloc _)).mono ?_
  rintro e w1 ⟨bs1, d1, rfl, rfl⟩
  go_upto_region 2 with (refine at_op (.store 171 (.tmp 5) (.tmp 10)) rfl ?_; refine wpList_stA (t := 171) 171 (.tmp 5) (.tmp 10) rfl rfl (h6C cl lb (ln : Int) nx ht true sh sl true dh dl) (h6C 0 0 0 0 0 false 0 0 false 0 0) rfl (h6C_one _ _ _ _ _ _ _ _ _ _ _) rfl rfl ?_ (szH6 _ _ _ _ _ _ _ _ _ _ _) ?_; (· refine Bk.newK _ _ _ ?_ rfl; simp [size_plus]); intro W b5 hgr)
  have zb := be.size
  replace b2 := ((b2.later (below_plus _ bs1 d1)).alloc _).grown hgr (by simp; omega)
  replace be := below_grown (Below.allocS (belowP be bs1 d1) _) hgr (by omega)
  have hr := hr0.later be
  have hg5 : w.heap.size < w.heap.size + 1 + bs1.length := by omega
  generalize w.heap.size + 1 + bs1.length = g5 at *
  have hDb : ∀ b, (fun b => b = w.heap.size) b → b < W.heap.size := fun b hb => by subst hb; exact b2.lt
  have hrd : ∀ a, cutA (some ⟨b, off, none⟩) c 40 1 = some a → ¬ (fun b => b = w.heap.size) a.block := fun a ha hb => by
    have : a.block = b := by
      unfold cutA at ha
      split at ha
      · injection ha with ha; subst ha; rfl
      · simp [add_plain] at ha; subst ha; rfl
    have hb' : a.block = w.heap.size := hb
    omega
  clear hgr zb h
  go_wp2
  refine wp_su (fun b => b = w.heap.size) 10 23 2 [7] rfl (by kernel_rfl) (by kernel_rfl) (fun i => match i with | 0 => MC.eq (.agg (h6C cl lb (ln : Int) nx ht true sh sl true dh dl).toArray) | 1 => MC.eq (.slice (some ⟨b, off, none⟩) n c) | 2 => MC.eq (.pointer (some ⟨g5, 2, none⟩)) | 3 => MC.eq (.int .i64 (ln : Int)) | 4 => MC.eq (.int .i64 (z : Int)) | 5 => MC.eq (.slice (cutA (some ⟨b, off, none⟩) c 40 1) ln (c - 40)) | 6 => MC.ob W.heap.size hDb load | 7 => MC.any | 8 => MC.ob W.heap.size hDb load | 9 => MC.eq (.int .i64 0) | _ => MC.any) (fun k w' => Bk w' w.heap.size 171 (if k = 0 then h6C 0 0 0 0 0 false 0 0 false 0 0 else h6C cl lb (ln : Int) nx ht true sh sl true dh dl)) ?_ ?_ ?_ ?_ ?_
  · exact fun k w w' h h' => h.later h'.below
  · exact b2
  · intro i hi o ho hq FA w' hC hO hD K hK
    match i, hi, ho, hq, hO, hD, hK with
    | 0, _, ho, hq, hO, hD, hK => 
      obtain rfl := Option.some.inj ho.symm
      clear ho hq
      have ev5 : FA.eval (.tmp 5) = .pointer (some ⟨g5, 0, none⟩) := hO 5 (by kernel_rfl)
      have e5 : FA.tmps[5]?.getD undef = .pointer (some ⟨g5, 0, none⟩) := by simpa [Act.eval] using ev5
      replace ev5 := Lib.hid ev5
      clear hO hD
      refine wanted_if rfl ?_
      refine wp_load_mid 171 (.tmp 5) rfl g5 0 ev5.out (h6C cl lb (ln : Int) nx ht true sh sl true dh dl) _ (Bk.range (b5.chg hC (by omega))) u1 u2 (szH6 _ _ _ _ _ _ _ _ _ _ _) ?_
      exact hK.out _ _ (Ex.refl _) rfl
    | 1, _, ho, hq, hO, hD, hK => 
      obtain rfl := Option.some.inj ho.symm
      clear ho hq
      have ev0 : FA.eval (.tmp 0) = .slice (some ⟨b, off, none⟩) n c := hO 0 (by kernel_rfl)
      have e0 : FA.tmps[0]?.getD undef = .slice (some ⟨b, off, none⟩) n c := by simpa [Act.eval] using ev0
      replace ev0 := Lib.hid ev0
      clear hO hD
      go_simp
      exact hK.out _ _ (Ex.refl _) rfl
    | 2, _, ho, hq, hO, hD, hK => 
      obtain rfl := Option.some.inj ho.symm
      clear ho hq
      have ev5 : FA.eval (.tmp 5) = .pointer (some ⟨g5, 0, none⟩) := hO 5 (by kernel_rfl)
      have e5 : FA.tmps[5]?.getD undef = .pointer (some ⟨g5, 0, none⟩) := by simpa [Act.eval] using ev5
      replace ev5 := Lib.hid ev5
      clear hO hD
      go_simp
      exact hK.out _ _ (Ex.refl _) rfl
    | 3, _, ho, hq, hO, hD, hK => 
      obtain rfl := Option.some.inj ho.symm
      clear ho hq
      have ev18 : FA.eval (.tmp 18) = .pointer (some ⟨g5, 2, none⟩) := hD 2 18 (by kernel_rfl)
      have e18 : FA.tmps[18]?.getD undef = .pointer (some ⟨g5, 2, none⟩) := by simpa [Act.eval] using ev18
      replace ev18 := Lib.hid ev18
      clear hO hD
      have cc : w'.cell? ⟨g5, 2, none⟩ = some (.int .i64 (ln : Int)) := (b5.chg hC (by omega)).cell 2
      go_simp
      exact hK.out _ _ (Ex.refl _) rfl
    | 4, _, ho, hq, hO, hD, hK => 
      obtain rfl := Option.some.inj ho.symm
      clear ho hq
      have ev19 : FA.eval (.tmp 19) = .int .i64 (ln : Int) := hD 3 19 (by kernel_rfl)
      have e19 : FA.tmps[19]?.getD undef = .int .i64 (ln : Int) := by simpa [Act.eval] using ev19
      replace ev19 := Lib.hid ev19
      clear hO hD
      go_simp
      exact hK.out _ _ (Ex.refl _) rfl
    | 5, _, ho, hq, hO, hD, hK => 
      obtain rfl := Option.some.inj ho.symm
      clear ho hq
      have ev17 : FA.eval (.tmp 17) = .slice (some ⟨b, off, none⟩) n c := hD 1 17 (by kernel_rfl)
      have e17 : FA.tmps[17]?.getD undef = .slice (some ⟨b, off, none⟩) n c := by simpa [Act.eval] using ev17
      replace ev17 := Lib.hid ev17
      have ev20 : FA.eval (.tmp 20) = .int .i64 (z : Int) := hD 4 20 (by kernel_rfl)
      have e20 : FA.tmps[20]?.getD undef = .int .i64 (z : Int) := by simpa [Act.eval] using ev20
      replace ev20 := Lib.hid ev20
      clear hO hD
      go_simp
      exact hK.out _ _ (Ex.refl _) rfl
    | 6, _, ho, hq, hO, hD, hK => 
      obtain rfl := Option.some.inj ho.symm
      clear ho hq
      have ev21 : FA.eval (.tmp 21) = .slice (cutA (some ⟨b, off, none⟩) c 40 1) ln (c - 40) := hD 5 21 (by kernel_rfl)
      have e21 : FA.tmps[21]?.getD undef = .slice (cutA (some ⟨b, off, none⟩) c 40 1) ln (c - 40) := by simpa [Act.eval] using ev21
      replace ev21 := Lib.hid ev21
      clear hO hD
      go_simp
      refine (clone_any _ _ _ load _ (hr.chg hC hrd) (by omega)).mono ?_
      rintro e w1 ⟨A2, n2, c2, bs2, d2, rfl, rfl, ho2⟩
      exact hK.out _ _ (Ex.plus_ _ _ _) ⟨_, _, _, rfl, ho2.mono hC.size⟩
    | 7, _, _, hq, _, _, _ => exact absurd hq (by decide)
    | 8, _, ho, hq, hO, hD, hK => 
      obtain rfl := Option.some.inj ho.symm
      clear ho hq
      have f22 := hD 6 22 (by kernel_rfl)
      generalize eu22 : FA.eval (.tmp 22) = u22 at f22
      have e22 : FA.tmps[22]?.getD undef = u22 := by rw [← eu22]; simp [Act.eval]
      have ev22 := Lib.hid eu22
      clear eu22
      clear hO hD
      go_simp
      exact hK.out _ _ (Ex.refl _) f22
    | 9, _, ho, hq, hO, hD, hK => 
      obtain rfl := Option.some.inj ho.symm
      clear ho hq
      clear hO hD
      go_simp
      exact hK.out _ _ (Ex.refl _) rfl
    | (k + 10), hi, _, _, _, _, _ => exact absurd hi (by omega)
  · intro k i hk o ho FA w' hC hS hO hD K hK
    match k, hk, hS, hK with
    | 0, hk, hS, hK => 
      obtain rfl : 7 = i := Option.some.inj hk
      obtain rfl := Option.some.inj ho.symm
      clear ho hk
      have ev2 : FA.eval (.tmp 2) = .pointer (some ⟨w.heap.size, 0, none⟩) := hO 2 (by kernel_rfl)
      have e2 : FA.tmps[2]?.getD undef = .pointer (some ⟨w.heap.size, 0, none⟩) := by simpa [Act.eval] using ev2
      replace ev2 := Lib.hid ev2
      have ev16 : FA.eval (.tmp 16) = .agg (h6C cl lb (ln : Int) nx ht true sh sl true dh dl).toArray := hD 0 16 (by kernel_rfl)
      have e16 : FA.tmps[16]?.getD undef = .agg (h6C cl lb (ln : Int) nx ht true sh sl true dh dl).toArray := by simpa [Act.eval] using ev16
      replace ev16 := Lib.hid ev16
      clear hO hD
      refine wanted_if rfl ?_
      refine wp_stA 171 (.tmp 2) (.tmp 16) rfl (h6C cl lb (ln : Int) nx ht true sh sl true dh dl) (h6C 0 0 0 0 0 false 0 0 false 0 0) rfl (h6C_one _ _ _ _ _ _ _ _ _ _ _) ev2.out ev16.out hS (szH6 _ _ _ _ _ _ _ _ _ _ _) ?_
      intro w'' hn hg
      exact hK.out _ _ (Chg.one hg rfl) hn trivial
    | (k + 1), hk, _, _ => simp at hk
  intro vs w' hC hS hp
  have p0 : vs 0 = .agg (h6C cl lb (ln : Int) nx ht true sh sl true dh dl).toArray := hp 0 (by omega) rfl
  have p1 : vs 1 = .slice (some ⟨b, off, none⟩) n c := hp 1 (by omega) rfl
  have p2 : vs 2 = .pointer (some ⟨g5, 2, none⟩) := hp 2 (by omega) rfl
  have p3 : vs 3 = .int .i64 (ln : Int) := hp 3 (by omega) rfl
  have p4 : vs 4 = .int .i64 (z : Int) := hp 4 (by omega) rfl
  have p5 : vs 5 = .slice (cutA (some ⟨b, off, none⟩) c 40 1) ln (c - 40) := hp 5 (by omega) rfl
  have p6 := hp 6 (by omega) rfl
  have p8 := hp 8 (by omega) rfl
  have p9 : vs 9 = .int .i64 0 := hp 9 (by omega) rfl
  clear hp
  simp only [List.take_succ_cons, List.take_zero, List.drop_succ_cons, List.drop_zero, putAll, Nat.zero_add, Nat.reduceAdd, Act.put, List.setIfInBounds_toArray, List.set_cons_zero, List.set_cons_succ, p0, p1, p2, p3, p4, p5, p9]
  clear p0 p1 p2 p3 p4 p5 p9
  generalize vs 6 = y6 at *
  generalize vs 8 = y8 at *
  clear vs
  obtain ⟨A8, n8, c8, rfl, h8⟩ := p8
  go_wp2
  refine bodyPost_agg3 Try.results69 rfl rfl rfl (Bk.range hS) u1 u2 (szH6 _ _ _ _ _ _ _ _ _ _ _) rfl (RetP6.mk h8.rb (h8.fresh6 be.size) ?_)
  exact be.trans (hC.below (B := w.heap.size) (fun b hb => by have : b = w.heap.size := hb; omega) be.size)
theorem take_app {α : Type} (a b : Nat) (l : List α) : l.take a ++ (l.drop a).take b = l.take (a + b) := by
  rw [List.take_add]
set_option maxHeartbeats 4000000 in
set_option maxRecDepth 100000 in
theorem refOf16 (a b : Nat) (A : Option Addr) (c : Nat) (w : World) (ha : a < 18446744073709551616) (hb : b < 18446744073709551616) (h : Rb w A 16 c (dig a 8 ++ dig b 8)) : Calls Try.prog 55 #[.slice A 16 c] w (RetV w (.tuple #[.agg (adC true a b).toArray, .bool true])) := by
  obtain ⟨dk, u1, u2⟩ : ∃ d, Try.prog.underlying 26 = some d ∧ d.isRow = true := ⟨_, Try.underlying26, rfl⟩
  have hc := h.2.1
  have hc2 : (16 : Int) ≤ (c : Int) := by omega
  have hc8 : (8 : Int) ≤ (c : Int) := by omega
  have hA : Rb w A 8 c (dig a 8) := by
    have := h.take (k := 8) (by omega)
    rwa [List.take_left' (dig_length _ _)] at this
  have hB : Rb w (cutA A c 8 1) 8 (c - 8) (dig b 8) := by
    have := h.cut (k := 8) (by omega)
    rwa [List.drop_left' (dig_length _ _)] at this
  have HN := Lib.hid (fun w A c x (hx : x < 18446744073709551616) (h : Rb w A 8 c (dig x 8)) => (by have := refNum_any A 8 c (dig x 8) w h (by decide); rwa [numDig x 8 (by omega)] at this : Calls Try.prog 113 #[.slice A 8 c] w fun e w' => e = .returned (.int .u64 (x : Nat)) ∧ w = w'))
  have b2 : Bk (w.alloc (.cells #[.bool false, .int .u64 0, .int .u64 0] 26)) w.heap.size 26 (adC false 0 0) := Bk.new w 26 #[.bool false, .int .u64 0, .int .u64 0]
  have be : Below w.heap.size w (w.alloc (.cells #[.bool false, .int .u64 0, .int .u64 0] 26)) := Below.allocS (Below.refl _ _) _
  go_enter Try.func55, Try.ntmps55
  go_upto_region 5 with (fail)
  generalize w.alloc (.cells #[.bool false, .int .u64 0, .int .u64 0] 26) = V at *
  go_wp2
  refine wp_relS 7 21 rfl (by kernel_rfl) (by kernel_rfl) ?_
  apply Steps.one (MP.eq _) 1 rfl
  · intro o ho FA x hO hD K hK
    obtain rfl := Option.some.inj ho.symm
    clear ho
    have e0 := hO 0 (by kernel_rfl)
    simp only [eval_tmp, List.getElem?_toArray, List.getElem?_cons_succ, List.getElem?_cons_zero, Option.getD_some] at e0
    have ev0 := Lib.hid ((eval_tmp FA 0).trans e0)
    clear hO hD
    go_simp
    exact hK.out _ _ (Ex.refl _) rfl
  apply Steps.one (MP.eq _) 2 rfl
  · intro o ho FA x hO hD K hK
    obtain rfl := Option.some.inj ho.symm
    clear ho
    have ev14 : FA.eval (.tmp 14) = _ := hD 0 14 (by kernel_rfl)
    have e14 := (eval_tmp FA 14).symm.trans ev14
    replace ev14 := Lib.hid ev14
    clear hO hD
    go_simp
    exact hK.out _ _ (Ex.refl _) rfl
  apply Steps.one (MP.eq _) 3 rfl
  · intro o ho FA x hO hD K hK
    obtain rfl := Option.some.inj ho.symm
    clear ho
    have ev15 : FA.eval (.tmp 15) = _ := hD 1 15 (by kernel_rfl)
    have e15 := (eval_tmp FA 15).symm.trans ev15
    replace ev15 := Lib.hid ev15
    clear hO hD
    go_simp
    refine (HN.out _ _ _ a ha ((hA.later be).plus_ _ _)).mono ?_
    rintro e w1 ⟨rfl, rfl⟩
    exact hK.out _ _ (Ex.refl _) rfl
  apply Steps.one (MP.eq _) 4 rfl
  · intro o ho FA x hO hD K hK
    obtain rfl := Option.some.inj ho.symm
    clear ho
    have e0 := hO 0 (by kernel_rfl)
    simp only [eval_tmp, List.getElem?_toArray, List.getElem?_cons_succ, List.getElem?_cons_zero, Option.getD_some] at e0
    have ev0 := Lib.hid ((eval_tmp FA 0).trans e0)
    clear hO hD
    go_simp
    exact hK.out _ _ (Ex.refl _) rfl
  apply Steps.one (MP.eq _) 5 rfl
  · intro o ho FA x hO hD K hK
    obtain rfl := Option.some.inj ho.symm
    clear ho
    have ev17 : FA.eval (.tmp 17) = _ := hD 3 17 (by kernel_rfl)
    have e17 := (eval_tmp FA 17).symm.trans ev17
    replace ev17 := Lib.hid ev17
    clear hO hD
    go_simp
    exact hK.out _ _ (Ex.refl _) rfl
  apply Steps.one (MP.eq _) 6 rfl
  · intro o ho FA x hO hD K hK
    obtain rfl := Option.some.inj ho.symm
    clear ho
    have ev18 : FA.eval (.tmp 18) = _ := hD 4 18 (by kernel_rfl)
    have e18 := (eval_tmp FA 18).symm.trans ev18
    replace ev18 := Lib.hid ev18
    clear hO hD
    go_simp
    refine (HN.out _ _ _ b hb ((hB.later be).plus_ _ _)).mono ?_
    rintro e w1 ⟨rfl, rfl⟩
    exact hK.out _ _ (Ex.refl _) rfl
  apply Steps.one (MP.eq _) 7 rfl
  · intro o ho FA x hO hD K hK
    obtain rfl := Option.some.inj ho.symm
    clear ho
    have ev16 : FA.eval (.tmp 16) = _ := hD 2 16 (by kernel_rfl)
    have e16 := (eval_tmp FA 16).symm.trans ev16
    replace ev16 := Lib.hid ev16
    have ev19 : FA.eval (.tmp 19) = _ := hD 5 19 (by kernel_rfl)
    have e19 := (eval_tmp FA 19).symm.trans ev19
    replace ev19 := Lib.hid ev19
    clear hO hD
    go_simp
    exact hK.out _ _ (Ex.refl _) rfl
  refine Steps.fin_ (fun vs x hp => ?_)
  have p0 : vs 0 = _ := hp 0 (by omega)
  have p1 : vs 1 = _ := hp 1 (by omega)
  have p2 : vs 2 = _ := hp 2 (by omega)
  have p3 : vs 3 = _ := hp 3 (by omega)
  have p4 : vs 4 = _ := hp 4 (by omega)
  have p5 : vs 5 = _ := hp 5 (by omega)
  have p6 : vs 6 = _ := hp 6 (by omega)
  clear hp
  simp only [List.take_succ_cons, List.take_zero, List.drop_succ_cons, List.drop_zero, putAll, Nat.zero_add, Nat.reduceAdd, Act.put, List.setIfInBounds_toArray, List.set_cons_zero, List.set_cons_succ, p0, p1, p2, p3, p4, p5, p6]
  clear p0 p1 p2 p3 p4 p5 p6
  clear vs
  go_wp2_with (refine at_op (.store 26 (.tmp 2) (.tmp 20)) rfl ?_; refine wpList_stA (t := 26) 26 (.tmp 2) (.tmp 20) rfl rfl (adC true a b) (adC false 0 0) rfl (adC_one _ _ _) rfl rfl (b2.later (below_plus _ _ _)) (szAd _ _ _) ?_; intro W9 h9 g9)
  refine bodyPost_agg2 Try.results55 rfl rfl h9.range u1 u2 (szAd _ _ _) rfl (RetV.mk ?_)
  exact below_grown (belowP be _ _) g9 (by omega)
set_option maxHeartbeats 4000000 in
set_option maxRecDepth 100000 in
theorem refP6_short (A : Option Addr) (n c : Nat) (l : List UInt8) (w : World) (h : Rb w A n c l) (hm : n ≤ 1000000) (hn : n < 40) : Calls Try.prog 76 #[.slice A n c] w (RetV w (.tuple #[.agg (h6C 0 0 0 0 0 false 0 0 false 0 0).toArray, .slice none 0 0, .int .i64 20])) := by
  obtain ⟨dr, r1, r2⟩ := rowR6
  have d40 : decide ((n : Int) < 40) = true := by simp only [decide_eq_true_eq]; omega
  have b2 : Bk (w.alloc (.cells #[.int .u8 0, .int .u32 0, .int .i64 0, .int .u8 0, .int .u8 0, .bool false, .int .u64 0, .int .u64 0, .bool false, .int .u64 0, .int .u64 0] 180)) w.heap.size 180 (h6C 0 0 0 0 0 false 0 0 false 0 0) := Bk.new w 180 #[.int .u8 0, .int .u32 0, .int .i64 0, .int .u8 0, .int .u8 0, .bool false, .int .u64 0, .int .u64 0, .bool false, .int .u64 0, .int .u64 0]
  have be : Below w.heap.size w (w.alloc (.cells #[.int .u8 0, .int .u32 0, .int .i64 0, .int .u8 0, .int .u8 0, .bool false, .int .u64 0, .int .u64 0, .bool false, .int .u64 0, .int .u64 0] 180)) := Below.allocS (Below.refl _ _) _
  go_enter Try.func76, Try.ntmps76
  go_wp2_with (refine at_op (.store 180 (.tmp 2) (.tmp 9)) rfl ?_; refine wpList_stA (t := 180) 180 (.tmp 2) (.tmp 9) rfl rfl (h6C 0 0 0 0 0 false 0 0 false 0 0) (h6C 0 0 0 0 0 false 0 0 false 0 0) rfl (h6C_one _ _ _ _ _ _ _ _ _ _ _) rfl rfl b2 (szR6 _ _ _ _ _ _ _ _ _ _ _) ?_; intro W9 h9 g9)
  refine bodyPost_agg3 Try.results76 rfl rfl rfl h9.range r1 r2 (szR6 _ _ _ _ _ _ _ _ _ _ _) rfl (RetV.mk ?_)
  exact below_grown be g9 (by omega)
set_option maxHeartbeats 4000000 in
set_option maxRecDepth 100000 in
theorem refP6_form (A : Option Addr) (n c : Nat) (l : List UInt8) (w : World) (h : Rb w A n c l) (hm : n ≤ 1000000) (b0 : Nat) (x0 : num ((l.drop 0).take 1) = b0) (hn : 40 ≤ n) (hf : b0 / 16 ≠ 6) : Calls Try.prog 76 #[.slice A n c] w (RetV w (.tuple #[.agg (h6C 0 0 0 0 0 false 0 0 false 0 0).toArray, .slice none 0 0, .int .i64 21])) := by
  obtain ⟨dr, r1, r2⟩ := rowR6
  have hc := h.2.1
  have d40 : decide ((n : Int) < 40) = false := by simp only [decide_eq_false_iff_not]; omega
  have e2 : ((b0 : Int) / 16 != 6) = true := by rw [bne_iff_ne]; omega
  obtain ⟨b, off, rfl, hbl, hcell⟩ := h.2.2.at_ (by rw [bcs_length, h.1]; omega)
  have y0 := num_cell hcell 0 (by rw [h.1]; omega)
  rw [x0, Nat.add_zero] at y0
  have i0 : (0 : Int) < (n : Int) := by omega
  have hb0 : b0 < 256 := by rw [← x0]; exact num_lt' l 0 1 256 (by decide)
  clear hcell x0 h
  have b2 : Bk (w.alloc (.cells #[.int .u8 0, .int .u32 0, .int .i64 0, .int .u8 0, .int .u8 0, .bool false, .int .u64 0, .int .u64 0, .bool false, .int .u64 0, .int .u64 0] 180)) w.heap.size 180 (h6C 0 0 0 0 0 false 0 0 false 0 0) := Bk.new w 180 #[.int .u8 0, .int .u32 0, .int .i64 0, .int .u8 0, .int .u8 0, .bool false, .int .u64 0, .int .u64 0, .bool false, .int .u64 0, .int .u64 0]
  have be : Below w.heap.size w (w.alloc (.cells #[.int .u8 0, .int .u32 0, .int .i64 0, .int .u8 0, .int .u8 0, .bool false, .int .u64 0, .int .u64 0, .bool false, .int .u64 0, .int .u64 0] 180)) := Below.allocS (Below.refl _ _) _
  go_enter Try.func76, Try.ntmps76
  go_wp2_with (refine at_op (.store 180 (.tmp 2) (.tmp 15)) rfl ?_; refine wpList_stA (t := 180) 180 (.tmp 2) (.tmp 15) rfl rfl (h6C 0 0 0 0 0 false 0 0 false 0 0) (h6C 0 0 0 0 0 false 0 0 false 0 0) rfl (h6C_one _ _ _ _ _ _ _ _ _ _ _) rfl rfl b2 (szR6 _ _ _ _ _ _ _ _ _ _ _) ?_; intro W9 h9 g9)
  refine bodyPost_agg3 Try.results76 rfl rfl rfl h9.range r1 r2 (szR6 _ _ _ _ _ _ _ _ _ _ _) rfl (RetV.mk ?_)
  exact below_grown be g9 (by omega)
set_option maxHeartbeats 4000000 in
set_option maxRecDepth 100000 in
theorem refP6_long (A : Option Addr) (n c : Nat) (l : List UInt8) (w : World) (h : Rb w A n c l) (hm : n ≤ 1000000) (b0 b1 lo cl lb ln nx ht sh sl dh dl : Nat) (x0 : num ((l.drop 0).take 1) = b0) (x1 : num ((l.drop 1).take 1) = b1) (x2 : num ((l.drop 2).take 2) = lo) (x3 : num ((l.drop 4).take 2) = ln) (x4 : num ((l.drop 6).take 1) = nx) (x5 : num ((l.drop 7).take 1) = ht) (z0 : (l.drop 8).take 16 = dig sh 8 ++ dig sl 8) (z1 : (l.drop 24).take 16 = dig dh 8 ++ dig dl 8) (k1 : sh < 18446744073709551616) (k2 : sl < 18446744073709551616) (k3 : dh < 18446744073709551616) (k4 : dl < 18446744073709551616) (g0 : b0 / 16 = 6) (g1 : b0 % 16 * 16 + b1 / 16 = cl) (g2 : b1 % 16 * 65536 + lo = lb) (hn : 40 ≤ n) (hq : n - 40 < ln) : Calls Try.prog 76 #[.slice A n c] w (RetV w (.tuple #[.agg (h6C 0 0 0 0 0 false 0 0 false 0 0).toArray, .slice none 0 0, .int .i64 20])) := by
  obtain ⟨dr, r1, r2⟩ := rowR6
  have hc := h.2.1
  have d40 : decide ((n : Int) < 40) = false := by simp only [decide_eq_false_iff_not]; omega
  have hdl : decide ((n : Int) - 40 < (ln : Int)) = true := by simp only [decide_eq_true_eq]; omega
  have e0 : (b0 : Int) / 16 = 6 := by omega
  have e0n : ((b0 : Int) / 16 != 6) = false := by rw [e0]; rfl
  have hb0 : b0 < 256 := by rw [← x0]; exact num_lt' l 0 1 256 (by decide)
  have hb1 : b1 < 256 := by rw [← x1]; exact num_lt' l 1 1 256 (by decide)
  have hlo : lo < 65536 := by rw [← x2]; exact num_lt' l 2 2 65536 (by decide)
  have hln : ln < 65536 := by rw [← x3]; exact num_lt' l 4 2 65536 (by decide)
  obtain ⟨m0, hm0⟩ : ∃ m : Nat, m = b0 % 16 := ⟨_, rfl⟩
  obtain ⟨m1, hm1⟩ : ∃ m : Nat, m = b1 % 16 := ⟨_, rfl⟩
  obtain ⟨m2, hm2⟩ : ∃ m : Nat, m = b1 / 16 := ⟨_, rfl⟩
  have v0 : (b0 : Int) % 16 = (m0 : Int) := by omega
  have v1 : (b1 : Int) % 16 = (m1 : Int) := by omega
  have v0t : (b0 : Int).tmod 16 = (m0 : Int) := by rw [Int.tmod_eq_emod_of_nonneg (by omega)]; omega
  have v1t : (b1 : Int).tmod 16 = (m1 : Int) := by rw [Int.tmod_eq_emod_of_nonneg (by omega)]; omega
  have v2 : (b1 : Int) / 16 = (m2 : Int) := by omega
  have v3 : ((m0 : Int) * 16 + (m2 : Int)) % 256 = (cl : Int) := by omega
  have v3w : IntKind.u8.wrap ((m0 : Int) * 16 + (m2 : Int)) = (cl : Int) := by rw [IntWalk.u8_in _ (by omega)]; omega
  have v3a : IntKind.u8.wrap ((m0 : Int) * 16) = (m0 : Int) * 16 := IntWalk.u8_in _ (by omega)
  have v2w : IntKind.u8.wrap (m2 : Int) = (m2 : Int) := IntWalk.u8_in _ (by omega)
  have v4 : IntKind.u32.wrap (m1 : Int) = (m1 : Int) := IntWalk.u32_in _ (by omega)
  have v5 : IntKind.u32.wrap ((m1 : Int) * 65536) = (m1 : Int) * 65536 := IntWalk.u32_in _ (by omega)
  have v6 : IntKind.u32.wrap (lo : Int) = (lo : Int) := IntWalk.u32_in _ (by omega)
  have v7 : IntKind.u32.wrap ((m1 : Int) * 65536 + (lo : Int)) = (lb : Int) := by rw [IntWalk.u32_in _ (by omega)]; omega
  have v8 : IntKind.i64.wrap (ln : Int) = (ln : Int) := IntWalk.i64_in _ (by omega)
  have hcl : cl < 256 := by omega
  obtain ⟨b, off, rfl, hbl, hcell⟩ := h.2.2.at_ (by rw [bcs_length, h.1]; omega)
  have y0 := num_cell hcell 0 (by rw [h.1]; omega)
  rw [x0] at y0
  have y1 := num_cell hcell 1 (by rw [h.1]; omega)
  rw [x1] at y1
  have y4 := num_cell hcell 6 (by rw [h.1]; omega)
  rw [x4] at y4
  have y5 := num_cell hcell 7 (by rw [h.1]; omega)
  rw [x5] at y5
  rw [Nat.add_zero] at y0
  have n0 : 0 < n := by omega
  have n1 : 1 < n := by omega
  have n6 : 6 < n := by omega
  have n7 : 7 < n := by omega
  have i0 : (0 : Int) < (n : Int) := by omega
  have i1 : (1 : Int) < (n : Int) := by omega
  have i6 : (6 : Int) < (n : Int) := by omega
  have i7 : (7 : Int) < (n : Int) := by omega
  clear hcell
  clear x0 x1 x4 x5 g0 g1 g2 hm0 hm1 hm2
  replace x2 := Lib.hid x2
  replace x3 := Lib.hid x3
  replace z0 := Lib.hid z0
  replace z1 := Lib.hid z1
  have b2 : Bk (w.alloc (.cells #[.int .u8 0, .int .u32 0, .int .i64 0, .int .u8 0, .int .u8 0, .bool false, .int .u64 0, .int .u64 0, .bool false, .int .u64 0, .int .u64 0] 180)) w.heap.size 180 (h6C 0 0 0 0 0 false 0 0 false 0 0) := Bk.new w 180 #[.int .u8 0, .int .u32 0, .int .i64 0, .int .u8 0, .int .u8 0, .bool false, .int .u64 0, .int .u64 0, .bool false, .int .u64 0, .int .u64 0]
  have be : Below w.heap.size w (w.alloc (.cells #[.int .u8 0, .int .u32 0, .int .i64 0, .int .u8 0, .int .u8 0, .bool false, .int .u64 0, .int .u64 0, .bool false, .int .u64 0, .int .u64 0] 180)) := Below.allocS (Below.refl _ _) _
  go_enter Try.func76, Try.ntmps76
  go_upto_region 5 with (fail)
  have y0' : (w.alloc (.cells #[.int .u8 0, .int .u32 0, .int .i64 0, .int .u8 0, .int .u8 0, .bool false, .int .u64 0, .int .u64 0, .bool false, .int .u64 0, .int .u64 0] 180)).cell? ⟨b, off, none⟩ = _ := (be.cell (p := ⟨b, off, none⟩) hbl).trans y0
  have y1' : (w.alloc (.cells #[.int .u8 0, .int .u32 0, .int .i64 0, .int .u8 0, .int .u8 0, .bool false, .int .u64 0, .int .u64 0, .bool false, .int .u64 0, .int .u64 0] 180)).cell? ⟨b, off + 1, none⟩ = _ := (be.cell (p := ⟨b, off + 1, none⟩) hbl).trans y1
  have y4' : (w.alloc (.cells #[.int .u8 0, .int .u32 0, .int .i64 0, .int .u8 0, .int .u8 0, .bool false, .int .u64 0, .int .u64 0, .bool false, .int .u64 0, .int .u64 0] 180)).cell? ⟨b, off + 6, none⟩ = _ := (be.cell (p := ⟨b, off + 6, none⟩) hbl).trans y4
  have y5' : (w.alloc (.cells #[.int .u8 0, .int .u32 0, .int .i64 0, .int .u8 0, .int .u8 0, .bool false, .int .u64 0, .int .u64 0, .bool false, .int .u64 0, .int .u64 0] 180)).cell? ⟨b, off + 7, none⟩ = _ := (be.cell (p := ⟨b, off + 7, none⟩) hbl).trans y5
  generalize w.alloc (.cells #[.int .u8 0, .int .u32 0, .int .i64 0, .int .u8 0, .int .u8 0, .bool false, .int .u64 0, .int .u64 0, .bool false, .int .u64 0, .int .u64 0] 180) = V at *
  have zV := be.size
  have zb : b < V.heap.size := by omega
  go_wp2
  refine wp_relS 31 75 rfl (by kernel_rfl) (by kernel_rfl) ?_
  apply Steps.one (MP.eq _) 1 rfl
  · intro o ho FA x hO hD K hK
    obtain rfl := Option.some.inj ho.symm
    clear ho
    have e0 := hO 0 (by kernel_rfl)
    simp only [eval_tmp, List.getElem?_toArray, List.getElem?_cons_succ, List.getElem?_cons_zero, Option.getD_some] at e0
    have ev0 := Lib.hid ((eval_tmp FA 0).trans e0)
    clear hO hD
    go_simp
    exact hK.out _ _ (Ex.refl _) rfl
  apply Steps.one (MP.eq _) 2 rfl
  · intro o ho FA x hO hD K hK
    obtain rfl := Option.some.inj ho.symm
    clear ho
    have ev16 : FA.eval (.tmp 16) = _ := hD 0 16 (by kernel_rfl)
    have e16 := (eval_tmp FA 16).symm.trans ev16
    replace ev16 := Lib.hid ev16
    clear hO hD
    go_simp
    exact hK.out _ _ (Ex.refl _) rfl
  apply Steps.one (MP.eq _) 3 rfl
  · intro o ho FA x hO hD K hK
    obtain rfl := Option.some.inj ho.symm
    clear ho
    have ev17 : FA.eval (.tmp 17) = _ := hD 1 17 (by kernel_rfl)
    have e17 := (eval_tmp FA 17).symm.trans ev17
    replace ev17 := Lib.hid ev17
    clear hO hD
    go_simp
    exact hK.out _ _ (Ex.refl _) rfl
  apply Steps.one (MP.eq _) 4 rfl
  · intro o ho FA x hO hD K hK
    obtain rfl := Option.some.inj ho.symm
    clear ho
    have ev18 : FA.eval (.tmp 18) = _ := hD 2 18 (by kernel_rfl)
    have e18 := (eval_tmp FA 18).symm.trans ev18
    replace ev18 := Lib.hid ev18
    clear hO hD
    go_simp
    exact hK.out _ _ (Ex.refl _) rfl
  apply Steps.one (MP.eq _) 5 rfl
  · intro o ho FA x hO hD K hK
    obtain rfl := Option.some.inj ho.symm
    clear ho
    have ev19 : FA.eval (.tmp 19) = _ := hD 3 19 (by kernel_rfl)
    have e19 := (eval_tmp FA 19).symm.trans ev19
    replace ev19 := Lib.hid ev19
    clear hO hD
    go_simp
    exact hK.out _ _ (Ex.refl _) rfl
  apply Steps.one (MP.eq _) 6 rfl
  · intro o ho FA x hO hD K hK
    obtain rfl := Option.some.inj ho.symm
    clear ho
    have e0 := hO 0 (by kernel_rfl)
    simp only [eval_tmp, List.getElem?_toArray, List.getElem?_cons_succ, List.getElem?_cons_zero, Option.getD_some] at e0
    have ev0 := Lib.hid ((eval_tmp FA 0).trans e0)
    clear hO hD
    go_simp
    exact hK.out _ _ (Ex.refl _) rfl
  apply Steps.one (MP.eq _) 7 rfl
  · intro o ho FA x hO hD K hK
    obtain rfl := Option.some.inj ho.symm
    clear ho
    have ev21 : FA.eval (.tmp 21) = _ := hD 5 21 (by kernel_rfl)
    have e21 := (eval_tmp FA 21).symm.trans ev21
    replace ev21 := Lib.hid ev21
    clear hO hD
    go_simp
    exact hK.out _ _ (Ex.refl _) rfl
  apply Steps.one (MP.eq _) 8 rfl
  · intro o ho FA x hO hD K hK
    obtain rfl := Option.some.inj ho.symm
    clear ho
    have ev22 : FA.eval (.tmp 22) = _ := hD 6 22 (by kernel_rfl)
    have e22 := (eval_tmp FA 22).symm.trans ev22
    replace ev22 := Lib.hid ev22
    clear hO hD
    go_simp
    exact hK.out _ _ (Ex.refl _) rfl
  apply Steps.one (MP.eq _) 9 rfl
  · intro o ho FA x hO hD K hK
    obtain rfl := Option.some.inj ho.symm
    clear ho
    have ev23 : FA.eval (.tmp 23) = _ := hD 7 23 (by kernel_rfl)
    have e23 := (eval_tmp FA 23).symm.trans ev23
    replace ev23 := Lib.hid ev23
    clear hO hD
    go_simp
    exact hK.out _ _ (Ex.refl _) rfl
  apply Steps.one (MP.eq _) 10 rfl
  · intro o ho FA x hO hD K hK
    obtain rfl := Option.some.inj ho.symm
    clear ho
    have ev20 : FA.eval (.tmp 20) = _ := hD 4 20 (by kernel_rfl)
    have e20 := (eval_tmp FA 20).symm.trans ev20
    replace ev20 := Lib.hid ev20
    have ev24 : FA.eval (.tmp 24) = _ := hD 8 24 (by kernel_rfl)
    have e24 := (eval_tmp FA 24).symm.trans ev24
    replace ev24 := Lib.hid ev24
    clear hO hD
    go_simp
    exact hK.out _ _ (Ex.refl _) rfl
  apply Steps.one (MP.eq _) 11 rfl
  · intro o ho FA x hO hD K hK
    obtain rfl := Option.some.inj ho.symm
    clear ho
    have e0 := hO 0 (by kernel_rfl)
    simp only [eval_tmp, List.getElem?_toArray, List.getElem?_cons_succ, List.getElem?_cons_zero, Option.getD_some] at e0
    have ev0 := Lib.hid ((eval_tmp FA 0).trans e0)
    clear hO hD
    go_simp
    exact hK.out _ _ (Ex.refl _) rfl
  apply Steps.one (MP.eq _) 12 rfl
  · intro o ho FA x hO hD K hK
    obtain rfl := Option.some.inj ho.symm
    clear ho
    have ev26 : FA.eval (.tmp 26) = _ := hD 10 26 (by kernel_rfl)
    have e26 := (eval_tmp FA 26).symm.trans ev26
    replace ev26 := Lib.hid ev26
    clear hO hD
    go_simp
    exact hK.out _ _ (Ex.refl _) rfl
  apply Steps.one (MP.eq _) 13 rfl
  · intro o ho FA x hO hD K hK
    obtain rfl := Option.some.inj ho.symm
    clear ho
    have ev27 : FA.eval (.tmp 27) = _ := hD 11 27 (by kernel_rfl)
    have e27 := (eval_tmp FA 27).symm.trans ev27
    replace ev27 := Lib.hid ev27
    clear hO hD
    go_simp
    exact hK.out _ _ (Ex.refl _) rfl
  apply Steps.one (MP.eq _) 14 rfl
  · intro o ho FA x hO hD K hK
    obtain rfl := Option.some.inj ho.symm
    clear ho
    have ev28 : FA.eval (.tmp 28) = _ := hD 12 28 (by kernel_rfl)
    have e28 := (eval_tmp FA 28).symm.trans ev28
    replace ev28 := Lib.hid ev28
    clear hO hD
    go_simp
    exact hK.out _ _ (Ex.refl _) rfl
  apply Steps.one (MP.eq _) 15 rfl
  · intro o ho FA x hO hD K hK
    obtain rfl := Option.some.inj ho.symm
    clear ho
    have ev29 : FA.eval (.tmp 29) = _ := hD 13 29 (by kernel_rfl)
    have e29 := (eval_tmp FA 29).symm.trans ev29
    replace ev29 := Lib.hid ev29
    clear hO hD
    go_simp
    exact hK.out _ _ (Ex.refl _) rfl
  apply Steps.one (MP.eq _) 16 rfl
  · intro o ho FA x hO hD K hK
    obtain rfl := Option.some.inj ho.symm
    clear ho
    have ev30 : FA.eval (.tmp 30) = _ := hD 14 30 (by kernel_rfl)
    have e30 := (eval_tmp FA 30).symm.trans ev30
    replace ev30 := Lib.hid ev30
    clear hO hD
    go_simp
    exact hK.out _ _ (Ex.refl _) rfl
  apply Steps.one (MP.eq _) 17 rfl
  · intro o ho FA x hO hD K hK
    obtain rfl := Option.some.inj ho.symm
    clear ho
    have e0 := hO 0 (by kernel_rfl)
    simp only [eval_tmp, List.getElem?_toArray, List.getElem?_cons_succ, List.getElem?_cons_zero, Option.getD_some] at e0
    have ev0 := Lib.hid ((eval_tmp FA 0).trans e0)
    clear hO hD
    go_simp
    exact hK.out _ _ (Ex.refl _) rfl
  apply Steps.one (MP.eq _) 18 rfl
  · intro o ho FA x hO hD K hK
    obtain rfl := Option.some.inj ho.symm
    clear ho
    have ev32 : FA.eval (.tmp 32) = _ := hD 16 32 (by kernel_rfl)
    have e32 := (eval_tmp FA 32).symm.trans ev32
    replace ev32 := Lib.hid ev32
    clear hO hD
    go_simp
    refine (refGetV _ n c l _ _ 2 2 lo _ ((h.later be).plus_ _ _) rfl rfl x2.out (by omega) (by omega) (by omega)).mono ?_
    rintro e w1 ⟨rfl, rfl⟩
    exact hK.out _ _ (Ex.refl _) rfl
  apply Steps.one (MP.eq _) 19 rfl
  · intro o ho FA x hO hD K hK
    obtain rfl := Option.some.inj ho.symm
    clear ho
    have ev33 : FA.eval (.tmp 33) = _ := hD 17 33 (by kernel_rfl)
    have e33 := (eval_tmp FA 33).symm.trans ev33
    replace ev33 := Lib.hid ev33
    clear hO hD
    go_simp
    exact hK.out _ _ (Ex.refl _) rfl
  apply Steps.one (MP.eq _) 20 rfl
  · intro o ho FA x hO hD K hK
    obtain rfl := Option.some.inj ho.symm
    clear ho
    have ev31 : FA.eval (.tmp 31) = _ := hD 15 31 (by kernel_rfl)
    have e31 := (eval_tmp FA 31).symm.trans ev31
    replace ev31 := Lib.hid ev31
    have ev34 : FA.eval (.tmp 34) = _ := hD 18 34 (by kernel_rfl)
    have e34 := (eval_tmp FA 34).symm.trans ev34
    replace ev34 := Lib.hid ev34
    clear hO hD
    go_simp
    exact hK.out _ _ (Ex.refl _) rfl
  apply Steps.one (MP.eq _) 21 rfl
  · intro o ho FA x hO hD K hK
    obtain rfl := Option.some.inj ho.symm
    clear ho
    have e0 := hO 0 (by kernel_rfl)
    simp only [eval_tmp, List.getElem?_toArray, List.getElem?_cons_succ, List.getElem?_cons_zero, Option.getD_some] at e0
    have ev0 := Lib.hid ((eval_tmp FA 0).trans e0)
    clear hO hD
    go_simp
    exact hK.out _ _ (Ex.refl _) rfl
  apply Steps.one (MP.eq _) 22 rfl
  · intro o ho FA x hO hD K hK
    obtain rfl := Option.some.inj ho.symm
    clear ho
    have ev36 : FA.eval (.tmp 36) = _ := hD 20 36 (by kernel_rfl)
    have e36 := (eval_tmp FA 36).symm.trans ev36
    replace ev36 := Lib.hid ev36
    clear hO hD
    go_simp
    refine (refGetV _ n c l _ _ 4 2 ln _ ((h.later be).plus_ _ _) rfl rfl x3.out (by omega) (by omega) (by omega)).mono ?_
    rintro e w1 ⟨rfl, rfl⟩
    exact hK.out _ _ (Ex.refl _) rfl
  apply Steps.one (MP.eq _) 23 rfl
  · intro o ho FA x hO hD K hK
    obtain rfl := Option.some.inj ho.symm
    clear ho
    have ev37 : FA.eval (.tmp 37) = _ := hD 21 37 (by kernel_rfl)
    have e37 := (eval_tmp FA 37).symm.trans ev37
    replace ev37 := Lib.hid ev37
    clear hO hD
    go_simp
    exact hK.out _ _ (Ex.refl _) rfl
  apply Steps.one (MP.eq _) 24 rfl
  · intro o ho FA x hO hD K hK
    obtain rfl := Option.some.inj ho.symm
    clear ho
    have e0 := hO 0 (by kernel_rfl)
    simp only [eval_tmp, List.getElem?_toArray, List.getElem?_cons_succ, List.getElem?_cons_zero, Option.getD_some] at e0
    have ev0 := Lib.hid ((eval_tmp FA 0).trans e0)
    clear hO hD
    go_simp
    exact hK.out _ _ (Ex.refl _) rfl
  apply Steps.one (MP.eq _) 25 rfl
  · intro o ho FA x hO hD K hK
    obtain rfl := Option.some.inj ho.symm
    clear ho
    have ev39 : FA.eval (.tmp 39) = _ := hD 23 39 (by kernel_rfl)
    have e39 := (eval_tmp FA 39).symm.trans ev39
    replace ev39 := Lib.hid ev39
    clear hO hD
    go_simp
    exact hK.out _ _ (Ex.refl _) rfl
  apply Steps.one (MP.eq _) 26 rfl
  · intro o ho FA x hO hD K hK
    obtain rfl := Option.some.inj ho.symm
    clear ho
    have ev40 : FA.eval (.tmp 40) = _ := hD 24 40 (by kernel_rfl)
    have e40 := (eval_tmp FA 40).symm.trans ev40
    replace ev40 := Lib.hid ev40
    clear hO hD
    go_simp
    exact hK.out _ _ (Ex.refl _) rfl
  apply Steps.one (MP.eq _) 27 rfl
  · intro o ho FA x hO hD K hK
    obtain rfl := Option.some.inj ho.symm
    clear ho
    have e0 := hO 0 (by kernel_rfl)
    simp only [eval_tmp, List.getElem?_toArray, List.getElem?_cons_succ, List.getElem?_cons_zero, Option.getD_some] at e0
    have ev0 := Lib.hid ((eval_tmp FA 0).trans e0)
    clear hO hD
    go_simp
    exact hK.out _ _ (Ex.refl _) rfl
  apply Steps.one (MP.eq _) 28 rfl
  · intro o ho FA x hO hD K hK
    obtain rfl := Option.some.inj ho.symm
    clear ho
    have ev42 : FA.eval (.tmp 42) = _ := hD 26 42 (by kernel_rfl)
    have e42 := (eval_tmp FA 42).symm.trans ev42
    replace ev42 := Lib.hid ev42
    clear hO hD
    go_simp
    exact hK.out _ _ (Ex.refl _) rfl
  apply Steps.one (MP.eq _) 29 rfl
  · intro o ho FA x hO hD K hK
    obtain rfl := Option.some.inj ho.symm
    clear ho
    have ev43 : FA.eval (.tmp 43) = _ := hD 27 43 (by kernel_rfl)
    have e43 := (eval_tmp FA 43).symm.trans ev43
    replace ev43 := Lib.hid ev43
    clear hO hD
    go_simp
    exact hK.out _ _ (Ex.refl _) rfl
  apply Steps.one (MP.eq _) 30 rfl
  · intro o ho FA x hO hD K hK
    obtain rfl := Option.some.inj ho.symm
    clear ho
    have ev25 : FA.eval (.tmp 25) = _ := hD 9 25 (by kernel_rfl)
    have e25 := (eval_tmp FA 25).symm.trans ev25
    replace ev25 := Lib.hid ev25
    have ev35 : FA.eval (.tmp 35) = _ := hD 19 35 (by kernel_rfl)
    have e35 := (eval_tmp FA 35).symm.trans ev35
    replace ev35 := Lib.hid ev35
    have ev38 : FA.eval (.tmp 38) = _ := hD 22 38 (by kernel_rfl)
    have e38 := (eval_tmp FA 38).symm.trans ev38
    replace ev38 := Lib.hid ev38
    have ev41 : FA.eval (.tmp 41) = _ := hD 25 41 (by kernel_rfl)
    have e41 := (eval_tmp FA 41).symm.trans ev41
    replace ev41 := Lib.hid ev41
    have ev44 : FA.eval (.tmp 44) = _ := hD 28 44 (by kernel_rfl)
    have e44 := (eval_tmp FA 44).symm.trans ev44
    replace ev44 := Lib.hid ev44
    clear hO hD
    go_simp
    exact hK.out _ _ (Ex.refl _) rfl
  apply Steps.one (MP.blk V.heap.size 180 (h6C 0 0 0 0 0 false 0 0 false 0 0)) 31 rfl
  · intro o ho FA x hO hD K hK
    obtain rfl := Option.some.inj ho.symm
    clear ho
    clear hO hD
    go_simp
    refine hK.out _ _ (Ex.alloc _ _) ⟨_, rfl, ?_, ?_⟩
    · simp [size_plus]
    · refine Bk.newK _ _ _ ?_ rfl
      simp [size_plus]
  refine Steps.fin_ (fun vs x hp => ?_)
  have p0 : vs 0 = _ := hp 0 (by omega)
  have p1 : vs 1 = _ := hp 1 (by omega)
  have p2 : vs 2 = _ := hp 2 (by omega)
  have p3 : vs 3 = _ := hp 3 (by omega)
  have p4 : vs 4 = _ := hp 4 (by omega)
  have p5 : vs 5 = _ := hp 5 (by omega)
  have p6 : vs 6 = _ := hp 6 (by omega)
  have p7 : vs 7 = _ := hp 7 (by omega)
  have p8 : vs 8 = _ := hp 8 (by omega)
  have p9 : vs 9 = _ := hp 9 (by omega)
  have p10 : vs 10 = _ := hp 10 (by omega)
  have p11 : vs 11 = _ := hp 11 (by omega)
  have p12 : vs 12 = _ := hp 12 (by omega)
  have p13 : vs 13 = _ := hp 13 (by omega)
  have p14 : vs 14 = _ := hp 14 (by omega)
  have p15 : vs 15 = _ := hp 15 (by omega)
  have p16 : vs 16 = _ := hp 16 (by omega)
  have p17 : vs 17 = _ := hp 17 (by omega)
  have p18 : vs 18 = _ := hp 18 (by omega)
  have p19 : vs 19 = _ := hp 19 (by omega)
  have p20 : vs 20 = _ := hp 20 (by omega)
  have p21 : vs 21 = _ := hp 21 (by omega)
  have p22 : vs 22 = _ := hp 22 (by omega)
  have p23 : vs 23 = _ := hp 23 (by omega)
  have p24 : vs 24 = _ := hp 24 (by omega)
  have p25 : vs 25 = _ := hp 25 (by omega)
  have p26 : vs 26 = _ := hp 26 (by omega)
  have p27 : vs 27 = _ := hp 27 (by omega)
  have p28 : vs 28 = _ := hp 28 (by omega)
  have p29 : vs 29 = _ := hp 29 (by omega)
  have p30 := hp 30 (by omega)
  clear hp
  simp only [List.take_succ_cons, List.take_zero, List.drop_succ_cons, List.drop_zero, putAll, Nat.zero_add, Nat.reduceAdd, Act.put, List.setIfInBounds_toArray, List.set_cons_zero, List.set_cons_succ, p0, p1, p2, p3, p4, p5, p6, p7, p8, p9, p10, p11, p12, p13, p14, p15, p16, p17, p18, p19, p20, p21, p22, p23, p24, p25, p26, p27, p28, p29]
  clear p0 p1 p2 p3 p4 p5 p6 p7 p8 p9 p10 p11 p12 p13 p14 p15 p16 p17 p18 p19 p20 p21 p22 p23 p24 p25 p26 p27 p28 p29
  generalize vs 30 = y30 at *
  clear vs
  obtain ⟨g, rfl, hgw, hb⟩ := p30
  have hgz : w.heap.size < g := by have := b2.lt; omega
  go_upto_region 6 with (refine at_op (.store 180 (.tmp 5) (.tmp 45)) rfl ?_; refine wpList_stA (t := 180) 180 (.tmp 5) (.tmp 45) rfl rfl (h6C cl lb (ln : Int) nx ht false 0 0 false 0 0) (h6C 0 0 0 0 0 false 0 0 false 0 0) rfl (h6C_one _ _ _ _ _ _ _ _ _ _ _) rfl rfl hb (szR6 _ _ _ _ _ _ _ _ _ _ _) ?_; intro V1 hX hg3)
  replace b2 := (b2.later (below_plus _ x.bs x.d)).grown hg3 (by have := b2.lt; simp; omega)
  replace be := below_grown (belowP be x.bs x.d) hg3 (by omega)
  clear hg3 hb y0' y1' y4' y5' zb zV
  have hs8 : Rb V1 (cutA (some ⟨b, off, none⟩) c 8 1) 16 (c - 8) (dig sh 8 ++ dig sl 8) := by
    have := ((h.later be).cut (k := 8) (by omega)).take (k := 16) (by omega)
    rwa [z0.out] at this
  have j2 : (24 : Int) ≤ (c : Int) := by omega
  have zx := hX.lt
  go_upto_region 7 with (first
    | (go_at_call 55; (with_reducible refine (refOf16 sh sl _ _ _ k1 k2 hs8).mono ?_); rintro e w1 ⟨bs5, d5, rfl, rfl⟩)
    | (replace hX := hX.later (below_plus _ bs5 d5); (refine at_op (.store 26 (.tmp 52) (.tmp 50)) rfl ?_; refine wpList_stM (t := 180) 26 (.tmp 52) (.tmp 50) rfl rfl (adC true sh sl) _ (by simp [adC, h6C]) (adC_one _ _ _) rfl rfl hX (szAd _ _ _) ?_; intro V2 hX2 hg)))
  simp only [splice, adC, h6C, List.take_succ_cons, List.take_zero, List.drop_succ_cons, List.drop_zero, List.length_cons, List.length_nil, Nat.zero_add, Nat.reduceAdd, List.cons_append, List.nil_append] at hX2
  replace b2 := (b2.later (below_plus _ bs5 d5)).grown hg (by have := b2.lt; simp; omega)
  replace be := below_grown (belowP be bs5 d5) hg (by omega)
  clear hX hg zx hs8 j2
  have hX := hX2
  clear hX2
  have hs8 : Rb V2 (cutA (some ⟨b, off, none⟩) c 24 1) 16 (c - 24) (dig dh 8 ++ dig dl 8) := by
    have := ((h.later be).cut (k := 24) (by omega)).take (k := 16) (by omega)
    rwa [z1.out] at this
  have j2 : (40 : Int) ≤ (c : Int) := by omega
  have zx := hX.lt
  go_upto_region 8 with (first
    | (go_at_call 55; (with_reducible refine (refOf16 dh dl _ _ _ k3 k4 hs8).mono ?_); rintro e w1 ⟨bs5, d5, rfl, rfl⟩)
    | (replace hX := hX.later (below_plus _ bs5 d5); (refine at_op (.store 26 (.tmp 59) (.tmp 57)) rfl ?_; refine wpList_stM (t := 180) 26 (.tmp 59) (.tmp 57) rfl rfl (adC true dh dl) _ (by simp [adC, h6C]) (adC_one _ _ _) rfl rfl hX (szAd _ _ _) ?_; intro V3 hX2 hg)))
  simp only [splice, adC, h6C, List.take_succ_cons, List.take_zero, List.drop_succ_cons, List.drop_zero, List.length_cons, List.length_nil, Nat.zero_add, Nat.reduceAdd, List.cons_append, List.nil_append] at hX2
  replace b2 := (b2.later (below_plus _ bs5 d5)).grown hg (by have := b2.lt; simp; omega)
  replace be := below_grown (belowP be bs5 d5) hg (by omega)
  clear hX hg zx hs8 j2
  have hX := hX2
  clear hX2
  replace hX : Bk V3 g 180 (h6C cl lb (ln : Int) nx ht true sh sl true dh dl) := hX
  have yl : V3.cell? ⟨g, 2, none⟩ = some (.int .i64 (ln : Int)) := hX.cell 2
  have zx := hX.lt
  have w9 : IntKind.i64.wrap ((n : Int) - 40) = (n : Int) - 40 := IntWalk.i64_in _ (by omega)
  go_wp2_with (refine at_op (.store 180 (.tmp 2) (.tmp 66)) rfl ?_; refine wpList_stA (t := 180) 180 (.tmp 2) (.tmp 66) rfl rfl (h6C 0 0 0 0 0 false 0 0 false 0 0) (h6C 0 0 0 0 0 false 0 0 false 0 0) rfl (h6C_one _ _ _ _ _ _ _ _ _ _ _) rfl rfl b2 (szR6 _ _ _ _ _ _ _ _ _ _ _) ?_; intro W9 h9 g9)
  refine bodyPost_agg3 Try.results76 rfl rfl rfl h9.range r1 r2 (szR6 _ _ _ _ _ _ _ _ _ _ _) rfl (RetV.mk ?_)
  exact below_grown be g9 (by omega)
set_option maxHeartbeats 4000000 in
set_option maxRecDepth 100000 in
theorem refP6_ok (A : Option Addr) (n c : Nat) (l : List UInt8) (w : World) (h : Rb w A n c l) (hm : n ≤ 1000000) (b0 b1 lo cl lb ln nx ht sh sl dh dl : Nat) (x0 : num ((l.drop 0).take 1) = b0) (x1 : num ((l.drop 1).take 1) = b1) (x2 : num ((l.drop 2).take 2) = lo) (x3 : num ((l.drop 4).take 2) = ln) (x4 : num ((l.drop 6).take 1) = nx) (x5 : num ((l.drop 7).take 1) = ht) (z0 : (l.drop 8).take 16 = dig sh 8 ++ dig sl 8) (z1 : (l.drop 24).take 16 = dig dh 8 ++ dig dl 8) (k1 : sh < 18446744073709551616) (k2 : sl < 18446744073709551616) (k3 : dh < 18446744073709551616) (k4 : dl < 18446744073709551616) (g0 : b0 / 16 = 6) (g1 : b0 % 16 * 16 + b1 / 16 = cl) (g2 : b1 % 16 * 65536 + lo = lb) (hn : 40 ≤ n) (hq : ln ≤ n - 40) : Calls Try.prog 76 #[.slice A n c] w (RetP6 w cl lb ln nx ht true sh sl dh dl ((l.drop 40).take ln) 0) := by
  obtain ⟨dr, r1, r2⟩ := rowR6
  have hc := h.2.1
  have d40 : decide ((n : Int) < 40) = false := by simp only [decide_eq_false_iff_not]; omega
  have hdl : decide ((n : Int) - 40 < (ln : Int)) = false := by simp only [decide_eq_false_iff_not]; omega
  have hr0 : Rb w (cutA A c 40 1) ln (c - 40) ((l.drop 40).take ln) := (h.cut (k := 40) (by omega)).take (by omega)
  generalize (l.drop 40).take ln = load at *
  obtain ⟨z, hz⟩ : ∃ z : Nat, z = 40 + ln := ⟨_, rfl⟩
  have e0 : (b0 : Int) / 16 = 6 := by omega
  have e0n : ((b0 : Int) / 16 != 6) = false := by rw [e0]; rfl
  have hb0 : b0 < 256 := by rw [← x0]; exact num_lt' l 0 1 256 (by decide)
  have hb1 : b1 < 256 := by rw [← x1]; exact num_lt' l 1 1 256 (by decide)
  have hlo : lo < 65536 := by rw [← x2]; exact num_lt' l 2 2 65536 (by decide)
  have hln : ln < 65536 := by rw [← x3]; exact num_lt' l 4 2 65536 (by decide)
  obtain ⟨m0, hm0⟩ : ∃ m : Nat, m = b0 % 16 := ⟨_, rfl⟩
  obtain ⟨m1, hm1⟩ : ∃ m : Nat, m = b1 % 16 := ⟨_, rfl⟩
  obtain ⟨m2, hm2⟩ : ∃ m : Nat, m = b1 / 16 := ⟨_, rfl⟩
  have v0 : (b0 : Int) % 16 = (m0 : Int) := by omega
  have v1 : (b1 : Int) % 16 = (m1 : Int) := by omega
  have v0t : (b0 : Int).tmod 16 = (m0 : Int) := by rw [Int.tmod_eq_emod_of_nonneg (by omega)]; omega
  have v1t : (b1 : Int).tmod 16 = (m1 : Int) := by rw [Int.tmod_eq_emod_of_nonneg (by omega)]; omega
  have v2 : (b1 : Int) / 16 = (m2 : Int) := by omega
  have v3 : ((m0 : Int) * 16 + (m2 : Int)) % 256 = (cl : Int) := by omega
  have v3w : IntKind.u8.wrap ((m0 : Int) * 16 + (m2 : Int)) = (cl : Int) := by rw [IntWalk.u8_in _ (by omega)]; omega
  have v3a : IntKind.u8.wrap ((m0 : Int) * 16) = (m0 : Int) * 16 := IntWalk.u8_in _ (by omega)
  have v2w : IntKind.u8.wrap (m2 : Int) = (m2 : Int) := IntWalk.u8_in _ (by omega)
  have v4 : IntKind.u32.wrap (m1 : Int) = (m1 : Int) := IntWalk.u32_in _ (by omega)
  have v5 : IntKind.u32.wrap ((m1 : Int) * 65536) = (m1 : Int) * 65536 := IntWalk.u32_in _ (by omega)
  have v6 : IntKind.u32.wrap (lo : Int) = (lo : Int) := IntWalk.u32_in _ (by omega)
  have v7 : IntKind.u32.wrap ((m1 : Int) * 65536 + (lo : Int)) = (lb : Int) := by rw [IntWalk.u32_in _ (by omega)]; omega
  have v8 : IntKind.i64.wrap (ln : Int) = (ln : Int) := IntWalk.i64_in _ (by omega)
  have hcl : cl < 256 := by omega
  obtain ⟨b, off, rfl, hbl, hcell⟩ := h.2.2.at_ (by rw [bcs_length, h.1]; omega)
  have y0 := num_cell hcell 0 (by rw [h.1]; omega)
  rw [x0] at y0
  have y1 := num_cell hcell 1 (by rw [h.1]; omega)
  rw [x1] at y1
  have y4 := num_cell hcell 6 (by rw [h.1]; omega)
  rw [x4] at y4
  have y5 := num_cell hcell 7 (by rw [h.1]; omega)
  rw [x5] at y5
  rw [Nat.add_zero] at y0
  have n0 : 0 < n := by omega
  have n1 : 1 < n := by omega
  have n6 : 6 < n := by omega
  have n7 : 7 < n := by omega
  have i0 : (0 : Int) < (n : Int) := by omega
  have i1 : (1 : Int) < (n : Int) := by omega
  have i6 : (6 : Int) < (n : Int) := by omega
  have i7 : (7 : Int) < (n : Int) := by omega
  clear hcell
  clear x0 x1 x4 x5 g0 g1 g2 hm0 hm1 hm2
  replace x2 := Lib.hid x2
  replace x3 := Lib.hid x3
  replace z0 := Lib.hid z0
  replace z1 := Lib.hid z1
  have b2 : Bk (w.alloc (.cells #[.int .u8 0, .int .u32 0, .int .i64 0, .int .u8 0, .int .u8 0, .bool false, .int .u64 0, .int .u64 0, .bool false, .int .u64 0, .int .u64 0] 180)) w.heap.size 180 (h6C 0 0 0 0 0 false 0 0 false 0 0) := Bk.new w 180 #[.int .u8 0, .int .u32 0, .int .i64 0, .int .u8 0, .int .u8 0, .bool false, .int .u64 0, .int .u64 0, .bool false, .int .u64 0, .int .u64 0]
  have be : Below w.heap.size w (w.alloc (.cells #[.int .u8 0, .int .u32 0, .int .i64 0, .int .u8 0, .int .u8 0, .bool false, .int .u64 0, .int .u64 0, .bool false, .int .u64 0, .int .u64 0] 180)) := Below.allocS (Below.refl _ _) _
  go_enter Try.func76, Try.ntmps76
  go_upto_region 5 with (fail)
  have y0' : (w.alloc (.cells #[.int .u8 0, .int .u32 0, .int .i64 0, .int .u8 0, .int .u8 0, .bool false, .int .u64 0, .int .u64 0, .bool false, .int .u64 0, .int .u64 0] 180)).cell? ⟨b, off, none⟩ = _ := (be.cell (p := ⟨b, off, none⟩) hbl).trans y0
  have y1' : (w.alloc (.cells #[.int .u8 0, .int .u32 0, .int .i64 0, .int .u8 0, .int .u8 0, .bool false, .int .u64 0, .int .u64 0, .bool false, .int .u64 0, .int .u64 0] 180)).cell? ⟨b, off + 1, none⟩ = _ := (be.cell (p := ⟨b, off + 1, none⟩) hbl).trans y1
  have y4' : (w.alloc (.cells #[.int .u8 0, .int .u32 0, .int .i64 0, .int .u8 0, .int .u8 0, .bool false, .int .u64 0, .int .u64 0, .bool false, .int .u64 0, .int .u64 0] 180)).cell? ⟨b, off + 6, none⟩ = _ := (be.cell (p := ⟨b, off + 6, none⟩) hbl).trans y4
  have y5' : (w.alloc (.cells #[.int .u8 0, .int .u32 0, .int .i64 0, .int .u8 0, .int .u8 0, .bool false, .int .u64 0, .int .u64 0, .bool false, .int .u64 0, .int .u64 0] 180)).cell? ⟨b, off + 7, none⟩ = _ := (be.cell (p := ⟨b, off + 7, none⟩) hbl).trans y5
  generalize w.alloc (.cells #[.int .u8 0, .int .u32 0, .int .i64 0, .int .u8 0, .int .u8 0, .bool false, .int .u64 0, .int .u64 0, .bool false, .int .u64 0, .int .u64 0] 180) = V at *
  have zV := be.size
  have zb : b < V.heap.size := by omega
  go_wp2
  refine wp_relS 31 75 rfl (by kernel_rfl) (by kernel_rfl) ?_
  apply Steps.one (MP.eq _) 1 rfl
  · intro o ho FA x hO hD K hK
    obtain rfl := Option.some.inj ho.symm
    clear ho
    have e0 := hO 0 (by kernel_rfl)
    simp only [eval_tmp, List.getElem?_toArray, List.getElem?_cons_succ, List.getElem?_cons_zero, Option.getD_some] at e0
    have ev0 := Lib.hid ((eval_tmp FA 0).trans e0)
    clear hO hD
    go_simp
    exact hK.out _ _ (Ex.refl _) rfl
  apply Steps.one (MP.eq _) 2 rfl
  · intro o ho FA x hO hD K hK
    obtain rfl := Option.some.inj ho.symm
    clear ho
    have ev16 : FA.eval (.tmp 16) = _ := hD 0 16 (by kernel_rfl)
    have e16 := (eval_tmp FA 16).symm.trans ev16
    replace ev16 := Lib.hid ev16
    clear hO hD
    go_simp
    exact hK.out _ _ (Ex.refl _) rfl
  apply Steps.one (MP.eq _) 3 rfl
  · intro o ho FA x hO hD K hK
    obtain rfl := Option.some.inj ho.symm
    clear ho
    have ev17 : FA.eval (.tmp 17) = _ := hD 1 17 (by kernel_rfl)
    have e17 := (eval_tmp FA 17).symm.trans ev17
    replace ev17 := Lib.hid ev17
    clear hO hD
    go_simp
    exact hK.out _ _ (Ex.refl _) rfl
  apply Steps.one (MP.eq _) 4 rfl
  · intro o ho FA x hO hD K hK
    obtain rfl := Option.some.inj ho.symm
    clear ho
    have ev18 : FA.eval (.tmp 18) = _ := hD 2 18 (by kernel_rfl)
    have e18 := (eval_tmp FA 18).symm.trans ev18
    replace ev18 := Lib.hid ev18
    clear hO hD
    go_simp
    exact hK.out _ _ (Ex.refl _) rfl
  apply Steps.one (MP.eq _) 5 rfl
  · intro o ho FA x hO hD K hK
    obtain rfl := Option.some.inj ho.symm
    clear ho
    have ev19 : FA.eval (.tmp 19) = _ := hD 3 19 (by kernel_rfl)
    have e19 := (eval_tmp FA 19).symm.trans ev19
    replace ev19 := Lib.hid ev19
    clear hO hD
    go_simp
    exact hK.out _ _ (Ex.refl _) rfl
  apply Steps.one (MP.eq _) 6 rfl
  · intro o ho FA x hO hD K hK
    obtain rfl := Option.some.inj ho.symm
    clear ho
    have e0 := hO 0 (by kernel_rfl)
    simp only [eval_tmp, List.getElem?_toArray, List.getElem?_cons_succ, List.getElem?_cons_zero, Option.getD_some] at e0
    have ev0 := Lib.hid ((eval_tmp FA 0).trans e0)
    clear hO hD
    go_simp
    exact hK.out _ _ (Ex.refl _) rfl
  apply Steps.one (MP.eq _) 7 rfl
  · intro o ho FA x hO hD K hK
    obtain rfl := Option.some.inj ho.symm
    clear ho
    have ev21 : FA.eval (.tmp 21) = _ := hD 5 21 (by kernel_rfl)
    have e21 := (eval_tmp FA 21).symm.trans ev21
    replace ev21 := Lib.hid ev21
    clear hO hD
    go_simp
    exact hK.out _ _ (Ex.refl _) rfl
  apply Steps.one (MP.eq _) 8 rfl
  · intro o ho FA x hO hD K hK
    obtain rfl := Option.some.inj ho.symm
    clear ho
    have ev22 : FA.eval (.tmp 22) = _ := hD 6 22 (by kernel_rfl)
    have e22 := (eval_tmp FA 22).symm.trans ev22
    replace ev22 := Lib.hid ev22
    clear hO hD
    go_simp
    exact hK.out _ _ (Ex.refl _) rfl
  apply Steps.one (MP.eq _) 9 rfl
  · intro o ho FA x hO hD K hK
    obtain rfl := Option.some.inj ho.symm
    clear ho
    have ev23 : FA.eval (.tmp 23) = _ := hD 7 23 (by kernel_rfl)
    have e23 := (eval_tmp FA 23).symm.trans ev23
    replace ev23 := Lib.hid ev23
    clear hO hD
    go_simp
    exact hK.out _ _ (Ex.refl _) rfl
  apply Steps.one (MP.eq _) 10 rfl
  · intro o ho FA x hO hD K hK
    obtain rfl := Option.some.inj ho.symm
    clear ho
    have ev20 : FA.eval (.tmp 20) = _ := hD 4 20 (by kernel_rfl)
    have e20 := (eval_tmp FA 20).symm.trans ev20
    replace ev20 := Lib.hid ev20
    have ev24 : FA.eval (.tmp 24) = _ := hD 8 24 (by kernel_rfl)
    have e24 := (eval_tmp FA 24).symm.trans ev24
    replace ev24 := Lib.hid ev24
    clear hO hD
    go_simp
    exact hK.out _ _ (Ex.refl _) rfl
  apply Steps.one (MP.eq _) 11 rfl
  · intro o ho FA x hO hD K hK
    obtain rfl := Option.some.inj ho.symm
    clear ho
    have e0 := hO 0 (by kernel_rfl)
    simp only [eval_tmp, List.getElem?_toArray, List.getElem?_cons_succ, List.getElem?_cons_zero, Option.getD_some] at e0
    have ev0 := Lib.hid ((eval_tmp FA 0).trans e0)
    clear hO hD
    go_simp
    exact hK.out _ _ (Ex.refl _) rfl
  apply Steps.one (MP.eq _) 12 rfl
  · intro o ho FA x hO hD K hK
    obtain rfl := Option.some.inj ho.symm
    clear ho
    have ev26 : FA.eval (.tmp 26) = _ := hD 10 26 (by kernel_rfl)
    have e26 := (eval_tmp FA 26).symm.trans ev26
    replace ev26 := Lib.hid ev26
    clear hO hD
    go_simp
    exact hK.out _ _ (Ex.refl _) rfl
  apply Steps.one (MP.eq _) 13 rfl
  · intro o ho FA x hO hD K hK
    obtain rfl := Option.some.inj ho.symm
    clear ho
    have ev27 : FA.eval (.tmp 27) = _ := hD 11 27 (by kernel_rfl)
    have e27 := (eval_tmp FA 27).symm.trans ev27
    replace ev27 := Lib.hid ev27
    clear hO hD
    go_simp
    exact hK.out _ _ (Ex.refl _) rfl
  apply Steps.one (MP.eq _) 14 rfl
  · intro o ho FA x hO hD K hK
    obtain rfl := Option.some.inj ho.symm
    clear ho
    have ev28 : FA.eval (.tmp 28) = _ := hD 12 28 (by kernel_rfl)
    have e28 := (eval_tmp FA 28).symm.trans ev28
    replace ev28 := Lib.hid ev28
    clear hO hD
    go_simp
    exact hK.out _ _ (Ex.refl _) rfl
  apply Steps.one (MP.eq _) 15 rfl
  · intro o ho FA x hO hD K hK
    obtain rfl := Option.some.inj ho.symm
    clear ho
    have ev29 : FA.eval (.tmp 29) = _ := hD 13 29 (by kernel_rfl)
    have e29 := (eval_tmp FA 29).symm.trans ev29
    replace ev29 := Lib.hid ev29
    clear hO hD
    go_simp
    exact hK.out _ _ (Ex.refl _) rfl
  apply Steps.one (MP.eq _) 16 rfl
  · intro o ho FA x hO hD K hK
    obtain rfl := Option.some.inj ho.symm
    clear ho
    have ev30 : FA.eval (.tmp 30) = _ := hD 14 30 (by kernel_rfl)
    have e30 := (eval_tmp FA 30).symm.trans ev30
    replace ev30 := Lib.hid ev30
    clear hO hD
    go_simp
    exact hK.out _ _ (Ex.refl _) rfl
  apply Steps.one (MP.eq _) 17 rfl
  · intro o ho FA x hO hD K hK
    obtain rfl := Option.some.inj ho.symm
    clear ho
    have e0 := hO 0 (by kernel_rfl)
    simp only [eval_tmp, List.getElem?_toArray, List.getElem?_cons_succ, List.getElem?_cons_zero, Option.getD_some] at e0
    have ev0 := Lib.hid ((eval_tmp FA 0).trans e0)
    clear hO hD
    go_simp
    exact hK.out _ _ (Ex.refl _) rfl
  apply Steps.one (MP.eq _) 18 rfl
  · intro o ho FA x hO hD K hK
    obtain rfl := Option.some.inj ho.symm
    clear ho
    have ev32 : FA.eval (.tmp 32) = _ := hD 16 32 (by kernel_rfl)
    have e32 := (eval_tmp FA 32).symm.trans ev32
    replace ev32 := Lib.hid ev32
    clear hO hD
    go_simp
    refine (refGetV _ n c l _ _ 2 2 lo _ ((h.later be).plus_ _ _) rfl rfl x2.out (by omega) (by omega) (by omega)).mono ?_
    rintro e w1 ⟨rfl, rfl⟩
    exact hK.out _ _ (Ex.refl _) rfl
  apply Steps.one (MP.eq _) 19 rfl
  · intro o ho FA x hO hD K hK
    obtain rfl := Option.some.inj ho.symm
    clear ho
    have ev33 : FA.eval (.tmp 33) = _ := hD 17 33 (by kernel_rfl)
    have e33 := (eval_tmp FA 33).symm.trans ev33
    replace ev33 := Lib.hid ev33
    clear hO hD
    go_simp
    exact hK.out _ _ (Ex.refl _) rfl
  apply Steps.one (MP.eq _) 20 rfl
  · intro o ho FA x hO hD K hK
    obtain rfl := Option.some.inj ho.symm
    clear ho
    have ev31 : FA.eval (.tmp 31) = _ := hD 15 31 (by kernel_rfl)
    have e31 := (eval_tmp FA 31).symm.trans ev31
    replace ev31 := Lib.hid ev31
    have ev34 : FA.eval (.tmp 34) = _ := hD 18 34 (by kernel_rfl)
    have e34 := (eval_tmp FA 34).symm.trans ev34
    replace ev34 := Lib.hid ev34
    clear hO hD
    go_simp
    exact hK.out _ _ (Ex.refl _) rfl
  apply Steps.one (MP.eq _) 21 rfl
  · intro o ho FA x hO hD K hK
    obtain rfl := Option.some.inj ho.symm
    clear ho
    have e0 := hO 0 (by kernel_rfl)
    simp only [eval_tmp, List.getElem?_toArray, List.getElem?_cons_succ, List.getElem?_cons_zero, Option.getD_some] at e0
    have ev0 := Lib.hid ((eval_tmp FA 0).trans e0)
    clear hO hD
    go_simp
    exact hK.out _ _ (Ex.refl _) rfl
  apply Steps.one (MP.eq _) 22 rfl
  · intro o ho FA x hO hD K hK
    obtain rfl := Option.some.inj ho.symm
    clear ho
    have ev36 : FA.eval (.tmp 36) = _ := hD 20 36 (by kernel_rfl)
    have e36 := (eval_tmp FA 36).symm.trans ev36
    replace ev36 := Lib.hid ev36
    clear hO hD
    go_simp
    refine (refGetV _ n c l _ _ 4 2 ln _ ((h.later be).plus_ _ _) rfl rfl x3.out (by omega) (by omega) (by omega)).mono ?_
    rintro e w1 ⟨rfl, rfl⟩
    exact hK.out _ _ (Ex.refl _) rfl
  apply Steps.one (MP.eq _) 23 rfl
  · intro o ho FA x hO hD K hK
    obtain rfl := Option.some.inj ho.symm
    clear ho
    have ev37 : FA.eval (.tmp 37) = _ := hD 21 37 (by kernel_rfl)
    have e37 := (eval_tmp FA 37).symm.trans ev37
    replace ev37 := Lib.hid ev37
    clear hO hD
    go_simp
    exact hK.out _ _ (Ex.refl _) rfl
  apply Steps.one (MP.eq _) 24 rfl
  · intro o ho FA x hO hD K hK
    obtain rfl := Option.some.inj ho.symm
    clear ho
    have e0 := hO 0 (by kernel_rfl)
    simp only [eval_tmp, List.getElem?_toArray, List.getElem?_cons_succ, List.getElem?_cons_zero, Option.getD_some] at e0
    have ev0 := Lib.hid ((eval_tmp FA 0).trans e0)
    clear hO hD
    go_simp
    exact hK.out _ _ (Ex.refl _) rfl
  apply Steps.one (MP.eq _) 25 rfl
  · intro o ho FA x hO hD K hK
    obtain rfl := Option.some.inj ho.symm
    clear ho
    have ev39 : FA.eval (.tmp 39) = _ := hD 23 39 (by kernel_rfl)
    have e39 := (eval_tmp FA 39).symm.trans ev39
    replace ev39 := Lib.hid ev39
    clear hO hD
    go_simp
    exact hK.out _ _ (Ex.refl _) rfl
  apply Steps.one (MP.eq _) 26 rfl
  · intro o ho FA x hO hD K hK
    obtain rfl := Option.some.inj ho.symm
    clear ho
    have ev40 : FA.eval (.tmp 40) = _ := hD 24 40 (by kernel_rfl)
    have e40 := (eval_tmp FA 40).symm.trans ev40
    replace ev40 := Lib.hid ev40
    clear hO hD
    go_simp
    exact hK.out _ _ (Ex.refl _) rfl
  apply Steps.one (MP.eq _) 27 rfl
  · intro o ho FA x hO hD K hK
    obtain rfl := Option.some.inj ho.symm
    clear ho
    have e0 := hO 0 (by kernel_rfl)
    simp only [eval_tmp, List.getElem?_toArray, List.getElem?_cons_succ, List.getElem?_cons_zero, Option.getD_some] at e0
    have ev0 := Lib.hid ((eval_tmp FA 0).trans e0)
    clear hO hD
    go_simp
    exact hK.out _ _ (Ex.refl _) rfl
  apply Steps.one (MP.eq _) 28 rfl
  · intro o ho FA x hO hD K hK
    obtain rfl := Option.some.inj ho.symm
    clear ho
    have ev42 : FA.eval (.tmp 42) = _ := hD 26 42 (by kernel_rfl)
    have e42 := (eval_tmp FA 42).symm.trans ev42
    replace ev42 := Lib.hid ev42
    clear hO hD
    go_simp
    exact hK.out _ _ (Ex.refl _) rfl
  apply Steps.one (MP.eq _) 29 rfl
  · intro o ho FA x hO hD K hK
    obtain rfl := Option.some.inj ho.symm
    clear ho
    have ev43 : FA.eval (.tmp 43) = _ := hD 27 43 (by kernel_rfl)
    have e43 := (eval_tmp FA 43).symm.trans ev43
    replace ev43 := Lib.hid ev43
    clear hO hD
    go_simp
    exact hK.out _ _ (Ex.refl _) rfl
  apply Steps.one (MP.eq _) 30 rfl
  · intro o ho FA x hO hD K hK
    obtain rfl := Option.some.inj ho.symm
    clear ho
    have ev25 : FA.eval (.tmp 25) = _ := hD 9 25 (by kernel_rfl)
    have e25 := (eval_tmp FA 25).symm.trans ev25
    replace ev25 := Lib.hid ev25
    have ev35 : FA.eval (.tmp 35) = _ := hD 19 35 (by kernel_rfl)
    have e35 := (eval_tmp FA 35).symm.trans ev35
    replace ev35 := Lib.hid ev35
    have ev38 : FA.eval (.tmp 38) = _ := hD 22 38 (by kernel_rfl)
    have e38 := (eval_tmp FA 38).symm.trans ev38
    replace ev38 := Lib.hid ev38
    have ev41 : FA.eval (.tmp 41) = _ := hD 25 41 (by kernel_rfl)
    have e41 := (eval_tmp FA 41).symm.trans ev41
    replace ev41 := Lib.hid ev41
    have ev44 : FA.eval (.tmp 44) = _ := hD 28 44 (by kernel_rfl)
    have e44 := (eval_tmp FA 44).symm.trans ev44
    replace ev44 := Lib.hid ev44
    clear hO hD
    go_simp
    exact hK.out _ _ (Ex.refl _) rfl
  apply Steps.one (MP.blk V.heap.size 180 (h6C 0 0 0 0 0 false 0 0 false 0 0)) 31 rfl
  · intro o ho FA x hO hD K hK
    obtain rfl := Option.some.inj ho.symm
    clear ho
    clear hO hD
    go_simp
    refine hK.out _ _ (Ex.alloc _ _) ⟨_, rfl, ?_, ?_⟩
    · simp [size_plus]
    · refine Bk.newK _ _ _ ?_ rfl
      simp [size_plus]
  refine Steps.fin_ (fun vs x hp => ?_)
  have p0 : vs 0 = _ := hp 0 (by omega)
  have p1 : vs 1 = _ := hp 1 (by omega)
  have p2 : vs 2 = _ := hp 2 (by omega)
  have p3 : vs 3 = _ := hp 3 (by omega)
  have p4 : vs 4 = _ := hp 4 (by omega)
  have p5 : vs 5 = _ := hp 5 (by omega)
  have p6 : vs 6 = _ := hp 6 (by omega)
  have p7 : vs 7 = _ := hp 7 (by omega)
  have p8 : vs 8 = _ := hp 8 (by omega)
  have p9 : vs 9 = _ := hp 9 (by omega)
  have p10 : vs 10 = _ := hp 10 (by omega)
  have p11 : vs 11 = _ := hp 11 (by omega)
  have p12 : vs 12 = _ := hp 12 (by omega)
  have p13 : vs 13 = _ := hp 13 (by omega)
  have p14 : vs 14 = _ := hp 14 (by omega)
  have p15 : vs 15 = _ := hp 15 (by omega)
  have p16 : vs 16 = _ := hp 16 (by omega)
  have p17 : vs 17 = _ := hp 17 (by omega)
  have p18 : vs 18 = _ := hp 18 (by omega)
  have p19 : vs 19 = _ := hp 19 (by omega)
  have p20 : vs 20 = _ := hp 20 (by omega)
  have p21 : vs 21 = _ := hp 21 (by omega)
  have p22 : vs 22 = _ := hp 22 (by omega)
  have p23 : vs 23 = _ := hp 23 (by omega)
  have p24 : vs 24 = _ := hp 24 (by omega)
  have p25 : vs 25 = _ := hp 25 (by omega)
  have p26 : vs 26 = _ := hp 26 (by omega)
  have p27 : vs 27 = _ := hp 27 (by omega)
  have p28 : vs 28 = _ := hp 28 (by omega)
  have p29 : vs 29 = _ := hp 29 (by omega)
  have p30 := hp 30 (by omega)
  clear hp
  simp only [List.take_succ_cons, List.take_zero, List.drop_succ_cons, List.drop_zero, putAll, Nat.zero_add, Nat.reduceAdd, Act.put, List.setIfInBounds_toArray, List.set_cons_zero, List.set_cons_succ, p0, p1, p2, p3, p4, p5, p6, p7, p8, p9, p10, p11, p12, p13, p14, p15, p16, p17, p18, p19, p20, p21, p22, p23, p24, p25, p26, p27, p28, p29]
  clear p0 p1 p2 p3 p4 p5 p6 p7 p8 p9 p10 p11 p12 p13 p14 p15 p16 p17 p18 p19 p20 p21 p22 p23 p24 p25 p26 p27 p28 p29
  generalize vs 30 = y30 at *
  clear vs
  obtain ⟨g, rfl, hgw, hb⟩ := p30
  have hgz : w.heap.size < g := by have := b2.lt; omega
  go_upto_region 6 with (refine at_op (.store 180 (.tmp 5) (.tmp 45)) rfl ?_; refine wpList_stA (t := 180) 180 (.tmp 5) (.tmp 45) rfl rfl (h6C cl lb (ln : Int) nx ht false 0 0 false 0 0) (h6C 0 0 0 0 0 false 0 0 false 0 0) rfl (h6C_one _ _ _ _ _ _ _ _ _ _ _) rfl rfl hb (szR6 _ _ _ _ _ _ _ _ _ _ _) ?_; intro V1 hX hg3)
  replace b2 := (b2.later (below_plus _ x.bs x.d)).grown hg3 (by have := b2.lt; simp; omega)
  replace be := below_grown (belowP be x.bs x.d) hg3 (by omega)
  clear hg3 hb y0' y1' y4' y5' zb zV
  have hs8 : Rb V1 (cutA (some ⟨b, off, none⟩) c 8 1) 16 (c - 8) (dig sh 8 ++ dig sl 8) := by
    have := ((h.later be).cut (k := 8) (by omega)).take (k := 16) (by omega)
    rwa [z0.out] at this
  have j2 : (24 : Int) ≤ (c : Int) := by omega
  have zx := hX.lt
  go_upto_region 7 with (first
    | (go_at_call 55; (with_reducible refine (refOf16 sh sl _ _ _ k1 k2 hs8).mono ?_); rintro e w1 ⟨bs5, d5, rfl, rfl⟩)
    | (replace hX := hX.later (below_plus _ bs5 d5); (refine at_op (.store 26 (.tmp 52) (.tmp 50)) rfl ?_; refine wpList_stM (t := 180) 26 (.tmp 52) (.tmp 50) rfl rfl (adC true sh sl) _ (by simp [adC, h6C]) (adC_one _ _ _) rfl rfl hX (szAd _ _ _) ?_; intro V2 hX2 hg)))
  simp only [splice, adC, h6C, List.take_succ_cons, List.take_zero, List.drop_succ_cons, List.drop_zero, List.length_cons, List.length_nil, Nat.zero_add, Nat.reduceAdd, List.cons_append, List.nil_append] at hX2
  replace b2 := (b2.later (below_plus _ bs5 d5)).grown hg (by have := b2.lt; simp; omega)
  replace be := below_grown (belowP be bs5 d5) hg (by omega)
  clear hX hg zx hs8 j2
  have hX := hX2
  clear hX2
  have hs8 : Rb V2 (cutA (some ⟨b, off, none⟩) c 24 1) 16 (c - 24) (dig dh 8 ++ dig dl 8) := by
    have := ((h.later be).cut (k := 24) (by omega)).take (k := 16) (by omega)
    rwa [z1.out] at this
  have j2 : (40 : Int) ≤ (c : Int) := by omega
  have zx := hX.lt
  go_upto_region 8 with (first
    | (go_at_call 55; (with_reducible refine (refOf16 dh dl _ _ _ k3 k4 hs8).mono ?_); rintro e w1 ⟨bs5, d5, rfl, rfl⟩)
    | (replace hX := hX.later (below_plus _ bs5 d5); (refine at_op (.store 26 (.tmp 59) (.tmp 57)) rfl ?_; refine wpList_stM (t := 180) 26 (.tmp 59) (.tmp 57) rfl rfl (adC true dh dl) _ (by simp [adC, h6C]) (adC_one _ _ _) rfl rfl hX (szAd _ _ _) ?_; intro V3 hX2 hg)))
  simp only [splice, adC, h6C, List.take_succ_cons, List.take_zero, List.drop_succ_cons, List.drop_zero, List.length_cons, List.length_nil, Nat.zero_add, Nat.reduceAdd, List.cons_append, List.nil_append] at hX2
  replace b2 := (b2.later (below_plus _ bs5 d5)).grown hg (by have := b2.lt; simp; omega)
  replace be := below_grown (belowP be bs5 d5) hg (by omega)
  clear hX hg zx hs8 j2
  have hX := hX2
  clear hX2
  replace hX : Bk V3 g 180 (h6C cl lb (ln : Int) nx ht true sh sl true dh dl) := hX
  have yl : V3.cell? ⟨g, 2, none⟩ = some (.int .i64 (ln : Int)) := hX.cell 2
  have zx := hX.lt
  have w9 : IntKind.i64.wrap ((n : Int) - 40) = (n : Int) - 40 := IntWalk.i64_in _ (by omega)
  go_upto_region 10 with (fail)
  have e1 : IntKind.i64.wrap (40 + (ln : Int)) = (z : Int) := by rw [IntWalk.i64_in _ (by omega)]; omega
  have j0 : (0 : Int) ≤ 40 := by omega
  have j1 : (40 : Int) ≤ (z : Int) := by omega
  have j2 : (z : Int) ≤ (c : Int) := by omega
  have j3 : z - 40 = ln := by omega
  have hr := hr0.later be
  clear hz
  go_wp2
  refine wp_relS 8 75 rfl (by kernel_rfl) (by kernel_rfl) ?_
  apply Steps.one (MP.eq _) 1 rfl
  · intro o ho FA x hO hD K hK
    obtain rfl := Option.some.inj ho.symm
    clear ho
    have e5 := hO 5 (by kernel_rfl)
    simp only [eval_tmp, List.getElem?_toArray, List.getElem?_cons_succ, List.getElem?_cons_zero, Option.getD_some] at e5
    have ev5 := Lib.hid ((eval_tmp FA 5).trans e5)
    clear hO hD
    refine wanted_if rfl ?_
    refine wp_ldA 180 (.tmp 5) rfl (h6C cl lb (ln : Int) nx ht true sh sl true dh dl) ev5.out (hX.later (below_plus _ _ _)) (whole_ _) r1 r2 (szR6 _ _ _ _ _ _ _ _ _ _ _) ?_
    exact hK.out _ _ (Ex.refl _) rfl
  apply Steps.one (MP.fullN V3.heap.size []) 2 rfl
  · intro o ho FA x hO hD K hK
    obtain rfl := Option.some.inj ho.symm
    clear ho
    clear hO hD
    go_simp
    exact hK.out _ _ (Ex.alloc _ _) ⟨_, _, rfl, Rb.litP #[] [] rfl rfl (Nat.zero_le _) rfl, fun a ha => by injection ha with ha; subst ha; simp [size_plus]⟩
  apply Steps.one (MP.eq _) 3 rfl
  · intro o ho FA x hO hD K hK
    obtain rfl := Option.some.inj ho.symm
    clear ho
    have e0 := hO 0 (by kernel_rfl)
    simp only [eval_tmp, List.getElem?_toArray, List.getElem?_cons_succ, List.getElem?_cons_zero, Option.getD_some] at e0
    have ev0 := Lib.hid ((eval_tmp FA 0).trans e0)
    clear hO hD
    go_simp
    exact hK.out _ _ (Ex.refl _) rfl
  apply Steps.one (MP.eq _) 4 rfl
  · intro o ho FA x hO hD K hK
    obtain rfl := Option.some.inj ho.symm
    clear ho
    have e5 := hO 5 (by kernel_rfl)
    simp only [eval_tmp, List.getElem?_toArray, List.getElem?_cons_succ, List.getElem?_cons_zero, Option.getD_some] at e5
    have ev5 := Lib.hid ((eval_tmp FA 5).trans e5)
    clear hO hD
    go_simp
    exact hK.out _ _ (Ex.refl _) rfl
  apply Steps.one (MP.eq _) 5 rfl
  · intro o ho FA x hO hD K hK
    obtain rfl := Option.some.inj ho.symm
    clear ho
    have ev70 : FA.eval (.tmp 70) = _ := hD 3 70 (by kernel_rfl)
    have e70 := (eval_tmp FA 70).symm.trans ev70
    replace ev70 := Lib.hid ev70
    clear hO hD
    refine wanted_if rfl ?_
    refine wp_ld1 3 (.tmp 70) rfl ev70.out (hX.later (below_plus _ _ _)) rfl Try.underlying3 rfl ?_
    exact hK.out _ _ (Ex.refl _) rfl
  apply Steps.one (MP.eq _) 6 rfl
  · intro o ho FA x hO hD K hK
    obtain rfl := Option.some.inj ho.symm
    clear ho
    have ev71 : FA.eval (.tmp 71) = _ := hD 4 71 (by kernel_rfl)
    have e71 := (eval_tmp FA 71).symm.trans ev71
    replace ev71 := Lib.hid ev71
    clear hO hD
    go_simp
    exact hK.out _ _ (Ex.refl _) rfl
  apply Steps.one (MP.eq _) 7 rfl
  · intro o ho FA x hO hD K hK
    obtain rfl := Option.some.inj ho.symm
    clear ho
    have ev69 : FA.eval (.tmp 69) = _ := hD 2 69 (by kernel_rfl)
    have e69 := (eval_tmp FA 69).symm.trans ev69
    replace ev69 := Lib.hid ev69
    have ev72 : FA.eval (.tmp 72) = _ := hD 5 72 (by kernel_rfl)
    have e72 := (eval_tmp FA 72).symm.trans ev72
    replace ev72 := Lib.hid ev72
    clear hO hD
    go_simp
    exact hK.out _ _ (Ex.refl _) rfl
  apply Steps.one (MP.rbN V3.heap.size load) 8 rfl
  · intro o ho FA x hO hD K hK
    obtain rfl := Option.some.inj ho.symm
    clear ho
    have f68 := hD 1 68 (by kernel_rfl)
    generalize eu68 : FA.eval (.tmp 68) = u68 at f68
    have e68 := (eval_tmp FA 68).symm.trans eu68
    have ev68 := Lib.hid eu68
    clear eu68
    have ev73 : FA.eval (.tmp 73) = _ := hD 6 73 (by kernel_rfl)
    have e73 := (eval_tmp FA 73).symm.trans ev73
    replace ev73 := Lib.hid ev73
    clear hO hD
    obtain ⟨A1, n1, rfl, hr1, ha1⟩ := f68
    have hn1 : n1 = 0 := hr1.1.symm
    refine wanted_if rfl ?_
    refine rel_appN bt (.tmp 68) (.tmp 73) V3.heap.size rfl ev68.out hr1 ha1 (by simp [size_plus]) ev73.out (hr.plus_ _ _) (by omega) ?_
    intro A3 n3 c3 w3 hex ho3 ha3
    exact hK.out _ _ hex ⟨_, _, _, rfl, ho3, ha3⟩
  refine Steps.fin_ (fun vs x hp => ?_)
  have p0 : vs 0 = _ := hp 0 (by omega)
  have p1 := hp 1 (by omega)
  have p2 : vs 2 = _ := hp 2 (by omega)
  have p3 : vs 3 = _ := hp 3 (by omega)
  have p4 : vs 4 = _ := hp 4 (by omega)
  have p5 : vs 5 = _ := hp 5 (by omega)
  have p6 : vs 6 = _ := hp 6 (by omega)
  have p7 := hp 7 (by omega)
  clear hp
  simp only [List.take_succ_cons, List.take_zero, List.drop_succ_cons, List.drop_zero, putAll, Nat.zero_add, Nat.reduceAdd, Act.put, List.setIfInBounds_toArray, List.set_cons_zero, List.set_cons_succ, p0, p2, p3, p4, p5, p6]
  clear p0 p2 p3 p4 p5 p6
  generalize vs 1 = y1 at *
  generalize vs 7 = y7 at *
  clear vs
  obtain ⟨A7, n7, c7, rfl, h7, ha7⟩ := p7
  have zs7 := be.size
  have zs8 := b2.lt
  replace b2 := b2.later (below_plus _ x.bs x.d)
  replace be := belowP be x.bs x.d
  go_wp2_with (refine at_op (.store 180 (.tmp 2) (.tmp 67)) rfl ?_; refine wpList_stA (t := 180) 180 (.tmp 2) (.tmp 67) rfl rfl (h6C cl lb (ln : Int) nx ht true sh sl true dh dl) (h6C 0 0 0 0 0 false 0 0 false 0 0) rfl (h6C_one _ _ _ _ _ _ _ _ _ _ _) rfl rfl b2 (szR6 _ _ _ _ _ _ _ _ _ _ _) ?_; intro W9 h9 g9)
  refine bodyPost_agg3 Try.results76 rfl rfl rfl h9.range r1 r2 (szR6 _ _ _ _ _ _ _ _ _ _ _) rfl (RetP6.mk (h7.grownN ha7 g9 (by omega)) (fun a ha => Nat.le_trans zs7 (ha7 a ha)) ?_)
  exact below_grown be g9 (by omega)
/-- what is known of a header that was read -/
structure Facts6 (l : List UInt8) (n cl lb ln nx ht : Nat) (s6 : Bool) (sh sl dh dl : Nat) (load : List UInt8) (E : Int) : Prop where
  c1 : cl < 256
  c2 : lb < 1048576
  c3 : ln < 65536
  c4 : ht < 256
  c : E = 0 → 40 ≤ n ∧ num ((l.drop 0).take 1) / 16 = 6 ∧ s6 = true ∧ nx = num ((l.drop 6).take 1) ∧ ln = num ((l.drop 4).take 2) ∧ sh = num ((l.drop 8).take 8) ∧ sl = num ((l.drop 16).take 8) ∧ dh = num ((l.drop 24).take 8) ∧ dl = num ((l.drop 32).take 8) ∧ load = (l.drop 40).take ln ∧ 40 + ln ≤ n
theorem Facts6.zero (l : List UInt8) (n : Nat) (E : Int) (hE : E ≠ 0) : Facts6 l n 0 0 0 0 0 false 0 0 0 0 [] E := ⟨by decide, by decide, by decide, by decide, fun h => absurd h hE⟩
theorem reads6F (A : Option Addr) (n c : Nat) (l : List UInt8) (w : World) (h : Rb w A n c l) (hm : n ≤ 1000000) : ∃ (cl lb ln nx ht : Nat) (s6 : Bool) (sh sl dh dl : Nat) (load : List UInt8) (E : Int), Facts6 l n cl lb ln nx ht s6 sh sl dh dl load E ∧ (nx < 256 ∧ ht < 256 ∧ sh < 18446744073709551616 ∧ sl < 18446744073709551616 ∧ dh < 18446744073709551616 ∧ dl < 18446744073709551616 ∧ load.length ≤ n) ∧
    (∀ w', Below w.heap.size w w' → Calls Try.prog 69 #[.slice A n c] w' (RetP6 w' cl lb ln nx ht s6 sh sl dh dl load E)) ∧ (∀ w', Below w.heap.size w w' → Calls Try.prog 76 #[.slice A n c] w' (RetP6 w' cl lb ln nx ht s6 sh sl dh dl load E)) := by
  have bad : ∀ E : Int, (E != 0) = true → (∀ w', Below w.heap.size w w' → Calls Try.prog 124 #[.slice A n c] w' (RetV w' (.tuple #[.agg (h6C 0 0 0 0 0 false 0 0 false 0 0).toArray, .int .i64 E]))) → (∀ w', Below w.heap.size w w' → Calls Try.prog 76 #[.slice A n c] w' (RetV w' (.tuple #[.agg (h6C 0 0 0 0 0 false 0 0 false 0 0).toArray, .slice none 0 0, .int .i64 E]))) → ∃ (cl lb ln nx ht : Nat) (s6 : Bool) (sh sl dh dl : Nat) (load : List UInt8) (E : Int), Facts6 l n cl lb ln nx ht s6 sh sl dh dl load E ∧ (nx < 256 ∧ ht < 256 ∧ sh < 18446744073709551616 ∧ sl < 18446744073709551616 ∧ dh < 18446744073709551616 ∧ dl < 18446744073709551616 ∧ load.length ≤ n) ∧
    (∀ w', Below w.heap.size w w' → Calls Try.prog 69 #[.slice A n c] w' (RetP6 w' cl lb ln nx ht s6 sh sl dh dl load E)) ∧ (∀ w', Below w.heap.size w w' → Calls Try.prog 76 #[.slice A n c] w' (RetP6 w' cl lb ln nx ht s6 sh sl dh dl load E)) := fun E hE h1 h2 =>
    ⟨0, 0, 0, 0, 0, false, 0, 0, 0, 0, [], E, Facts6.zero l n E (by rw [bne_iff_ne] at hE; exact hE), ⟨by decide, by decide, by decide, by decide, by decide, by decide, Nat.zero_le _⟩, fun w' hb => (parse6_err A n c E w' hE (fun w2 hb2 => h1 w2 (hb.trans (hb2.mono hb.size)))).mono fun _ _ => RetP6.err, fun w' hb => (h2 w' hb).mono fun _ _ => RetP6.err⟩
  by_cases g0 : n < 40
  · exact bad 20 rfl (fun w' hb => hdr6_short A n c l w' (h.later hb) hm g0) (fun w' hb => refP6_short A n c l w' (h.later hb) hm g0)
  have hn : 40 ≤ n := by omega
  have hl := h.1
  have e := first_ip6 l (by omega)
  have B1 := num_lt' l 1 1 256 (by decide)
  have B2 := num_lt' l 2 2 65536 (by decide)
  have B0 := num_lt' l 0 1 256 (by decide)
  by_cases g1 : num ((l.drop 0).take 1) / 16 = 6
  case neg => exact bad 21 rfl (fun w' hb => hdr6_form A n c l w' (h.later hb) hm _ rfl hn (by omega)) (fun w' hb => refP6_form A n c l w' (h.later hb) hm _ rfl hn g1)
  have has := as_ip6B l (by omega) (by omega)
  have z0 : (l.drop 8).take 16 = dig (num ((l.drop 8).take 8)) 8 ++ dig (num ((l.drop 16).take 8)) 8 := by
    rw [digNum 8 _ (by rw [List.length_take, List.length_drop]; omega), digNum 8 _ (by rw [List.length_take, List.length_drop]; omega), show l.drop 16 = (l.drop 8).drop 8 from by rw [List.drop_drop], take_app 8 8 (l.drop 8)]
  have z1 : (l.drop 24).take 16 = dig (num ((l.drop 24).take 8)) 8 ++ dig (num ((l.drop 32).take 8)) 8 := by
    rw [digNum 8 _ (by rw [List.length_take, List.length_drop]; omega), digNum 8 _ (by rw [List.length_take, List.length_drop]; omega), show l.drop 32 = (l.drop 24).drop 8 from by rw [List.drop_drop], take_app 8 8 (l.drop 24)]
  have k1 := num_lt' l 8 8 18446744073709551616 (by decide)
  have k2 := num_lt' l 16 8 18446744073709551616 (by decide)
  have k3 := num_lt' l 24 8 18446744073709551616 (by decide)
  have k4 := num_lt' l 32 8 18446744073709551616 (by decide)
  by_cases g2 : n - 40 < num ((l.drop 4).take 2)
  · exact bad 20 rfl (fun w' hb => hdr6_long A n c l w' (h.later hb) hm _ _ rfl rfl hn (by omega) g2) (fun w' hb => refP6_long A n c l w' (h.later hb) hm _ _ _ _ _ _ _ _ _ _ _ _ rfl rfl rfl rfl rfl rfl z0 z1 k1 k2 k3 k4 g1 rfl rfl hn g2)
  refine ⟨num ((l.drop 0).take 4) / 1048576 % 256, num ((l.drop 0).take 4) % 1048576, num ((l.drop 4).take 2), num ((l.drop 6).take 1), num ((l.drop 7).take 1), true, _, _, _, _, (l.drop 40).take (num ((l.drop 4).take 2)), 0, ⟨by omega, by omega, num_lt' l _ 2 _ (by decide), num_lt' l _ 1 _ (by decide), fun _ => ⟨hn, g1, rfl, rfl, rfl, rfl, rfl, rfl, rfl, rfl, by omega⟩⟩, ⟨num_lt' l _ 1 _ (by decide), num_lt' l _ 1 _ (by decide), k1, k2, k3, k4, by rw [List.length_take, List.length_drop]; omega⟩, fun w' hb => ?_, fun w' hb => ?_⟩
  · exact parse6_ok _ _ _ _ _ _ _ _ _ A n c (l.drop 40) w' (by omega) (by omega) (num_lt' l _ 2 _ (by decide)) (num_lt' l _ 1 _ (by decide)) (num_lt' l _ 1 _ (by decide)) k1 k2 k3 k4 (by rw [← has]; exact h.later hb) (by rw [List.length_drop]; omega) hm
  · exact refP6_ok A n c l w' (h.later hb) hm _ _ _ _ _ _ _ _ _ _ _ _ rfl rfl rfl rfl rfl rfl z0 z1 k1 k2 k3 k4 g1 (by omega) (by omega) hn (by omega)
end Go.Proofs.Ytfmkndemkpecpaa

/- Tunnels: Six, outer, Unwrap; the reference's Unwrap. -/
namespace Go.Proofs.Ytfmkndemkpecpaa
open Go.RowKit
set_option linter.unusedVariables false
set_option linter.unusedSimpArgs false
attribute [local go_sem ↓] sliced_cut

attribute [local go_sem] cutA_zero

/-- what the first byte says: the reference's number, the family, the error -/
inductive Sx : List UInt8 → Int → Bool → Int → Prop
  | none_ : Sx [] (-1) false 20
  | four (b : UInt8) (r : List UInt8) (h : b.toNat / 16 = 4) : Sx (b :: r) 4 false 0
  | six (b : UInt8) (r : List UInt8) (h : b.toNat / 16 = 6) : Sx (b :: r) 6 true 0
  | other (b : UInt8) (r : List UInt8) (h4 : b.toNat / 16 ≠ 4) (h6 : b.toNat / 16 ≠ 6) : Sx (b :: r) 0 false 21
theorem sx_any (l : List UInt8) : ∃ N B E, Sx l N B E := by
  cases l with
  | nil => exact ⟨_, _, _, .none_⟩
  | cons b r =>
    by_cases h4 : b.toNat / 16 = 4
    · exact ⟨_, _, _, .four b r h4⟩
    · by_cases h6 : b.toNat / 16 = 6
      · exact ⟨_, _, _, .six b r h6⟩
      · exact ⟨_, _, _, .other b r h4 h6⟩
def wyC (s6 : Bool) (sh sl : Nat) (d6 : Bool) (dh dl tl : Nat) : List Value := [.bool s6, .int .u64 (sh : Int), .int .u64 (sl : Int), .bool d6, .int .u64 (dh : Int), .int .u64 (dl : Int), .int .u8 (tl : Int)]
/-- what outer gives -/
def RetTO (w : World) (load : List UInt8) (s6 : Bool) (sh sl : Nat) (d6 : Bool) (dh dl tl : Nat) (nr : Nat) (E : Int) (e : Ending) (w' : World) : Prop := ∃ A n k bs d, e = .returned (.tuple #[.slice A n k, .agg (wyC s6 sh sl d6 dh dl tl).toArray, .int .u8 (nr : Int), .int .i64 E]) ∧ w' = plus w bs d ∧ Rb (plus w bs d) A n k load ∧ ∀ a, A = some a → w.heap.size ≤ a.block
theorem RetTO.mk {w w' : World} {load : List UInt8} {s6 : Bool} {sh sl : Nat} {d6 : Bool} {dh dl tl nr : Nat} {E : Int} {A : Option Addr} {n k : Nat} (h : Rb w' A n k load) (hf : ∀ a, A = some a → w.heap.size ≤ a.block) (hb : Below w.heap.size w w') : RetTO w load s6 sh sl d6 dh dl tl nr E (.returned (.tuple #[.slice A n k, .agg (wyC s6 sh sl d6 dh dl tl).toArray, .int .u8 (nr : Int), .int .i64 E])) w' := by
  obtain ⟨bs, d, rfl⟩ := plus_of hb
  exact ⟨A, n, k, bs, d, rfl, rfl, h, hf⟩
/-- what Unwrap gives -/
def RetTW (w : World) (load : List UInt8) (s6 : Bool) (sh sl : Nat) (d6 : Bool) (dh dl tl : Nat) (E : Int) (e : Ending) (w' : World) : Prop := ∃ A n k bs d, e = .returned (.tuple #[.slice A n k, .agg (wyC s6 sh sl d6 dh dl tl).toArray, .int .i64 E]) ∧ w' = plus w bs d ∧ Rb (plus w bs d) A n k load
theorem RetTW.mk {w w' : World} {load : List UInt8} {s6 : Bool} {sh sl : Nat} {d6 : Bool} {dh dl tl : Nat} {E : Int} {A : Option Addr} {n k : Nat} (h : Rb w' A n k load) (hb : Below w.heap.size w w') : RetTW w load s6 sh sl d6 dh dl tl E (.returned (.tuple #[.slice A n k, .agg (wyC s6 sh sl d6 dh dl tl).toArray, .int .i64 E])) w' := by
  obtain ⟨bs, d, rfl⟩ := plus_of hb
  exact ⟨A, n, k, bs, d, rfl, rfl, h⟩
set_option maxHeartbeats 4000000 in
set_option maxRecDepth 100000 in
theorem tunSix (A : Option Addr) (n c : Nat) (l : List UInt8) (w : World) (h : Rb w A n c l) (N : Int) (B : Bool) (E : Int) (s : Sx l N B E) : Calls Try.prog 68 #[.slice A n c] w fun e w' => e = .returned (.tuple #[.bool B, .int .i64 E]) ∧ w = w' := by
  have hl := h.1
  cases s
  case none_ =>
    obtain rfl : n = 0 := hl.symm
    go_enter Try.func68, Try.ntmps68
    go_wp2
    go_ret2
    exact ⟨rfl, rfl⟩
  case four b r h =>
    obtain ⟨g, off, rfl, hbl, hcell⟩ := h.2.2.at_ (by rw [bcs_length]; simp)
    have y0 : w.cell? ⟨g, off, none⟩ = some (.int .u8 (b.toNat : Int)) := hcell 0 _ rfl
    have n0 : 0 < n := by rw [← hl]; simp
    have i0 : (0 : Int) < (n : Int) := by omega
    have ne : ((n : Int) == 0) = false := by rw [beq_eq_false_iff_ne]; omega
    obtain ⟨q, hq⟩ : ∃ q : Nat, q = b.toNat / 16 := ⟨_, rfl⟩
    have e1 : (b.toNat : Int) / 16 = (q : Int) := by omega
    have e2 : IntKind.i64.wrap (q : Int) = (q : Int) := IntWalk.i64_in _ (by have := b.toNat_lt; omega)
    have e3 : IntKind.u8.wrap (q : Int) = (q : Int) := IntWalk.u8_in _ (by have := b.toNat_lt; omega)
    have e4 : (q : Int) % 256 = (q : Int) := by have := b.toNat_lt; omega
    generalize b.toNat = x at *
    obtain rfl : q = 4 := by omega
    clear hcell hl hq
    go_enter Try.func68, Try.ntmps68
    go_wp2
    go_ret2
    exact ⟨rfl, rfl⟩
  case six b r h =>
    obtain ⟨g, off, rfl, hbl, hcell⟩ := h.2.2.at_ (by rw [bcs_length]; simp)
    have y0 : w.cell? ⟨g, off, none⟩ = some (.int .u8 (b.toNat : Int)) := hcell 0 _ rfl
    have n0 : 0 < n := by rw [← hl]; simp
    have i0 : (0 : Int) < (n : Int) := by omega
    have ne : ((n : Int) == 0) = false := by rw [beq_eq_false_iff_ne]; omega
    obtain ⟨q, hq⟩ : ∃ q : Nat, q = b.toNat / 16 := ⟨_, rfl⟩
    have e1 : (b.toNat : Int) / 16 = (q : Int) := by omega
    have e2 : IntKind.i64.wrap (q : Int) = (q : Int) := IntWalk.i64_in _ (by have := b.toNat_lt; omega)
    have e3 : IntKind.u8.wrap (q : Int) = (q : Int) := IntWalk.u8_in _ (by have := b.toNat_lt; omega)
    have e4 : (q : Int) % 256 = (q : Int) := by have := b.toNat_lt; omega
    generalize b.toNat = x at *
    obtain rfl : q = 6 := by omega
    clear hcell hl hq
    go_enter Try.func68, Try.ntmps68
    go_wp2
    go_ret2
    exact ⟨rfl, rfl⟩
  case other b r h4 h6 =>
    obtain ⟨g, off, rfl, hbl, hcell⟩ := h.2.2.at_ (by rw [bcs_length]; simp)
    have y0 : w.cell? ⟨g, off, none⟩ = some (.int .u8 (b.toNat : Int)) := hcell 0 _ rfl
    have n0 : 0 < n := by rw [← hl]; simp
    have i0 : (0 : Int) < (n : Int) := by omega
    have ne : ((n : Int) == 0) = false := by rw [beq_eq_false_iff_ne]; omega
    obtain ⟨q, hq⟩ : ∃ q : Nat, q = b.toNat / 16 := ⟨_, rfl⟩
    have e1 : (b.toNat : Int) / 16 = (q : Int) := by omega
    have e2 : IntKind.i64.wrap (q : Int) = (q : Int) := IntWalk.i64_in _ (by have := b.toNat_lt; omega)
    have e3 : IntKind.u8.wrap (q : Int) = (q : Int) := IntWalk.u8_in _ (by have := b.toNat_lt; omega)
    have e4 : (q : Int) % 256 = (q : Int) := by have := b.toNat_lt; omega
    generalize b.toNat = x at *
    have q4 : ((q : Int) == 4) = false := by rw [beq_eq_false_iff_ne]; omega
    have q6 : ((q : Int) == 6) = false := by rw [beq_eq_false_iff_ne]; omega
    clear hcell hl hq
    go_enter Try.func68, Try.ntmps68
    go_wp2
    go_ret2
    exact ⟨rfl, rfl⟩
set_option maxHeartbeats 4000000 in
set_option maxRecDepth 100000 in
theorem refSix (A : Option Addr) (n c : Nat) (l : List UInt8) (w : World) (h : Rb w A n c l) (N : Int) (B : Bool) (E : Int) (s : Sx l N B E) : Calls Try.prog 75 #[.slice A n c] w fun e w' => e = .returned (.int .i64 N) ∧ w = w' := by
  have hl := h.1
  cases s
  case none_ =>
    obtain rfl : n = 0 := hl.symm
    go_enter Try.func75, Try.ntmps75
    go_wp2
    go_ret
    exact ⟨rfl, rfl⟩
  case four b r h =>
    obtain ⟨g, off, rfl, hbl, hcell⟩ := h.2.2.at_ (by rw [bcs_length]; simp)
    have y0 : w.cell? ⟨g, off, none⟩ = some (.int .u8 (b.toNat : Int)) := hcell 0 _ rfl
    have n0 : 0 < n := by rw [← hl]; simp
    have i0 : (0 : Int) < (n : Int) := by omega
    have ne : ((n : Int) == 0) = false := by rw [beq_eq_false_iff_ne]; omega
    obtain ⟨q, hq⟩ : ∃ q : Nat, q = b.toNat / 16 := ⟨_, rfl⟩
    have e1 : (b.toNat : Int) / 16 = (q : Int) := by omega
    have e2 : IntKind.i64.wrap (q : Int) = (q : Int) := IntWalk.i64_in _ (by have := b.toNat_lt; omega)
    have e3 : IntKind.u8.wrap (q : Int) = (q : Int) := IntWalk.u8_in _ (by have := b.toNat_lt; omega)
    have e4 : (q : Int) % 256 = (q : Int) := by have := b.toNat_lt; omega
    generalize b.toNat = x at *
    obtain rfl : q = 4 := by omega
    clear hcell hl hq
    go_enter Try.func75, Try.ntmps75
    go_wp2
    go_ret
    exact ⟨rfl, rfl⟩
  case six b r h =>
    obtain ⟨g, off, rfl, hbl, hcell⟩ := h.2.2.at_ (by rw [bcs_length]; simp)
    have y0 : w.cell? ⟨g, off, none⟩ = some (.int .u8 (b.toNat : Int)) := hcell 0 _ rfl
    have n0 : 0 < n := by rw [← hl]; simp
    have i0 : (0 : Int) < (n : Int) := by omega
    have ne : ((n : Int) == 0) = false := by rw [beq_eq_false_iff_ne]; omega
    obtain ⟨q, hq⟩ : ∃ q : Nat, q = b.toNat / 16 := ⟨_, rfl⟩
    have e1 : (b.toNat : Int) / 16 = (q : Int) := by omega
    have e2 : IntKind.i64.wrap (q : Int) = (q : Int) := IntWalk.i64_in _ (by have := b.toNat_lt; omega)
    have e3 : IntKind.u8.wrap (q : Int) = (q : Int) := IntWalk.u8_in _ (by have := b.toNat_lt; omega)
    have e4 : (q : Int) % 256 = (q : Int) := by have := b.toNat_lt; omega
    generalize b.toNat = x at *
    obtain rfl : q = 6 := by omega
    clear hcell hl hq
    go_enter Try.func75, Try.ntmps75
    go_wp2
    go_ret
    exact ⟨rfl, rfl⟩
  case other b r h4 h6 =>
    obtain ⟨g, off, rfl, hbl, hcell⟩ := h.2.2.at_ (by rw [bcs_length]; simp)
    have y0 : w.cell? ⟨g, off, none⟩ = some (.int .u8 (b.toNat : Int)) := hcell 0 _ rfl
    have n0 : 0 < n := by rw [← hl]; simp
    have i0 : (0 : Int) < (n : Int) := by omega
    have ne : ((n : Int) == 0) = false := by rw [beq_eq_false_iff_ne]; omega
    obtain ⟨q, hq⟩ : ∃ q : Nat, q = b.toNat / 16 := ⟨_, rfl⟩
    have e1 : (b.toNat : Int) / 16 = (q : Int) := by omega
    have e2 : IntKind.i64.wrap (q : Int) = (q : Int) := IntWalk.i64_in _ (by have := b.toNat_lt; omega)
    have e3 : IntKind.u8.wrap (q : Int) = (q : Int) := IntWalk.u8_in _ (by have := b.toNat_lt; omega)
    have e4 : (q : Int) % 256 = (q : Int) := by have := b.toNat_lt; omega
    generalize b.toNat = x at *
    have q4 : ((q : Int) == 4) = false := by rw [beq_eq_false_iff_ne]; omega
    have q6 : ((q : Int) == 6) = false := by rw [beq_eq_false_iff_ne]; omega
    clear hcell hl hq
    go_enter Try.func75, Try.ntmps75
    go_wp2
    go_ret
    exact ⟨rfl, rfl⟩
end Go.Proofs.Ytfmkndemkpecpaa

/- A flow (chapter 3). -/
namespace Go.Proofs.Ytfmkndemkpecpaa
open Go.RowKit
/-- a flow -/
def flC (s1 : Bool) (h1 l1 : Nat) (s2 : Bool) (h2 l2 : Nat) (sp dp p : Nat) : List Value := [.bool s1, .int .u64 (h1 : Int), .int .u64 (l1 : Int), .bool s2, .int .u64 (h2 : Int), .int .u64 (l2 : Int), .int .u16 (sp : Int), .int .u16 (dp : Int), .int .u8 (p : Int)]
end Go.Proofs.Ytfmkndemkpecpaa

/- packet.open of any bytes (chapter 28). -/
namespace Go.Proofs.Ytfmkndemkpecpaa
open Go.RowKit
set_option linter.unusedVariables false
set_option linter.unusedSimpArgs false
attribute [local go_sem ↓] sliced_cut

attribute [local go_sem] cutA_zero

theorem one_app {a b : List Value} (ha : ∀ u ∈ a, u.oneCell' = true) (hb : ∀ u ∈ b, u.oneCell' = true) : ∀ u ∈ a ++ b, u.oneCell' = true := fun u hu => by
  rcases List.mem_append.1 hu with h | h
  · exact ha u h
  · exact hb u h
/-- the head of what a packet is -/
def fhC (si st : Bool) (tl : Nat) (s6 : Bool) (sh sl : Nat) (d6 : Bool) (dh dl sp dp pr : Nat) : List Value := [.bool si, .bool st, .int .u8 (tl : Int), .bool s6, .int .u64 (sh : Int), .int .u64 (sl : Int), .bool d6, .int .u64 (dh : Int), .int .u64 (dl : Int), .int .u16 (sp : Int), .int .u16 (dp : Int), .int .u8 (pr : Int)]
theorem fhC_one (si st : Bool) (tl : Nat) (s6 : Bool) (sh sl : Nat) (d6 : Bool) (dh dl sp dp pr : Nat) : ∀ u ∈ fhC si st tl s6 sh sl d6 dh dl sp dp pr, u.oneCell' = true := by
  intro u hu
  simp only [fhC, List.mem_cons, List.not_mem_nil, or_false] at hu
  rcases hu with rfl | rfl | rfl | rfl | rfl | rfl | rfl | rfl | rfl | rfl | rfl | rfl <;> rfl
/-- a segment -/
def tcC (x0 x1 x2 x3 x4 x5 x6 x7 : Nat) (A1 : Option Addr) (n1 c1 : Nat) (A2 : Option Addr) (n2 c2 : Nat) : List Value := [.int .u16 (x0 : Int), .int .u16 (x1 : Int), .int .u32 (x2 : Int), .int .u32 (x3 : Int), .int .u8 (x4 : Int), .int .u16 (x5 : Int), .int .u16 (x6 : Int), .int .u16 (x7 : Int), .slice A1 n1 c1, .slice A2 n2 c2]
theorem tcC_one (x0 x1 x2 x3 x4 x5 x6 x7 : Nat) (A1 : Option Addr) (n1 c1 : Nat) (A2 : Option Addr) (n2 c2 : Nat) : ∀ u ∈ tcC x0 x1 x2 x3 x4 x5 x6 x7 A1 n1 c1 A2 n2 c2, u.oneCell' = true := by
  intro u hu
  simp only [tcC, List.mem_cons, List.not_mem_nil, or_false] at hu
  rcases hu with rfl | rfl | rfl | rfl | rfl | rfl | rfl | rfl | rfl | rfl <;> rfl
/-- what a packet is -/
def inPk (F T U M : List Value) : List Value := F ++ T ++ U ++ M
/-- what open gives -/
def hdC (F T U M : List Value) (fr : Bool) (A : Option Addr) (n k : Nat) : List Value := F ++ T ++ U ++ M ++ [.bool fr, .slice A n k]
theorem inPk_one {F T U M : List Value} (hF : ∀ u ∈ F, u.oneCell' = true) (hT : ∀ u ∈ T, u.oneCell' = true) (hU : ∀ u ∈ U, u.oneCell' = true) (hM : ∀ u ∈ M, u.oneCell' = true) : ∀ u ∈ inPk F T U M, u.oneCell' = true := one_app (one_app (one_app hF hT) hU) hM
/-- a header, an error; the load lies in a new block -/
def RetHp (w : World) (F : List Value) (fr : Bool) (load : List UInt8) (E : Int) (e : Ending) (w' : World) : Prop := ∃ A n k bs d, e = .returned (.tuple #[.agg (hdC (F) (tcC 0 0 0 0 0 0 0 0 none 0 0 none 0 0) (dgX 0 0 0 none 0 0) (msgC 0 0 0 0 none 0 0) fr A n k).toArray, .int .i64 E]) ∧ w' = plus w bs d ∧ Rb (plus w bs d) A n k load ∧ ∀ a, A = some a → w.heap.size ≤ a.block
theorem RetHp.mk {w w' : World} {F : List Value} {fr : Bool} {load : List UInt8} {E : Int} {A : Option Addr} {n k : Nat} (h : Rb w' A n k load) (hf : ∀ a, A = some a → w.heap.size ≤ a.block) (hb : Below w.heap.size w w') : RetHp w F fr load E (.returned (.tuple #[.agg (hdC (F) (tcC 0 0 0 0 0 0 0 0 none 0 0 none 0 0) (dgX 0 0 0 none 0 0) (msgC 0 0 0 0 none 0 0) fr A n k).toArray, .int .i64 E])) w' := by
  obtain ⟨bs, d, rfl⟩ := plus_of hb
  exact ⟨A, n, k, bs, d, rfl, rfl, h, hf⟩
def OpR (w : World) (F : List Value) (fr : Bool) (load : List UInt8) (E : Int) (e : Ending) (w' : World) : Prop := if E = 0 then RetHp w F fr load 0 e w' else RetHp w (fhC false false 0 false 0 0 false 0 0 0 0 0) false [] E e w'
theorem OpR.ok {w : World} {F : List Value} {fr : Bool} {load : List UInt8} {e : Ending} {w' : World} (h : RetHp w F fr load 0 e w') : OpR w F fr load 0 e w' := by unfold OpR; rw [if_pos rfl]; exact h
theorem OpR.err {w : World} {F : List Value} {fr : Bool} {load : List UInt8} {E : Int} {e : Ending} {w' : World} (hE : ¬ E = 0) (h : RetHp w (fhC false false 0 false 0 0 false 0 0 0 0 0) false [] E e w') : OpR w F fr load E e w' := by unfold OpR; rw [if_neg hE]; exact h
end Go.Proofs.Ytfmkndemkpecpaa

/- What a load is as a segment, a datagram, a message, on both sides; what a packet is (chapters 6, 7, 8, 28). -/
namespace Go.Proofs.Ytfmkndemkpecpaa
open Go.RowKit
set_option linter.unusedVariables false
set_option linter.unusedSimpArgs false
attribute [local go_sem ↓] sliced_cut

attribute [local go_sem] cutA_zero

/-- a segment: where there is no error its rows lie in new blocks -/
def RetSegE (w : World) (x0 x1 x2 x3 x4 x5 x6 x7 : Nat) (o1 o2 : List UInt8) (E : Int) (e : Ending) (w' : World) : Prop := if E = 0 then RetSegF w x0 x1 x2 x3 x4 x5 x6 x7 o1 o2 (.int .i64 0) e w' else RetSeg w 0 0 0 0 0 0 0 0 [] [] (.int .i64 E) e w'
theorem RetSegE.err {w : World} {x0 x1 x2 x3 x4 x5 x6 x7 : Nat} {o1 o2 : List UInt8} {E : Int} {e : Ending} {w' : World} (hE : ¬ E = 0) (h : RetSeg w 0 0 0 0 0 0 0 0 [] [] (.int .i64 E) e w') : RetSegE w x0 x1 x2 x3 x4 x5 x6 x7 o1 o2 E e w' := by unfold RetSegE; rw [if_neg hE]; exact h
theorem RetSegE.ok {w : World} {x0 x1 x2 x3 x4 x5 x6 x7 : Nat} {o1 o2 : List UInt8} {e : Ending} {w' : World} (h : RetSegF w x0 x1 x2 x3 x4 x5 x6 x7 o1 o2 (.int .i64 0) e w') : RetSegE w x0 x1 x2 x3 x4 x5 x6 x7 o1 o2 0 e w' := by unfold RetSegE; rw [if_pos rfl]; exact h
/-- a datagram: where there is no error its row lies in a new block -/
def RetDgE (w : World) (x0 x1 x2 : Nat) (o1 : List UInt8) (E : Int) (e : Ending) (w' : World) : Prop := if E = 0 then RetDgF w x0 x1 x2 o1 (.int .i64 0) e w' else RetDg w 0 0 0 [] (.int .i64 E) e w'
theorem RetDgE.err {w : World} {x0 x1 x2 : Nat} {o1 : List UInt8} {E : Int} {e : Ending} {w' : World} (hE : ¬ E = 0) (h : RetDg w 0 0 0 [] (.int .i64 E) e w') : RetDgE w x0 x1 x2 o1 E e w' := by unfold RetDgE; rw [if_neg hE]; exact h
theorem RetDgE.ok {w : World} {x0 x1 x2 : Nat} {o1 : List UInt8} {e : Ending} {w' : World} (h : RetDgF w x0 x1 x2 o1 (.int .i64 0) e w') : RetDgE w x0 x1 x2 o1 0 e w' := by unfold RetDgE; rw [if_pos rfl]; exact h
/-- what a packet is -/
structure PI where
  si : Bool
  st : Bool
  tl : Nat
  s6 : Bool
  sh : Nat
  sl : Nat
  d6 : Bool
  dh : Nat
  dl : Nat
  sp : Nat
  dp : Nat
  pr : Nat
  x0 : Nat := 0
  x1 : Nat := 0
  x2 : Nat := 0
  x3 : Nat := 0
  x4 : Nat := 0
  x5 : Nat := 0
  x6 : Nat := 0
  x7 : Nat := 0
  o1 : List UInt8 := []
  o2 : List UInt8 := []
  u0 : Nat := 0
  u1 : Nat := 0
  u2 : Nat := 0
  o3 : List UInt8 := []
  m0 : Nat := 0
  m1 : Nat := 0
  m2 : Nat := 0
  m3 : Nat := 0
  o4 : List UInt8 := []
def PI.zero : PI := { si := false, st := false, tl := 0, s6 := false, sh := 0, sl := 0, d6 := false, dh := 0, dl := 0, sp := 0, dp := 0, pr := 0 }
def PI.fh (p : PI) : List Value := fhC p.si p.st p.tl p.s6 p.sh p.sl p.d6 p.dh p.dl p.sp p.dp p.pr
def PI.cs (p : PI) (A1 : Option Addr) (n1 c1 : Nat) (A2 : Option Addr) (n2 c2 : Nat) (A3 : Option Addr) (n3 c3 : Nat) (A4 : Option Addr) (n4 c4 : Nat) : List Value := inPk p.fh (tcC p.x0 p.x1 p.x2 p.x3 p.x4 p.x5 p.x6 p.x7 A1 n1 c1 A2 n2 c2) (dgX p.u0 p.u1 p.u2 A3 n3 c3) (msgC p.m0 p.m1 p.m2 p.m3 A4 n4 c4)
/-- what a packet is, and why it is none -/
def RetPI (w : World) (p : PI) (why : Int) (e : Ending) (w' : World) : Prop := ∃ A1 n1 c1 A2 n2 c2 A3 n3 c3 A4 n4 c4 bs d, e = .returned (.tuple #[.agg (p.cs A1 n1 c1 A2 n2 c2 A3 n3 c3 A4 n4 c4).toArray, .int .i64 why]) ∧ w' = plus w bs d ∧ Rb (plus w bs d) A1 n1 c1 p.o1 ∧ Rb (plus w bs d) A2 n2 c2 p.o2 ∧ Rb (plus w bs d) A3 n3 c3 p.o3 ∧ Rb (plus w bs d) A4 n4 c4 p.o4 ∧ (∀ a, A1 = some a → w.heap.size ≤ a.block) ∧ (∀ a, A2 = some a → w.heap.size ≤ a.block) ∧ (∀ a, A3 = some a → w.heap.size ≤ a.block) ∧ ∀ a, A4 = some a → w.heap.size ≤ a.block
theorem RetPI.mk {w w' : World} {p : PI} {why : Int} {A1 : Option Addr} {n1 c1 : Nat} {A2 : Option Addr} {n2 c2 : Nat} {A3 : Option Addr} {n3 c3 : Nat} {A4 : Option Addr} {n4 c4 : Nat} (h1 : Rb w' A1 n1 c1 p.o1) (h2 : Rb w' A2 n2 c2 p.o2) (h3 : Rb w' A3 n3 c3 p.o3) (h4 : Rb w' A4 n4 c4 p.o4) (f1 : ∀ a, A1 = some a → w.heap.size ≤ a.block) (f2 : ∀ a, A2 = some a → w.heap.size ≤ a.block) (f3 : ∀ a, A3 = some a → w.heap.size ≤ a.block) (f4 : ∀ a, A4 = some a → w.heap.size ≤ a.block) (hb : Below w.heap.size w w') : RetPI w p why (.returned (.tuple #[.agg (p.cs A1 n1 c1 A2 n2 c2 A3 n3 c3 A4 n4 c4).toArray, .int .i64 why])) w' := by
  obtain ⟨bs, d, rfl⟩ := plus_of hb
  exact ⟨A1, n1, c1, A2, n2, c2, A3, n3, c3, A4, n4, c4, bs, d, rfl, rfl, h1, h2, h3, h4, f1, f2, f3, f4⟩
theorem PI.one (p : PI) (A1 : Option Addr) (n1 c1 : Nat) (A2 : Option Addr) (n2 c2 : Nat) (A3 : Option Addr) (n3 c3 : Nat) (A4 : Option Addr) (n4 c4 : Nat) : ∀ u ∈ p.cs A1 n1 c1 A2 n2 c2 A3 n3 c3 A4 n4 c4, u.oneCell' = true := inPk_one (fhC_one _ _ _ _ _ _ _ _ _ _ _ _) (tcC_one _ _ _ _ _ _ _ _ _ _ _ _ _ _) (dgX_one _ _ _ _ _ _) (msgC_one _ _ _ _ _ _ _)
end Go.Proofs.Ytfmkndemkpecpaa

/- takeTCP, takeUDP, takeICMP (chapter 28). -/
namespace Go.Proofs.Ytfmkndemkpecpaa
open Go.RowKit
set_option linter.unusedVariables false
set_option linter.unusedSimpArgs false
attribute [local go_sem ↓] sliced_cut

attribute [local go_sem] cutA_zero

theorem rowSeg : ∃ d, Try.prog.underlying 47 = some d ∧ d.isRow = true := ⟨_, Try.underlying47, rfl⟩
end Go.Proofs.Ytfmkndemkpecpaa

/- The reference's outer of any bytes (chapter 28). -/
namespace Go.Proofs.Ytfmkndemkpecpaa
open Go.RowKit
set_option linter.unusedVariables false
set_option linter.unusedSimpArgs false
attribute [local go_sem ↓] sliced_cut

attribute [local go_sem] cutA_zero

/-- a head, a load in a new block, a reason -/
def RetOu (w : World) (F : List Value) (load : List UInt8) (why : Int) (e : Ending) (w' : World) : Prop := ∃ A n k bs d, e = .returned (.tuple #[.agg (inPk (F) (tcC 0 0 0 0 0 0 0 0 none 0 0 none 0 0) (dgX 0 0 0 none 0 0) (msgC 0 0 0 0 none 0 0)).toArray, .slice A n k, .int .i64 why]) ∧ w' = plus w bs d ∧ Rb (plus w bs d) A n k load ∧ ∀ a, A = some a → w.heap.size ≤ a.block
theorem RetOu.mk {w w' : World} {F : List Value} {load : List UInt8} {why : Int} {A : Option Addr} {n k : Nat} (h : Rb w' A n k load) (hf : ∀ a, A = some a → w.heap.size ≤ a.block) (hb : Below w.heap.size w w') : RetOu w F load why (.returned (.tuple #[.agg (inPk (F) (tcC 0 0 0 0 0 0 0 0 none 0 0 none 0 0) (dgX 0 0 0 none 0 0) (msgC 0 0 0 0 none 0 0)).toArray, .slice A n k, .int .i64 why])) w' := by
  obtain ⟨bs, d, rfl⟩ := plus_of hb
  exact ⟨A, n, k, bs, d, rfl, rfl, h, hf⟩
def OuR (w : World) (F : List Value) (fr : Bool) (load : List UInt8) (E : Int) (e : Ending) (w' : World) : Prop := if E = 0 then (if fr = true then RetOu w (fhC false false 0 false 0 0 false 0 0 0 0 0) [] 4 e w' else RetOu w F load 0 e w') else RetOu w (fhC false false 0 false 0 0 false 0 0 0 0 0) [] (ofN E) e w'
theorem OuR.ok {w : World} {F : List Value} {load : List UInt8} {e : Ending} {w' : World} (h : RetOu w F load 0 e w') : OuR w F false load 0 e w' := by unfold OuR; rw [if_pos rfl, if_neg (by decide)]; exact h
theorem OuR.err {w : World} {F : List Value} {fr : Bool} {load : List UInt8} {E : Int} {e : Ending} {w' : World} (hE : ¬ E = 0) (h : RetOu w (fhC false false 0 false 0 0 false 0 0 0 0 0) [] (ofN E) e w') : OuR w F fr load E e w' := by unfold OuR; rw [if_neg hE]; exact h
end Go.Proofs.Ytfmkndemkpecpaa

/- What a packet is, on both sides alike; the law PacketReads (chapter 28). -/
namespace Go.Proofs.Ytfmkndemkpecpaa
open Go.RowKit
set_option linter.unusedVariables false
set_option linter.unusedSimpArgs false
attribute [local go_sem ↓] sliced_cut

attribute [local go_sem] cutA_zero

set_option maxRecDepth 100000 in
theorem eq_flC (w : World) (s6 : Bool) (sh sl : Nat) (d6 : Bool) (dh dl sp dp pr : Nat) : (binOp .eql 29 (.agg (flC s6 sh sl d6 dh dl sp dp pr).toArray) (.agg (flC s6 sh sl d6 dh dl sp dp pr).toArray)).run Try.prog w = .ok (.bool true) w := by
  unfold flC
  go_simp
attribute [local go_sem ↓] eq_flC

end Go.Proofs.Ytfmkndemkpecpaa

/- Segments: Right, Bytes, and their references. -/
namespace Go.Proofs.Ytfmkndemkpecpaa
open Go.RowKit
set_option linter.unusedVariables false
set_option linter.unusedSimpArgs false
attribute [local go_sem ↓] sliced_cut

attribute [local go_sem] cutA_zero

/-- the bytes of a segment; hb0: the byte of the header's size -/
def tcpB (a b c d hb0 f wi sm ur : Nat) (l l2 : List UInt8) : List UInt8 := ([(dig (a) 2), (dig (b) 2), (dig (c) 4), (dig (d) 4), [UInt8.ofNat (hb0), UInt8.ofNat (f)], (dig (wi) 2), (dig (sm) 2), (dig (ur) 2), l, l2]).flatten
set_option maxHeartbeats 4000000 in
set_option maxRecDepth 100000 in
theorem refTcpBytes_any (a b c d f wi sm ur : Nat) (A : Option Addr) (n k : Nat) (A2 : Option Addr) (n2 k2 : Nat) (l l2 : List UInt8) (w : World) (ha : a < 65536) (hb : b < 65536) (hc : c < 4294967296) (hd : d < 4294967296) (hf : f < 256) (hwi : wi < 65536) (hsm : sm < 65536) (hur : ur < 65536) (h : Rb w A n k l) (h2 : Rb w A2 n2 k2 l2) (hn : n ≤ 40) (hn2 : n2 ≤ 100000) : Calls Try.prog 74 #[.agg #[.int .u16 (a : Int), .int .u16 (b : Int), .int .u32 (c : Int), .int .u32 (d : Int), .int .u8 (f : Int), .int .u16 (wi : Int), .int .u16 (sm : Int), .int .u16 (ur : Int), .slice A n k, .slice A2 n2 k2]] w (RetB w (tcpB a b c d (80 + n / 4 * 16) f wi sm ur l l2)) := by
  obtain ⟨q4, hq4⟩ : ∃ q, q = n / 4 := ⟨_, rfl⟩
  obtain ⟨q16, hq16⟩ : ∃ q, q = q4 * 16 := ⟨_, rfl⟩
  obtain ⟨hb0, hhb⟩ : ∃ q, q = 80 + q16 := ⟨_, rfl⟩
  have hlb : hb0 < 256 := by omega
  rw [← hq4, ← hq16, ← hhb]
  have HT : ([(dig (a) 2), (dig (b) 2), (dig (c) 4), (dig (d) 4), [UInt8.ofNat (hb0), UInt8.ofNat (f)], (dig (wi) 2), (dig (sm) 2), (dig (ur) 2), l, l2]).flatten.length ≤ 549755813888 := by simp [dig_length, h.1, h2.1]; omega
  replace HT := Lib.hid HT
  have f1 : ((n : Int)).tdiv 4 = (q4 : Int) := by rw [Int.tdiv_eq_ediv_of_nonneg (by omega)]; omega
  have f2 : IntKind.i64.wrap (q4 : Int) = (q4 : Int) := IntWalk.i64_in _ (by omega)
  have f3 : IntKind.i64.wrap ((q4 : Int) * 16) = (q16 : Int) := by rw [IntWalk.i64_in _ (by omega)]; omega
  have f4 : IntKind.i64.wrap (80 + (q16 : Int)) = (hb0 : Int) := by rw [IntWalk.i64_in _ (by omega)]; omega
  have g0 : IntKind.u64.wrap (a : Int) = (a : Int) := IntWalk.u64_in _ (by omega)
  have g1 : IntKind.u64.wrap (b : Int) = (b : Int) := IntWalk.u64_in _ (by omega)
  have g2 : IntKind.u64.wrap (c : Int) = (c : Int) := IntWalk.u64_in _ (by omega)
  have g3 : IntKind.u64.wrap (d : Int) = (d : Int) := IntWalk.u64_in _ (by omega)
  have g4 : IntKind.u8.wrap (hb0 : Int) = (hb0 : Int) := IntWalk.u8_in _ (by omega)
  have g5 : IntKind.u64.wrap (wi : Int) = (wi : Int) := IntWalk.u64_in _ (by omega)
  have g6 : IntKind.u64.wrap (sm : Int) = (sm : Int) := IntWalk.u64_in _ (by omega)
  have g7 : IntKind.u64.wrap (ur : Int) = (ur : Int) := IntWalk.u64_in _ (by omega)
  clear hq4 hq16 hhb
  go_enter Try.func74, Try.ntmps74
  go_wp2
  refine wp_rel 45 47 rfl (by kernel_rfl) (by kernel_rfl) (fun i => match i with | 0 => MP.eq (.pointer (some ⟨w.heap.size, 0, none⟩)) | 1 => MP.eq (.int .u16 (a : Int)) | 2 => MP.eq (.int .u64 (a : Int)) | 3 => MP.rb (dig (a) 2) | 4 => MP.eq (.pointer (some ⟨w.heap.size, 1, none⟩)) | 5 => MP.eq (.int .u16 (b : Int)) | 6 => MP.eq (.int .u64 (b : Int)) | 7 => MP.rb (dig (b) 2) | 8 => MP.eq (.pointer (some ⟨w.heap.size, 2, none⟩)) | 9 => MP.eq (.int .u32 (c : Int)) | 10 => MP.eq (.int .u64 (c : Int)) | 11 => MP.rb (dig (c) 4) | 12 => MP.eq (.pointer (some ⟨w.heap.size, 3, none⟩)) | 13 => MP.eq (.int .u32 (d : Int)) | 14 => MP.eq (.int .u64 (d : Int)) | 15 => MP.rb (dig (d) 4) | 16 => MP.eq (.pointer (some ⟨w.heap.size, 8, none⟩)) | 17 => MP.eq (.slice A n k) | 18 => MP.eq (.int .i64 (n : Int)) | 19 => MP.eq (.int .i64 (q4 : Int)) | 20 => MP.eq (.int .i64 (q16 : Int)) | 21 => MP.eq (.int .i64 (hb0 : Int)) | 22 => MP.eq (.int .u8 (hb0 : Int)) | 23 => MP.eq (.pointer (some ⟨w.heap.size, 4, none⟩)) | 24 => MP.eq (.int .u8 (f : Int)) | 25 => MP.rb [UInt8.ofNat (hb0), UInt8.ofNat (f)] | 26 => MP.eq (.pointer (some ⟨w.heap.size, 5, none⟩)) | 27 => MP.eq (.int .u16 (wi : Int)) | 28 => MP.eq (.int .u64 (wi : Int)) | 29 => MP.rb (dig (wi) 2) | 30 => MP.eq (.pointer (some ⟨w.heap.size, 6, none⟩)) | 31 => MP.eq (.int .u16 (sm : Int)) | 32 => MP.eq (.int .u64 (sm : Int)) | 33 => MP.rb (dig (sm) 2) | 34 => MP.eq (.pointer (some ⟨w.heap.size, 7, none⟩)) | 35 => MP.eq (.int .u16 (ur : Int)) | 36 => MP.eq (.int .u64 (ur : Int)) | 37 => MP.rb (dig (ur) 2) | 38 => MP.eq (.pointer (some ⟨w.heap.size, 8, none⟩)) | 39 => MP.eq (.slice A n k) | 40 => MP.eq (.pointer (some ⟨w.heap.size, 9, none⟩)) | 41 => MP.eq (.slice A2 n2 k2) | 42 => MP.rdl [(dig (a) 2), (dig (b) 2), (dig (c) 4), (dig (d) 4), [UInt8.ofNat (hb0), UInt8.ofNat (f)], (dig (wi) 2), (dig (sm) 2), (dig (ur) 2), l, l2] | 43 => MP.ob w.heap.size ([(dig (a) 2), (dig (b) 2), (dig (c) 4), (dig (d) 4), [UInt8.ofNat (hb0), UInt8.ofNat (f)], (dig (wi) 2), (dig (sm) 2), (dig (ur) 2), l, l2]).flatten | 44 => MP.ob w.heap.size ([(dig (a) 2), (dig (b) 2), (dig (c) 4), (dig (d) 4), [UInt8.ofNat (hb0), UInt8.ofNat (f)], (dig (wi) 2), (dig (sm) 2), (dig (ur) 2), l, l2]).flatten | _ => MP.any) ?_ ?_
  · intro i hi o ho FA x hO hD K hK
    match i, hi, ho, hO, hD, hK with
    | 0, _, ho, hO, hD, hK => 
      obtain rfl := Option.some.inj ho.symm
      clear ho
      have ev1 : FA.eval (.tmp 1) = .pointer (some ⟨w.heap.size, 0, none⟩) := hO 1 (by kernel_rfl)
      have e1 : FA.tmps[1]?.getD undef = .pointer (some ⟨w.heap.size, 0, none⟩) := by simpa [Act.eval] using ev1
      replace ev1 := Lib.hid ev1
      clear hO hD
      go_simp
      exact hK.out _ _ (Ex.refl _) rfl
    | 1, _, ho, hO, hD, hK => 
      obtain rfl := Option.some.inj ho.symm
      clear ho
      have ev3 : FA.eval (.tmp 3) = .pointer (some ⟨w.heap.size, 0, none⟩) := hD 0 3 (by kernel_rfl)
      have e3 : FA.tmps[3]?.getD undef = .pointer (some ⟨w.heap.size, 0, none⟩) := by simpa [Act.eval] using ev3
      replace ev3 := Lib.hid ev3
      clear hO hD
      go_simp
      exact hK.out _ _ (Ex.refl _) rfl
    | 2, _, ho, hO, hD, hK => 
      obtain rfl := Option.some.inj ho.symm
      clear ho
      have ev4 : FA.eval (.tmp 4) = .int .u16 (a : Int) := hD 1 4 (by kernel_rfl)
      have e4 : FA.tmps[4]?.getD undef = .int .u16 (a : Int) := by simpa [Act.eval] using ev4
      replace ev4 := Lib.hid ev4
      clear hO hD
      go_simp
      exact hK.out _ _ (Ex.refl _) rfl
    | 3, _, ho, hO, hD, hK => 
      obtain rfl := Option.some.inj ho.symm
      clear ho
      have ev5 : FA.eval (.tmp 5) = .int .u64 (a : Int) := hD 2 5 (by kernel_rfl)
      have e5 : FA.tmps[5]?.getD undef = .int .u64 (a : Int) := by simpa [Act.eval] using ev5
      replace ev5 := Lib.hid ev5
      clear hO hD
      go_simp
      refine (refBytes_any (a) 2 _ (by omega) (by omega)).mono ?_
      rintro e w1 ⟨A2, n2, c2, bs2, d2, rfl, rfl, ho2⟩
      exact hK.out _ _ (Ex.plus_ _ _ _) ⟨_, _, _, rfl, ho2.rb⟩
    | 4, _, ho, hO, hD, hK => 
      obtain rfl := Option.some.inj ho.symm
      clear ho
      have ev1 : FA.eval (.tmp 1) = .pointer (some ⟨w.heap.size, 0, none⟩) := hO 1 (by kernel_rfl)
      have e1 : FA.tmps[1]?.getD undef = .pointer (some ⟨w.heap.size, 0, none⟩) := by simpa [Act.eval] using ev1
      replace ev1 := Lib.hid ev1
      clear hO hD
      go_simp
      exact hK.out _ _ (Ex.refl _) rfl
    | 5, _, ho, hO, hD, hK => 
      obtain rfl := Option.some.inj ho.symm
      clear ho
      have ev7 : FA.eval (.tmp 7) = .pointer (some ⟨w.heap.size, 1, none⟩) := hD 4 7 (by kernel_rfl)
      have e7 : FA.tmps[7]?.getD undef = .pointer (some ⟨w.heap.size, 1, none⟩) := by simpa [Act.eval] using ev7
      replace ev7 := Lib.hid ev7
      clear hO hD
      go_simp
      exact hK.out _ _ (Ex.refl _) rfl
    | 6, _, ho, hO, hD, hK => 
      obtain rfl := Option.some.inj ho.symm
      clear ho
      have ev8 : FA.eval (.tmp 8) = .int .u16 (b : Int) := hD 5 8 (by kernel_rfl)
      have e8 : FA.tmps[8]?.getD undef = .int .u16 (b : Int) := by simpa [Act.eval] using ev8
      replace ev8 := Lib.hid ev8
      clear hO hD
      go_simp
      exact hK.out _ _ (Ex.refl _) rfl
    | 7, _, ho, hO, hD, hK => 
      obtain rfl := Option.some.inj ho.symm
      clear ho
      have ev9 : FA.eval (.tmp 9) = .int .u64 (b : Int) := hD 6 9 (by kernel_rfl)
      have e9 : FA.tmps[9]?.getD undef = .int .u64 (b : Int) := by simpa [Act.eval] using ev9
      replace ev9 := Lib.hid ev9
      clear hO hD
      go_simp
      refine (refBytes_any (b) 2 _ (by omega) (by omega)).mono ?_
      rintro e w1 ⟨A2, n2, c2, bs2, d2, rfl, rfl, ho2⟩
      exact hK.out _ _ (Ex.plus_ _ _ _) ⟨_, _, _, rfl, ho2.rb⟩
    | 8, _, ho, hO, hD, hK => 
      obtain rfl := Option.some.inj ho.symm
      clear ho
      have ev1 : FA.eval (.tmp 1) = .pointer (some ⟨w.heap.size, 0, none⟩) := hO 1 (by kernel_rfl)
      have e1 : FA.tmps[1]?.getD undef = .pointer (some ⟨w.heap.size, 0, none⟩) := by simpa [Act.eval] using ev1
      replace ev1 := Lib.hid ev1
      clear hO hD
      go_simp
      exact hK.out _ _ (Ex.refl _) rfl
    | 9, _, ho, hO, hD, hK => 
      obtain rfl := Option.some.inj ho.symm
      clear ho
      have ev11 : FA.eval (.tmp 11) = .pointer (some ⟨w.heap.size, 2, none⟩) := hD 8 11 (by kernel_rfl)
      have e11 : FA.tmps[11]?.getD undef = .pointer (some ⟨w.heap.size, 2, none⟩) := by simpa [Act.eval] using ev11
      replace ev11 := Lib.hid ev11
      clear hO hD
      go_simp
      exact hK.out _ _ (Ex.refl _) rfl
    | 10, _, ho, hO, hD, hK => 
      obtain rfl := Option.some.inj ho.symm
      clear ho
      have ev12 : FA.eval (.tmp 12) = .int .u32 (c : Int) := hD 9 12 (by kernel_rfl)
      have e12 : FA.tmps[12]?.getD undef = .int .u32 (c : Int) := by simpa [Act.eval] using ev12
      replace ev12 := Lib.hid ev12
      clear hO hD
      go_simp
      exact hK.out _ _ (Ex.refl _) rfl
    | 11, _, ho, hO, hD, hK => 
      obtain rfl := Option.some.inj ho.symm
      clear ho
      have ev13 : FA.eval (.tmp 13) = .int .u64 (c : Int) := hD 10 13 (by kernel_rfl)
      have e13 : FA.tmps[13]?.getD undef = .int .u64 (c : Int) := by simpa [Act.eval] using ev13
      replace ev13 := Lib.hid ev13
      clear hO hD
      go_simp
      refine (refBytes_any (c) 4 _ (by omega) (by omega)).mono ?_
      rintro e w1 ⟨A2, n2, c2, bs2, d2, rfl, rfl, ho2⟩
      exact hK.out _ _ (Ex.plus_ _ _ _) ⟨_, _, _, rfl, ho2.rb⟩
    | 12, _, ho, hO, hD, hK => 
      obtain rfl := Option.some.inj ho.symm
      clear ho
      have ev1 : FA.eval (.tmp 1) = .pointer (some ⟨w.heap.size, 0, none⟩) := hO 1 (by kernel_rfl)
      have e1 : FA.tmps[1]?.getD undef = .pointer (some ⟨w.heap.size, 0, none⟩) := by simpa [Act.eval] using ev1
      replace ev1 := Lib.hid ev1
      clear hO hD
      go_simp
      exact hK.out _ _ (Ex.refl _) rfl
    | 13, _, ho, hO, hD, hK => 
      obtain rfl := Option.some.inj ho.symm
      clear ho
      have ev15 : FA.eval (.tmp 15) = .pointer (some ⟨w.heap.size, 3, none⟩) := hD 12 15 (by kernel_rfl)
      have e15 : FA.tmps[15]?.getD undef = .pointer (some ⟨w.heap.size, 3, none⟩) := by simpa [Act.eval] using ev15
      replace ev15 := Lib.hid ev15
      clear hO hD
      go_simp
      exact hK.out _ _ (Ex.refl _) rfl
    | 14, _, ho, hO, hD, hK => 
      obtain rfl := Option.some.inj ho.symm
      clear ho
      have ev16 : FA.eval (.tmp 16) = .int .u32 (d : Int) := hD 13 16 (by kernel_rfl)
      have e16 : FA.tmps[16]?.getD undef = .int .u32 (d : Int) := by simpa [Act.eval] using ev16
      replace ev16 := Lib.hid ev16
      clear hO hD
      go_simp
      exact hK.out _ _ (Ex.refl _) rfl
    | 15, _, ho, hO, hD, hK => 
      obtain rfl := Option.some.inj ho.symm
      clear ho
      have ev17 : FA.eval (.tmp 17) = .int .u64 (d : Int) := hD 14 17 (by kernel_rfl)
      have e17 : FA.tmps[17]?.getD undef = .int .u64 (d : Int) := by simpa [Act.eval] using ev17
      replace ev17 := Lib.hid ev17
      clear hO hD
      go_simp
      refine (refBytes_any (d) 4 _ (by omega) (by omega)).mono ?_
      rintro e w1 ⟨A2, n2, c2, bs2, d2, rfl, rfl, ho2⟩
      exact hK.out _ _ (Ex.plus_ _ _ _) ⟨_, _, _, rfl, ho2.rb⟩
    | 16, _, ho, hO, hD, hK => 
      obtain rfl := Option.some.inj ho.symm
      clear ho
      have ev1 : FA.eval (.tmp 1) = .pointer (some ⟨w.heap.size, 0, none⟩) := hO 1 (by kernel_rfl)
      have e1 : FA.tmps[1]?.getD undef = .pointer (some ⟨w.heap.size, 0, none⟩) := by simpa [Act.eval] using ev1
      replace ev1 := Lib.hid ev1
      clear hO hD
      go_simp
      exact hK.out _ _ (Ex.refl _) rfl
    | 17, _, ho, hO, hD, hK => 
      obtain rfl := Option.some.inj ho.symm
      clear ho
      have ev19 : FA.eval (.tmp 19) = .pointer (some ⟨w.heap.size, 8, none⟩) := hD 16 19 (by kernel_rfl)
      have e19 : FA.tmps[19]?.getD undef = .pointer (some ⟨w.heap.size, 8, none⟩) := by simpa [Act.eval] using ev19
      replace ev19 := Lib.hid ev19
      clear hO hD
      go_simp
      exact hK.out _ _ (Ex.refl _) rfl
    | 18, _, ho, hO, hD, hK => 
      obtain rfl := Option.some.inj ho.symm
      clear ho
      have ev20 : FA.eval (.tmp 20) = .slice A n k := hD 17 20 (by kernel_rfl)
      have e20 : FA.tmps[20]?.getD undef = .slice A n k := by simpa [Act.eval] using ev20
      replace ev20 := Lib.hid ev20
      clear hO hD
      go_simp
      exact hK.out _ _ (Ex.refl _) rfl
    | 19, _, ho, hO, hD, hK => 
      obtain rfl := Option.some.inj ho.symm
      clear ho
      have ev21 : FA.eval (.tmp 21) = .int .i64 (n : Int) := hD 18 21 (by kernel_rfl)
      have e21 : FA.tmps[21]?.getD undef = .int .i64 (n : Int) := by simpa [Act.eval] using ev21
      replace ev21 := Lib.hid ev21
      clear hO hD
      go_simp
      exact hK.out _ _ (Ex.refl _) rfl
    | 20, _, ho, hO, hD, hK => 
      obtain rfl := Option.some.inj ho.symm
      clear ho
      have ev22 : FA.eval (.tmp 22) = .int .i64 (q4 : Int) := hD 19 22 (by kernel_rfl)
      have e22 : FA.tmps[22]?.getD undef = .int .i64 (q4 : Int) := by simpa [Act.eval] using ev22
      replace ev22 := Lib.hid ev22
      clear hO hD
      go_simp
      exact hK.out _ _ (Ex.refl _) rfl
    | 21, _, ho, hO, hD, hK => 
      obtain rfl := Option.some.inj ho.symm
      clear ho
      have ev23 : FA.eval (.tmp 23) = .int .i64 (q16 : Int) := hD 20 23 (by kernel_rfl)
      have e23 : FA.tmps[23]?.getD undef = .int .i64 (q16 : Int) := by simpa [Act.eval] using ev23
      replace ev23 := Lib.hid ev23
      clear hO hD
      go_simp
      exact hK.out _ _ (Ex.refl _) rfl
    | 22, _, ho, hO, hD, hK => 
      obtain rfl := Option.some.inj ho.symm
      clear ho
      have ev24 : FA.eval (.tmp 24) = .int .i64 (hb0 : Int) := hD 21 24 (by kernel_rfl)
      have e24 : FA.tmps[24]?.getD undef = .int .i64 (hb0 : Int) := by simpa [Act.eval] using ev24
      replace ev24 := Lib.hid ev24
      clear hO hD
      go_simp
      exact hK.out _ _ (Ex.refl _) rfl
    | 23, _, ho, hO, hD, hK => 
      obtain rfl := Option.some.inj ho.symm
      clear ho
      have ev1 : FA.eval (.tmp 1) = .pointer (some ⟨w.heap.size, 0, none⟩) := hO 1 (by kernel_rfl)
      have e1 : FA.tmps[1]?.getD undef = .pointer (some ⟨w.heap.size, 0, none⟩) := by simpa [Act.eval] using ev1
      replace ev1 := Lib.hid ev1
      clear hO hD
      go_simp
      exact hK.out _ _ (Ex.refl _) rfl
    | 24, _, ho, hO, hD, hK => 
      obtain rfl := Option.some.inj ho.symm
      clear ho
      have ev26 : FA.eval (.tmp 26) = .pointer (some ⟨w.heap.size, 4, none⟩) := hD 23 26 (by kernel_rfl)
      have e26 : FA.tmps[26]?.getD undef = .pointer (some ⟨w.heap.size, 4, none⟩) := by simpa [Act.eval] using ev26
      replace ev26 := Lib.hid ev26
      clear hO hD
      go_simp
      exact hK.out _ _ (Ex.refl _) rfl
    | 25, _, ho, hO, hD, hK => 
      obtain rfl := Option.some.inj ho.symm
      clear ho
      have ev25 : FA.eval (.tmp 25) = .int .u8 (hb0 : Int) := hD 22 25 (by kernel_rfl)
      have e25 : FA.tmps[25]?.getD undef = .int .u8 (hb0 : Int) := by simpa [Act.eval] using ev25
      replace ev25 := Lib.hid ev25
      have ev27 : FA.eval (.tmp 27) = .int .u8 (f : Int) := hD 24 27 (by kernel_rfl)
      have e27 : FA.tmps[27]?.getD undef = .int .u8 (f : Int) := by simpa [Act.eval] using ev27
      replace ev27 := Lib.hid ev27
      clear hO hD
      go_simp
      refine hK.out _ _ (Ex.alloc _ _) ⟨_, _, _, rfl, ?_⟩
      refine Rb.litW _ [UInt8.ofNat (hb0), UInt8.ofNat (f)] ?_ rfl (by decide) ?_
      · simp [size_plus]
      · simp [bcs]; try omega
    | 26, _, ho, hO, hD, hK => 
      obtain rfl := Option.some.inj ho.symm
      clear ho
      have ev1 : FA.eval (.tmp 1) = .pointer (some ⟨w.heap.size, 0, none⟩) := hO 1 (by kernel_rfl)
      have e1 : FA.tmps[1]?.getD undef = .pointer (some ⟨w.heap.size, 0, none⟩) := by simpa [Act.eval] using ev1
      replace ev1 := Lib.hid ev1
      clear hO hD
      go_simp
      exact hK.out _ _ (Ex.refl _) rfl
    | 27, _, ho, hO, hD, hK => 
      obtain rfl := Option.some.inj ho.symm
      clear ho
      have ev29 : FA.eval (.tmp 29) = .pointer (some ⟨w.heap.size, 5, none⟩) := hD 26 29 (by kernel_rfl)
      have e29 : FA.tmps[29]?.getD undef = .pointer (some ⟨w.heap.size, 5, none⟩) := by simpa [Act.eval] using ev29
      replace ev29 := Lib.hid ev29
      clear hO hD
      go_simp
      exact hK.out _ _ (Ex.refl _) rfl
    | 28, _, ho, hO, hD, hK => 
      obtain rfl := Option.some.inj ho.symm
      clear ho
      have ev30 : FA.eval (.tmp 30) = .int .u16 (wi : Int) := hD 27 30 (by kernel_rfl)
      have e30 : FA.tmps[30]?.getD undef = .int .u16 (wi : Int) := by simpa [Act.eval] using ev30
      replace ev30 := Lib.hid ev30
      clear hO hD
      go_simp
      exact hK.out _ _ (Ex.refl _) rfl
    | 29, _, ho, hO, hD, hK => 
      obtain rfl := Option.some.inj ho.symm
      clear ho
      have ev31 : FA.eval (.tmp 31) = .int .u64 (wi : Int) := hD 28 31 (by kernel_rfl)
      have e31 : FA.tmps[31]?.getD undef = .int .u64 (wi : Int) := by simpa [Act.eval] using ev31
      replace ev31 := Lib.hid ev31
      clear hO hD
      go_simp
      refine (refBytes_any (wi) 2 _ (by omega) (by omega)).mono ?_
      rintro e w1 ⟨A2, n2, c2, bs2, d2, rfl, rfl, ho2⟩
      exact hK.out _ _ (Ex.plus_ _ _ _) ⟨_, _, _, rfl, ho2.rb⟩
    | 30, _, ho, hO, hD, hK => 
      obtain rfl := Option.some.inj ho.symm
      clear ho
      have ev1 : FA.eval (.tmp 1) = .pointer (some ⟨w.heap.size, 0, none⟩) := hO 1 (by kernel_rfl)
      have e1 : FA.tmps[1]?.getD undef = .pointer (some ⟨w.heap.size, 0, none⟩) := by simpa [Act.eval] using ev1
      replace ev1 := Lib.hid ev1
      clear hO hD
      go_simp
      exact hK.out _ _ (Ex.refl _) rfl
    | 31, _, ho, hO, hD, hK => 
      obtain rfl := Option.some.inj ho.symm
      clear ho
      have ev33 : FA.eval (.tmp 33) = .pointer (some ⟨w.heap.size, 6, none⟩) := hD 30 33 (by kernel_rfl)
      have e33 : FA.tmps[33]?.getD undef = .pointer (some ⟨w.heap.size, 6, none⟩) := by simpa [Act.eval] using ev33
      replace ev33 := Lib.hid ev33
      clear hO hD
      go_simp
      exact hK.out _ _ (Ex.refl _) rfl
    | 32, _, ho, hO, hD, hK => 
      obtain rfl := Option.some.inj ho.symm
      clear ho
      have ev34 : FA.eval (.tmp 34) = .int .u16 (sm : Int) := hD 31 34 (by kernel_rfl)
      have e34 : FA.tmps[34]?.getD undef = .int .u16 (sm : Int) := by simpa [Act.eval] using ev34
      replace ev34 := Lib.hid ev34
      clear hO hD
      go_simp
      exact hK.out _ _ (Ex.refl _) rfl
    | 33, _, ho, hO, hD, hK => 
      obtain rfl := Option.some.inj ho.symm
      clear ho
      have ev35 : FA.eval (.tmp 35) = .int .u64 (sm : Int) := hD 32 35 (by kernel_rfl)
      have e35 : FA.tmps[35]?.getD undef = .int .u64 (sm : Int) := by simpa [Act.eval] using ev35
      replace ev35 := Lib.hid ev35
      clear hO hD
      go_simp
      refine (refBytes_any (sm) 2 _ (by omega) (by omega)).mono ?_
      rintro e w1 ⟨A2, n2, c2, bs2, d2, rfl, rfl, ho2⟩
      exact hK.out _ _ (Ex.plus_ _ _ _) ⟨_, _, _, rfl, ho2.rb⟩
    | 34, _, ho, hO, hD, hK => 
      obtain rfl := Option.some.inj ho.symm
      clear ho
      have ev1 : FA.eval (.tmp 1) = .pointer (some ⟨w.heap.size, 0, none⟩) := hO 1 (by kernel_rfl)
      have e1 : FA.tmps[1]?.getD undef = .pointer (some ⟨w.heap.size, 0, none⟩) := by simpa [Act.eval] using ev1
      replace ev1 := Lib.hid ev1
      clear hO hD
      go_simp
      exact hK.out _ _ (Ex.refl _) rfl
    | 35, _, ho, hO, hD, hK => 
      obtain rfl := Option.some.inj ho.symm
      clear ho
      have ev37 : FA.eval (.tmp 37) = .pointer (some ⟨w.heap.size, 7, none⟩) := hD 34 37 (by kernel_rfl)
      have e37 : FA.tmps[37]?.getD undef = .pointer (some ⟨w.heap.size, 7, none⟩) := by simpa [Act.eval] using ev37
      replace ev37 := Lib.hid ev37
      clear hO hD
      go_simp
      exact hK.out _ _ (Ex.refl _) rfl
    | 36, _, ho, hO, hD, hK => 
      obtain rfl := Option.some.inj ho.symm
      clear ho
      have ev38 : FA.eval (.tmp 38) = .int .u16 (ur : Int) := hD 35 38 (by kernel_rfl)
      have e38 : FA.tmps[38]?.getD undef = .int .u16 (ur : Int) := by simpa [Act.eval] using ev38
      replace ev38 := Lib.hid ev38
      clear hO hD
      go_simp
      exact hK.out _ _ (Ex.refl _) rfl
    | 37, _, ho, hO, hD, hK => 
      obtain rfl := Option.some.inj ho.symm
      clear ho
      have ev39 : FA.eval (.tmp 39) = .int .u64 (ur : Int) := hD 36 39 (by kernel_rfl)
      have e39 : FA.tmps[39]?.getD undef = .int .u64 (ur : Int) := by simpa [Act.eval] using ev39
      replace ev39 := Lib.hid ev39
      clear hO hD
      go_simp
      refine (refBytes_any (ur) 2 _ (by omega) (by omega)).mono ?_
      rintro e w1 ⟨A2, n2, c2, bs2, d2, rfl, rfl, ho2⟩
      exact hK.out _ _ (Ex.plus_ _ _ _) ⟨_, _, _, rfl, ho2.rb⟩
    | 38, _, ho, hO, hD, hK => 
      obtain rfl := Option.some.inj ho.symm
      clear ho
      have ev1 : FA.eval (.tmp 1) = .pointer (some ⟨w.heap.size, 0, none⟩) := hO 1 (by kernel_rfl)
      have e1 : FA.tmps[1]?.getD undef = .pointer (some ⟨w.heap.size, 0, none⟩) := by simpa [Act.eval] using ev1
      replace ev1 := Lib.hid ev1
      clear hO hD
      go_simp
      exact hK.out _ _ (Ex.refl _) rfl
    | 39, _, ho, hO, hD, hK => 
      obtain rfl := Option.some.inj ho.symm
      clear ho
      have ev41 : FA.eval (.tmp 41) = .pointer (some ⟨w.heap.size, 8, none⟩) := hD 38 41 (by kernel_rfl)
      have e41 : FA.tmps[41]?.getD undef = .pointer (some ⟨w.heap.size, 8, none⟩) := by simpa [Act.eval] using ev41
      replace ev41 := Lib.hid ev41
      clear hO hD
      go_simp
      exact hK.out _ _ (Ex.refl _) rfl
    | 40, _, ho, hO, hD, hK => 
      obtain rfl := Option.some.inj ho.symm
      clear ho
      have ev1 : FA.eval (.tmp 1) = .pointer (some ⟨w.heap.size, 0, none⟩) := hO 1 (by kernel_rfl)
      have e1 : FA.tmps[1]?.getD undef = .pointer (some ⟨w.heap.size, 0, none⟩) := by simpa [Act.eval] using ev1
      replace ev1 := Lib.hid ev1
      clear hO hD
      go_simp
      exact hK.out _ _ (Ex.refl _) rfl
    | 41, _, ho, hO, hD, hK => 
      obtain rfl := Option.some.inj ho.symm
      clear ho
      have ev43 : FA.eval (.tmp 43) = .pointer (some ⟨w.heap.size, 9, none⟩) := hD 40 43 (by kernel_rfl)
      have e43 : FA.tmps[43]?.getD undef = .pointer (some ⟨w.heap.size, 9, none⟩) := by simpa [Act.eval] using ev43
      replace ev43 := Lib.hid ev43
      clear hO hD
      go_simp
      exact hK.out _ _ (Ex.refl _) rfl
    | 42, _, ho, hO, hD, hK => 
      obtain rfl := Option.some.inj ho.symm
      clear ho
      have f6 := hD 3 6 (by kernel_rfl)
      generalize eu6 : FA.eval (.tmp 6) = u6 at f6
      have e6 : FA.tmps[6]?.getD undef = u6 := by rw [← eu6]; simp [Act.eval]
      have ev6 := Lib.hid eu6
      clear eu6
      have f10 := hD 7 10 (by kernel_rfl)
      generalize eu10 : FA.eval (.tmp 10) = u10 at f10
      have e10 : FA.tmps[10]?.getD undef = u10 := by rw [← eu10]; simp [Act.eval]
      have ev10 := Lib.hid eu10
      clear eu10
      have f14 := hD 11 14 (by kernel_rfl)
      generalize eu14 : FA.eval (.tmp 14) = u14 at f14
      have e14 : FA.tmps[14]?.getD undef = u14 := by rw [← eu14]; simp [Act.eval]
      have ev14 := Lib.hid eu14
      clear eu14
      have f18 := hD 15 18 (by kernel_rfl)
      generalize eu18 : FA.eval (.tmp 18) = u18 at f18
      have e18 : FA.tmps[18]?.getD undef = u18 := by rw [← eu18]; simp [Act.eval]
      have ev18 := Lib.hid eu18
      clear eu18
      have f28 := hD 25 28 (by kernel_rfl)
      generalize eu28 : FA.eval (.tmp 28) = u28 at f28
      have e28 : FA.tmps[28]?.getD undef = u28 := by rw [← eu28]; simp [Act.eval]
      have ev28 := Lib.hid eu28
      clear eu28
      have f32 := hD 29 32 (by kernel_rfl)
      generalize eu32 : FA.eval (.tmp 32) = u32 at f32
      have e32 : FA.tmps[32]?.getD undef = u32 := by rw [← eu32]; simp [Act.eval]
      have ev32 := Lib.hid eu32
      clear eu32
      have f36 := hD 33 36 (by kernel_rfl)
      generalize eu36 : FA.eval (.tmp 36) = u36 at f36
      have e36 : FA.tmps[36]?.getD undef = u36 := by rw [← eu36]; simp [Act.eval]
      have ev36 := Lib.hid eu36
      clear eu36
      have f40 := hD 37 40 (by kernel_rfl)
      generalize eu40 : FA.eval (.tmp 40) = u40 at f40
      have e40 : FA.tmps[40]?.getD undef = u40 := by rw [← eu40]; simp [Act.eval]
      have ev40 := Lib.hid eu40
      clear eu40
      have ev42 : FA.eval (.tmp 42) = .slice A n k := hD 39 42 (by kernel_rfl)
      have e42 : FA.tmps[42]?.getD undef = .slice A n k := by simpa [Act.eval] using ev42
      replace ev42 := Lib.hid ev42
      have ev44 : FA.eval (.tmp 44) = .slice A2 n2 k2 := hD 41 44 (by kernel_rfl)
      have e44 : FA.tmps[44]?.getD undef = .slice A2 n2 k2 := by simpa [Act.eval] using ev44
      replace ev44 := Lib.hid ev44
      clear hO hD
      obtain ⟨A6, n6, c6, rfl, h6⟩ := f6
      obtain ⟨A10, n10, c10, rfl, h10⟩ := f10
      obtain ⟨A14, n14, c14, rfl, h14⟩ := f14
      obtain ⟨A18, n18, c18, rfl, h18⟩ := f18
      obtain ⟨A28, n28, c28, rfl, h28⟩ := f28
      obtain ⟨A32, n32, c32, rfl, h32⟩ := f32
      obtain ⟨A36, n36, c36, rfl, h36⟩ := f36
      obtain ⟨A40, n40, c40, rfl, h40⟩ := f40
      go_simp
      refine hK.out _ _ (Ex.alloc _ _) ⟨_, _, _, rfl, ?_⟩
      refine RdL.litW _ _ ?_ ?_
      · simp [size_plus]
      · exact .cons ⟨_, _, _, rfl, h6⟩ (.cons ⟨_, _, _, rfl, h10⟩ (.cons ⟨_, _, _, rfl, h14⟩ (.cons ⟨_, _, _, rfl, h18⟩ (.cons ⟨_, _, _, rfl, h28⟩ (.cons ⟨_, _, _, rfl, h32⟩ (.cons ⟨_, _, _, rfl, h36⟩ (.cons ⟨_, _, _, rfl, h40⟩ (.cons ⟨_, _, _, rfl, (h.alloc _).plus_ _ _⟩ (.cons ⟨_, _, _, rfl, (h2.alloc _).plus_ _ _⟩ (.nil))))))))))
    | 43, _, ho, hO, hD, hK => 
      obtain rfl := Option.some.inj ho.symm
      clear ho
      have f45 := hD 42 45 (by kernel_rfl)
      generalize eu45 : FA.eval (.tmp 45) = u45 at f45
      have e45 : FA.tmps[45]?.getD undef = u45 := by rw [← eu45]; simp [Act.eval]
      have ev45 := Lib.hid eu45
      clear eu45
      clear hO hD
      obtain ⟨A1, m1, c1, rfl, hl1⟩ := f45
      have hm1 : m1 ≤ 100 := by obtain ⟨_, _, h2, _⟩ := hl1; simp only [List.length_cons, List.length_nil] at h2; omega
      go_simp
      refine (refJoin_any A1 m1 c1 _ _ hl1 (by omega) HT.out).mono ?_
      rintro e w1 ⟨A2, n2, c2, bs2, d2, rfl, rfl, ho2⟩
      exact hK.out _ _ (Ex.plus_ _ _ _) ⟨_, _, _, rfl, ho2.mono (by simp [size_plus]; omega)⟩
    | 44, _, ho, hO, hD, hK => 
      obtain rfl := Option.some.inj ho.symm
      clear ho
      have f46 := hD 43 46 (by kernel_rfl)
      generalize eu46 : FA.eval (.tmp 46) = u46 at f46
      have e46 : FA.tmps[46]?.getD undef = u46 := by rw [← eu46]; simp [Act.eval]
      have ev46 := Lib.hid eu46
      clear eu46
      clear hO hD
      go_simp
      exact hK.out _ _ (Ex.refl _) f46
    | (k + 45), hi, _, _, _, _ => exact absurd hi (by omega)
  intro vs x hp
  have p0 : vs 0 = .pointer (some ⟨w.heap.size, 0, none⟩) := hp 0 (by omega)
  have p1 : vs 1 = .int .u16 (a : Int) := hp 1 (by omega)
  have p2 : vs 2 = .int .u64 (a : Int) := hp 2 (by omega)
  have p3 := hp 3 (by omega)
  have p4 : vs 4 = .pointer (some ⟨w.heap.size, 1, none⟩) := hp 4 (by omega)
  have p5 : vs 5 = .int .u16 (b : Int) := hp 5 (by omega)
  have p6 : vs 6 = .int .u64 (b : Int) := hp 6 (by omega)
  have p7 := hp 7 (by omega)
  have p8 : vs 8 = .pointer (some ⟨w.heap.size, 2, none⟩) := hp 8 (by omega)
  have p9 : vs 9 = .int .u32 (c : Int) := hp 9 (by omega)
  have p10 : vs 10 = .int .u64 (c : Int) := hp 10 (by omega)
  have p11 := hp 11 (by omega)
  have p12 : vs 12 = .pointer (some ⟨w.heap.size, 3, none⟩) := hp 12 (by omega)
  have p13 : vs 13 = .int .u32 (d : Int) := hp 13 (by omega)
  have p14 : vs 14 = .int .u64 (d : Int) := hp 14 (by omega)
  have p15 := hp 15 (by omega)
  have p16 : vs 16 = .pointer (some ⟨w.heap.size, 8, none⟩) := hp 16 (by omega)
  have p17 : vs 17 = .slice A n k := hp 17 (by omega)
  have p18 : vs 18 = .int .i64 (n : Int) := hp 18 (by omega)
  have p19 : vs 19 = .int .i64 (q4 : Int) := hp 19 (by omega)
  have p20 : vs 20 = .int .i64 (q16 : Int) := hp 20 (by omega)
  have p21 : vs 21 = .int .i64 (hb0 : Int) := hp 21 (by omega)
  have p22 : vs 22 = .int .u8 (hb0 : Int) := hp 22 (by omega)
  have p23 : vs 23 = .pointer (some ⟨w.heap.size, 4, none⟩) := hp 23 (by omega)
  have p24 : vs 24 = .int .u8 (f : Int) := hp 24 (by omega)
  have p25 := hp 25 (by omega)
  have p26 : vs 26 = .pointer (some ⟨w.heap.size, 5, none⟩) := hp 26 (by omega)
  have p27 : vs 27 = .int .u16 (wi : Int) := hp 27 (by omega)
  have p28 : vs 28 = .int .u64 (wi : Int) := hp 28 (by omega)
  have p29 := hp 29 (by omega)
  have p30 : vs 30 = .pointer (some ⟨w.heap.size, 6, none⟩) := hp 30 (by omega)
  have p31 : vs 31 = .int .u16 (sm : Int) := hp 31 (by omega)
  have p32 : vs 32 = .int .u64 (sm : Int) := hp 32 (by omega)
  have p33 := hp 33 (by omega)
  have p34 : vs 34 = .pointer (some ⟨w.heap.size, 7, none⟩) := hp 34 (by omega)
  have p35 : vs 35 = .int .u16 (ur : Int) := hp 35 (by omega)
  have p36 : vs 36 = .int .u64 (ur : Int) := hp 36 (by omega)
  have p37 := hp 37 (by omega)
  have p38 : vs 38 = .pointer (some ⟨w.heap.size, 8, none⟩) := hp 38 (by omega)
  have p39 : vs 39 = .slice A n k := hp 39 (by omega)
  have p40 : vs 40 = .pointer (some ⟨w.heap.size, 9, none⟩) := hp 40 (by omega)
  have p41 : vs 41 = .slice A2 n2 k2 := hp 41 (by omega)
  have p42 := hp 42 (by omega)
  have p43 := hp 43 (by omega)
  have p44 := hp 44 (by omega)
  clear hp
  simp only [List.take_succ_cons, List.take_zero, List.drop_succ_cons, List.drop_zero, putAll, Nat.zero_add, Nat.reduceAdd, Act.put, List.setIfInBounds_toArray, List.set_cons_zero, List.set_cons_succ, p0, p1, p2, p4, p5, p6, p8, p9, p10, p12, p13, p14, p16, p17, p18, p19, p20, p21, p22, p23, p24, p26, p27, p28, p30, p31, p32, p34, p35, p36, p38, p39, p40, p41]
  clear p0 p1 p2 p4 p5 p6 p8 p9 p10 p12 p13 p14 p16 p17 p18 p19 p20 p21 p22 p23 p24 p26 p27 p28 p30 p31 p32 p34 p35 p36 p38 p39 p40 p41
  generalize vs 3 = y3 at *
  generalize vs 7 = y7 at *
  generalize vs 11 = y11 at *
  generalize vs 15 = y15 at *
  generalize vs 25 = y25 at *
  generalize vs 29 = y29 at *
  generalize vs 33 = y33 at *
  generalize vs 37 = y37 at *
  generalize vs 42 = y42 at *
  generalize vs 43 = y43 at *
  generalize vs 44 = y44 at *
  clear vs
  obtain ⟨A9, n9, c9, rfl, h9⟩ := p44
  go_wp2
  go_ret
  exact RetB.mk h9 (belowP (Below.allocS (Below.refl _ _) _) _ _)

set_option maxRecDepth 100000 in
theorem tcpSize_any (a b c d f wi sm ur : Nat) (A : Option Addr) (n k : Nat) (A2 : Option Addr) (n2 k2 : Nat) (w : World) (hn : n ≤ 1000000) (hn2 : n2 ≤ 1000000) : Calls Try.prog 123 #[.agg #[.int .u16 (a : Int), .int .u16 (b : Int), .int .u32 (c : Int), .int .u32 (d : Int), .int .u8 (f : Int), .int .u16 (wi : Int), .int .u16 (sm : Int), .int .u16 (ur : Int), .slice A n k, .slice A2 n2 k2]] w (RetV w (.int .i64 ((20 + n + n2 : Nat) : Int))) := by
  go_enter Try.func123, Try.ntmps123
  go_wp2
  go_ret
  exact RetV.is_ (by simp) (Below.allocS (Below.refl _ _) _)
set_option maxHeartbeats 1000000 in
set_option maxRecDepth 100000 in
theorem tcpRight_yes (a b c d f wi sm ur : Nat) (A : Option Addr) (n k : Nat) (A2 : Option Addr) (n2 k2 : Nat) (w : World) (hn : n ≤ 40) (h4 : n % 4 = 0) (hn2 : n2 ≤ 2000) : Calls Try.prog 67 #[.agg #[.int .u16 (a : Int), .int .u16 (b : Int), .int .u32 (c : Int), .int .u32 (d : Int), .int .u8 (f : Int), .int .u16 (wi : Int), .int .u16 (sm : Int), .int .u16 (ur : Int), .slice A n k, .slice A2 n2 k2]] w (RetV w (.bool true)) := by
  have t1 : ((n : Int) % 4 == 0) = true := by rw [beq_iff_eq]; omega
  replace h4 := Lib.hid h4
  have HS := Lib.hid (fun w => tcpSize_any a b c d f wi sm ur A n k A2 n2 k2 w (by omega) (by omega))
  have hz : 20 + n + n2 ≤ 65535 := by omega
  generalize 20 + n + n2 = z at *
  go_enter Try.func67, Try.ntmps67
  go_wp2_with (go_at_call 123; refine (HS.out _).mono ?_; rintro e w1 ⟨bs1, d1, rfl, rfl⟩)
  go_ret
  exact RetV.is_ (by simp; omega) (belowP (Below.allocS (Below.refl _ _) _) _ _)
set_option maxHeartbeats 1000000 in
set_option maxRecDepth 100000 in
theorem tcpRight_no (a b c d f wi sm ur : Nat) (A : Option Addr) (n k : Nat) (A2 : Option Addr) (n2 k2 : Nat) (w : World) (h : 40 < n ∨ n % 4 ≠ 0) (hn : n ≤ 1000000) : Calls Try.prog 67 #[.agg #[.int .u16 (a : Int), .int .u16 (b : Int), .int .u32 (c : Int), .int .u32 (d : Int), .int .u8 (f : Int), .int .u16 (wi : Int), .int .u16 (sm : Int), .int .u16 (ur : Int), .slice A n k, .slice A2 n2 k2]] w (RetV w (.bool false)) := by
  by_cases h1 : 40 < n
  · have d1 : decide (n ≤ 40) = false := by simp; omega
    go_enter Try.func67, Try.ntmps67
    go_wp2
    go_ret
    exact RetV.is_ (by simp) (Below.allocS (Below.refl _ _) _)
  · have h1' : n ≤ 40 := by omega
    have t1 : ((n : Int) % 4 == 0) = false := by rw [beq_eq_false_iff_ne]; omega
    clear h h1
    go_enter Try.func67, Try.ntmps67
    go_wp2
    go_ret
    exact RetV.is_ (by simp) (Below.allocS (Below.refl _ _) _)
set_option maxHeartbeats 1000000 in
set_option maxRecDepth 100000 in
theorem refTcpRight_yes (a b c d f wi sm ur : Nat) (A : Option Addr) (n k : Nat) (A2 : Option Addr) (n2 k2 : Nat) (w : World) (hn : n ≤ 40) (h4 : n % 4 = 0) (hn2 : n2 ≤ 2000) : Calls Try.prog 73 #[.agg #[.int .u16 (a : Int), .int .u16 (b : Int), .int .u32 (c : Int), .int .u32 (d : Int), .int .u8 (f : Int), .int .u16 (wi : Int), .int .u16 (sm : Int), .int .u16 (ur : Int), .slice A n k, .slice A2 n2 k2]] w (RetV w (.bool true)) := by
  have t1 : ((n : Int) % 4 == 0) = true := by rw [beq_iff_eq]; omega
  replace h4 := Lib.hid h4
  go_enter Try.func73, Try.ntmps73
  go_wp2
  go_ret
  exact RetV.is_ (by simp; omega) (Below.allocS (Below.refl _ _) _)
set_option maxHeartbeats 1000000 in
set_option maxRecDepth 100000 in
theorem refTcpRight_no (a b c d f wi sm ur : Nat) (A : Option Addr) (n k : Nat) (A2 : Option Addr) (n2 k2 : Nat) (w : World) (h : 40 < n ∨ n % 4 ≠ 0) (hn : n ≤ 1000000) : Calls Try.prog 73 #[.agg #[.int .u16 (a : Int), .int .u16 (b : Int), .int .u32 (c : Int), .int .u32 (d : Int), .int .u8 (f : Int), .int .u16 (wi : Int), .int .u16 (sm : Int), .int .u16 (ur : Int), .slice A n k, .slice A2 n2 k2]] w (RetV w (.bool false)) := by
  by_cases h1 : 40 < n
  · have d1 : decide (n ≤ 40) = false := by simp; omega
    go_enter Try.func73, Try.ntmps73
    go_wp2
    go_ret
    exact RetV.is_ (by simp) (Below.allocS (Below.refl _ _) _)
  · have h1' : n ≤ 40 := by omega
    have t1 : ((n : Int) % 4 == 0) = false := by rw [beq_eq_false_iff_ne]; omega
    clear h h1
    go_enter Try.func73, Try.ntmps73
    go_wp2
    go_ret
    exact RetV.is_ (by simp) (Below.allocS (Below.refl _ _) _)
set_option maxHeartbeats 4000000 in
set_option maxRecDepth 100000 in
theorem tcpBytes_yes (a b c d f wi sm ur : Nat) (A : Option Addr) (n k : Nat) (A2 : Option Addr) (n2 k2 : Nat) (l l2 : List UInt8) (w : World) (ha : a < 65536) (hb : b < 65536) (hc : c < 4294967296) (hd : d < 4294967296) (hf : f < 256) (hwi : wi < 65536) (hsm : sm < 65536) (hur : ur < 65536) (h : Rb w A n k l) (h2 : Rb w A2 n2 k2 l2) (hn : n ≤ 40) (h4 : n % 4 = 0) (hn2 : n2 ≤ 2000) : Calls Try.prog 71 #[.agg #[.int .u16 (a : Int), .int .u16 (b : Int), .int .u32 (c : Int), .int .u32 (d : Int), .int .u8 (f : Int), .int .u16 (wi : Int), .int .u16 (sm : Int), .int .u16 (ur : Int), .slice A n k, .slice A2 n2 k2]] w (RetB w (tcpB a b c d (80 + n / 4 * 16) f wi sm ur l l2)) := by
  have HR := Lib.hid (fun w => tcpRight_yes a b c d f wi sm ur A n k A2 n2 k2 w hn h4 hn2)
  replace h4 := Lib.hid h4
  go_enter Try.func71, Try.ntmps71
  go_wp2_with fail
  refine (HR.out _).mono ?_
  rintro e w1 ⟨bs0, m0, rfl, rfl⟩
  go_wp2_with fail
  refine (put_full _ _ _ [] a 2 _ Rb.nil_ (by omega) (by omega) (by omega) (by omega)).mono ?_
  rintro e w1 ⟨A10, n10, bs10, m10, rfl, rfl, ho10⟩
  have l10 : n10 ≤ 100 := by rw [← ho10.1]; simp [dig_length]
  go_wp2_with fail
  refine (put_full _ _ _ _ b 2 _ ho10.rb (by omega) (by omega) (by omega) (by omega)).mono ?_
  rintro e w1 ⟨A11, n11, bs11, m11, rfl, rfl, ho11⟩
  have l11 : n11 ≤ 100 := by rw [← ho11.1]; simp [dig_length]
  go_wp2_with fail
  refine (put_full _ _ _ _ c 4 _ ho11.rb (by omega) (by omega) (by omega) (by omega)).mono ?_
  rintro e w1 ⟨A12, n12, bs12, m12, rfl, rfl, ho12⟩
  have l12 : n12 ≤ 100 := by rw [← ho12.1]; simp [dig_length]
  go_wp2_with fail
  refine (put_full _ _ _ _ d 4 _ ho12.rb (by omega) (by omega) (by omega) (by omega)).mono ?_
  rintro e w1 ⟨A13, n13, bs13, m13, rfl, rfl, ho13⟩
  have l13 : n13 ≤ 100 := by rw [← ho13.1]; simp [dig_length]
  go_wp2_with fail
  refine (put_int_full _ _ _ _ _ 1 _ ho13.rb (by omega) (by omega) (by omega) (by omega) (by omega)).mono ?_
  rintro e w1 ⟨A14, n14, bs14, m14, rfl, rfl, ho14⟩
  have l14 : n14 ≤ 100 := by rw [← ho14.1]; simp [dig_length]
  go_wp2_with fail
  refine (put_full _ _ _ _ f 1 _ ho14.rb (by omega) (by omega) (by omega) (by omega)).mono ?_
  rintro e w1 ⟨A15, n15, bs15, m15, rfl, rfl, ho15⟩
  have l15 : n15 ≤ 100 := by rw [← ho15.1]; simp [dig_length]
  go_wp2_with fail
  refine (put_full _ _ _ _ wi 2 _ ho15.rb (by omega) (by omega) (by omega) (by omega)).mono ?_
  rintro e w1 ⟨A16, n16, bs16, m16, rfl, rfl, ho16⟩
  have l16 : n16 ≤ 100 := by rw [← ho16.1]; simp [dig_length]
  go_wp2_with fail
  refine (put_full _ _ _ _ sm 2 _ ho16.rb (by omega) (by omega) (by omega) (by omega)).mono ?_
  rintro e w1 ⟨A17, n17, bs17, m17, rfl, rfl, ho17⟩
  have l17 : n17 ≤ 100 := by rw [← ho17.1]; simp [dig_length]
  go_wp2_with fail
  refine (put_full _ _ _ _ ur 2 _ ho17.rb (by omega) (by omega) (by omega) (by omega)).mono ?_
  rintro e w1 ⟨A18, n18, bs18, m18, rfl, rfl, ho18⟩
  have l18 : n18 ≤ 100 := by rw [← ho18.1]; simp [dig_length]
  go_wp2_with (first
    | (refine at_op (.call { callee := .builtin .append, args := #[.tmp 55, .tmp 57], argTypes := #[22, 22] }) rfl ?_; refine wpList_appP _ bt rfl (.tmp 55) (.tmp 57) rfl (by exact below_plus _ bs18 m18) rfl ho18 rfl (by exact h.alloc _ |>.plus_ _ _ |>.plus_ _ _ |>.plus_ _ _ |>.plus_ _ _ |>.plus_ _ _ |>.plus_ _ _ |>.plus_ _ _ |>.plus_ _ _ |>.plus_ _ _ |>.plus_ _ _) (by omega) ?_; intro A20 n20 k20 bs20 m20 ho20 hg20; have l20 : n20 ≤ 200 := (by rw [← ho20.1]; simp [dig_length, h.1]; omega))
    | (refine at_op (.call { callee := .builtin .append, args := #[.tmp 59, .tmp 61], argTypes := #[22, 22] }) rfl ?_; refine wpList_appP _ bt rfl (.tmp 59) (.tmp 61) rfl (by exact below_plus _ bs20 m20) rfl ho20 rfl (by exact h2.alloc _ |>.plus_ _ _ |>.plus_ _ _ |>.plus_ _ _ |>.plus_ _ _ |>.plus_ _ _ |>.plus_ _ _ |>.plus_ _ _ |>.plus_ _ _ |>.plus_ _ _ |>.plus_ _ _) (by omega) ?_; intro A21 n21 k21 bs21 m21 ho21 hg21))
  go_ret
  refine RetB.mk ?_ (belowP (belowP (belowP (belowP (belowP (belowP (belowP (belowP (belowP (belowP (Below.allocS (Below.refl _ _) _) _ _) _ _) _ _) _ _) _ _) _ _) _ _) _ _) _ _) _ _)
  have e1 : ((20 + (n : Int)) / 4 * 16).toNat = 80 + n / 4 * 16 := by omega
  have e2 : [] ++ dig a 2 ++ dig b 2 ++ dig c 4 ++ dig d 4 ++ dig ((20 + (n : Int)) / 4 * 16).toNat 1 ++ dig f 1 ++ dig wi 2 ++ dig sm 2 ++ dig ur 2 ++ l ++ l2 = tcpB a b c d (80 + n / 4 * 16) f wi sm ur l l2 := by
    rw [e1, dig1 _ (by omega), dig1 _ hf]
    simp [tcpB]
  rw [e2] at ho21
  exact ho21.mono (by simp [size_plus]; omega)
end Go.Proofs.Ytfmkndemkpecpaa

/- Contracts of siphash's mixing. -/
namespace Go.Proofs.Ytfmkndemkpecpaa
open Go.RowKit
set_option linter.unusedVariables false
set_option linter.unusedSimpArgs false
attribute [local go_sem ↓] sliced_cut

attribute [local go_sem] cutA_zero

/-- sum and exclusive or of words, under names that simp leaves alone -/
def uadd (x y : UInt64) : UInt64 := x + y
def uxor (x y : UInt64) : UInt64 := x ^^^ y
theorem wadd (x y : UInt64) : IntKind.u64.wrap ((x.toNat : Int) + (y.toNat : Int)) = ((uadd x y).toNat : Int) := by
  unfold uadd
  rw [UInt64.toNat_add, IntKind.wrap_u64]
  omega
theorem wxor (x y : UInt64) : bits .xor .u64 (x.toNat : Int) (y.toNat : Int) = ((uxor x y).toNat : Int) := by
  unfold uxor
  rw [u64_xor_nat _ _ x.toNat_lt y.toNat_lt, UInt64.toNat_xor]
attribute [local go_sem] wadd wxor

/-- four words -/
structure W4 where
  a : UInt64
  b : UInt64
  c : UInt64
  d : UInt64
def W4.cells (v : W4) : List Value := [.int .u64 (v.a.toNat : Int), .int .u64 (v.b.toNat : Int), .int .u64 (v.c.toNat : Int), .int .u64 (v.d.toNat : Int)]
end Go.Proofs.Ytfmkndemkpecpaa

/- Words out of bytes, least significant first: siphash.little and its reference; plain facts. -/
namespace Go.Proofs.Ytfmkndemkpecpaa
open Go.RowKit
set_option linter.unusedVariables false
attribute [local go_sem ↓] sliced_cut

attribute [local go_sem] cutA_zero

def lnum : List UInt8 → Nat
  | [] => 0
  | b :: l => b.toNat + 256 * lnum l
/-- the word of at most eight bytes -/
def lit (l : List UInt8) : UInt64 := UInt64.ofNat (lnum l)
end Go.Proofs.Ytfmkndemkpecpaa

/- siphash: absorb, start, Sum. -/
namespace Go.Proofs.Ytfmkndemkpecpaa
open Go.RowKit
set_option linter.unusedVariables false
attribute [local go_sem ↓] sliced_cut

attribute [local go_sem] cutA_zero wadd wxor

theorem wxorc (x : UInt64) (k : Nat) (hk : k < 18446744073709551616) : bits .xor .u64 (x.toNat : Int) (k : Nat) = ((uxor x (UInt64.ofNat k)).toNat : Int) := by
  have e : k = (UInt64.ofNat k).toNat := by rw [UInt64.toNat_ofNat', Nat.mod_eq_of_lt hk]
  have := wxor x (UInt64.ofNat k)
  rw [← e] at this
  exact this
theorem xc1 (x : UInt64) : bits .xor .u64 (x.toNat : Int) 8317987319222330741 = ((uxor x 8317987319222330741).toNat : Int) := wxorc x 8317987319222330741 (by decide)
theorem xc2 (x : UInt64) : bits .xor .u64 (x.toNat : Int) 7237128888997146477 = ((uxor x 7237128888997146477).toNat : Int) := wxorc x 7237128888997146477 (by decide)
theorem xc3 (x : UInt64) : bits .xor .u64 (x.toNat : Int) 7816392313619706465 = ((uxor x 7816392313619706465).toNat : Int) := wxorc x 7816392313619706465 (by decide)
theorem xc4 (x : UInt64) : bits .xor .u64 (x.toNat : Int) 8387220255154660723 = ((uxor x 8387220255154660723).toNat : Int) := wxorc x 8387220255154660723 (by decide)
theorem xc5 (x : UInt64) : bits .xor .u64 (x.toNat : Int) 255 = ((uxor x 255).toNat : Int) := wxorc x 255 (by decide)
attribute [local go_sem] xc1 xc2 xc3 xc4 xc5

end Go.Proofs.Ytfmkndemkpecpaa

/- siphash.Sum. -/
namespace Go.Proofs.Ytfmkndemkpecpaa
open Go.RowKit
set_option linter.unusedVariables false
attribute [local go_sem ↓] sliced_cut

attribute [local go_sem] cutA_zero wadd wxor xc5

/-- sixteen bytes -/
def K16 (key : List UInt8) : Prop := key.length = 16
end Go.Proofs.Ytfmkndemkpecpaa

/- siphash.Derive and its reference. -/
namespace Go.Proofs.Ytfmkndemkpecpaa
open Go.RowKit
set_option linter.unusedVariables false
set_option linter.unusedSimpArgs false
attribute [local go_sem ↓] sliced_cut

attribute [local go_sem] cutA_zero

theorem szU8 (w : World) : (sizeOf 5).run Try.prog w = .ok 1 w := by
  obtain ⟨i, hi, hz0, hz1, hz2⟩ := info_parts bt.info
  simp [sizeOf, typeInfo, hi, hz1]
theorem eql_key (w : World) (a b : List UInt8) (ha : K16 a) (hb : K16 b) : (binOp .eql 192 (.agg (bcs a).toArray) (.agg (bcs b).toArray)).run Try.prog w = .ok (.bool (a == b)) w :=
  run_eql_bytes w 192 5 16 Try.underlying192 Try.underlying5 szU8 a b ha hb
theorem eql_key' (w : World) (a b : List UInt8) (ha : K16 a) (hb : K16 b) : (binOp .eql 74 (.agg (bcs a).toArray) (.agg (bcs b).toArray)).run Try.prog w = .ok (.bool (a == b)) w :=
  run_eql_bytes w 74 5 16 Try.underlying74 Try.underlying5 szU8 a b ha hb
attribute [local go_sem ↓] eql_key eql_key'

end Go.Proofs.Ytfmkndemkpecpaa

/- The package cookie: mask, Right, Word, Of, Hide, Seek. -/
namespace Go.Proofs.Ytfmkndemkpecpaa
open Go.RowKit
set_option linter.unusedVariables false
set_option linter.unusedSimpArgs false
attribute [local go_sem ↓] sliced_cut

attribute [local go_sem] cutA_zero

/-- a flow -/
structure Flw where
  s6 : Bool
  sh : Nat
  sl : Nat
  d6 : Bool
  dh : Nat
  dl : Nat
  sp : Nat
  dp : Nat
  pr : Nat
structure Flw.ok (f : Flw) : Prop where
  sh : f.sh < 18446744073709551616
  sl : f.sl < 18446744073709551616
  dh : f.dh < 18446744073709551616
  dl : f.dl < 18446744073709551616
  sp : f.sp < 65536
  dp : f.dp < 65536
  pr : f.pr < 256
def Flw.cells (f : Flw) : List Value := [.bool f.s6, .int .u64 f.sh, .int .u64 f.sl, .bool f.d6, .int .u64 f.dh, .int .u64 f.dl, .int .u16 f.sp, .int .u16 f.dp, .int .u8 f.pr]
end Go.Proofs.Ytfmkndemkpecpaa

/- The law TcpWrites (chapter 6). -/
namespace Go.Proofs.Ytfmkndemkpecpaa
open Go.RowKit
set_option linter.unusedVariables false
set_option linter.unusedSimpArgs false
attribute [local go_sem ↓] sliced_cut

attribute [local go_sem] cutA_zero

def segC (a b c d f wi sm ur : Nat) (A : Option Addr) (n k : Nat) (A2 : Option Addr) (n2 k2 : Nat) : List Value := [.int .u16 (a : Int), .int .u16 (b : Int), .int .u32 (c : Int), .int .u32 (d : Int), .int .u8 (f : Int), .int .u16 (wi : Int), .int .u16 (sm : Int), .int .u16 (ur : Int), .slice A n k, .slice A2 n2 k2]
end Go.Proofs.Ytfmkndemkpecpaa

/- A segment that came in. -/
namespace Go.Proofs.Ytfmkndemkpecpaa
open Go.RowKit Go.ChangeShapes Go.WideShapes
set_option linter.unusedVariables false

set_option maxRecDepth 100000 in
theorem open_segN {H : Type} {enc : TypeId × Value → H} {W : World} {base : Nat} {v : Value} {dt : DataW H} {p : List MemPlace} (hv : Value.okWide Try.prog W .any base 56 v) (h : DataW.Trod enc Try.prog W 0 (fun _ => true) true 56 v dt p) :
    ∃ a b c d f wi sm ur : Nat, ∃ A n k A' n' k', ∃ l l' : List UInt8, v = .agg (segC a b c d f wi sm ur A n k A' n' k').toArray ∧ (a < 65536 ∧ b < 65536 ∧ c < 4294967296 ∧ d < 4294967296 ∧ f < 256 ∧ wi < 65536 ∧ sm < 65536 ∧ ur < 65536) ∧ Rb W A n k l ∧ Rb W A' n' k' l' ∧ k ≤ maxLen ∧ k' ≤ maxLen := by
  obtain ⟨cs, rfl, hl, m, hf⟩ := open_struct Try.underlying56 (by kernel_rfl) (by kernel_rfl) hv h
  obtain ⟨u0, u1, u2, u3, u4, u5, u6, u7, u8, u9, rfl⟩ := list10 hl
  obtain ⟨_, _, e0, t0⟩ := hf 0 _ rfl
  obtain ⟨_, _, e1, t1⟩ := hf 1 _ rfl
  obtain ⟨_, _, e2, t2⟩ := hf 2 _ rfl
  obtain ⟨_, _, e3, t3⟩ := hf 3 _ rfl
  obtain ⟨_, _, e4, t4⟩ := hf 4 _ rfl
  obtain ⟨_, _, e5, t5⟩ := hf 5 _ rfl
  obtain ⟨_, _, e6, t6⟩ := hf 6 _ rfl
  obtain ⟨_, _, e7, t7⟩ := hf 7 _ rfl
  obtain ⟨_, _, e8, t8⟩ := hf 8 _ rfl
  obtain ⟨_, _, e9, t9⟩ := hf 9 _ rfl
  simp only [List.getElem?_cons_zero, List.getElem?_cons_succ, Option.some.injEq] at e0 e1 e2 e3 e4 e5 e6 e7 e8 e9
  subst e0 e1 e2 e3 e4 e5 e6 e7 e8 e9
  obtain ⟨a, x0, -, w0⟩ := DataW.trod_int Try.underlying27 t0
  have v0 := bounds_u16 w0
  obtain ⟨b, x1, -, w1⟩ := DataW.trod_int Try.underlying27 t1
  have v1 := bounds_u16 w1
  obtain ⟨c, x2, -, w2⟩ := DataW.trod_int Try.underlying30 t2
  have v2 := bounds_u32 w2
  obtain ⟨d, x3, -, w3⟩ := DataW.trod_int Try.underlying30 t3
  have v3 := bounds_u32 w3
  obtain ⟨f, x4, -, w4⟩ := DataW.trod_int Try.underlying5 t4
  have v4 := bounds_u8 w4
  obtain ⟨wi, x5, -, w5⟩ := DataW.trod_int Try.underlying27 t5
  have v5 := bounds_u16 w5
  obtain ⟨sm, x6, -, w6⟩ := DataW.trod_int Try.underlying27 t6
  have v6 := bounds_u16 w6
  obtain ⟨ur, x7, -, w7⟩ := DataW.trod_int Try.underlying27 t7
  have v7 := bounds_u16 w7
  obtain ⟨A, n, k, l, x8, hk, hr⟩ := open_bytes_cell Try.underlying22 Try.underlying5 (by kernel_rfl) t8
  obtain ⟨A', n', k', l', x9, hk', hr'⟩ := open_bytes_cell Try.underlying22 Try.underlying5 (by kernel_rfl) t9
  simp only [List.cons.injEq, and_true] at x0 x1 x2 x3 x4 x5 x6 x7
  subst x0 x1 x2 x3 x4 x5 x6 x7 x8 x9
  refine ⟨a.toNat, b.toNat, c.toNat, d.toNat, f.toNat, wi.toNat, sm.toNat, ur.toNat, A, n, k, A', n', k', l, l', ?_, by omega, hr, hr', hk, hk'⟩
  unfold segC
  rw [Int.toNat_of_nonneg (by omega), Int.toNat_of_nonneg (by omega), Int.toNat_of_nonneg (by omega), Int.toNat_of_nonneg (by omega), Int.toNat_of_nonneg (by omega), Int.toNat_of_nonneg (by omega), Int.toNat_of_nonneg (by omega), Int.toNat_of_nonneg (by omega)]
end Go.Proofs.Ytfmkndemkpecpaa

