/- Headers of IPv4: Bytes. -/
import Derived.Test.YtfmkndemkpecpaaIp4B
import Derived.Test.YtfmkndemkpecpaaSum
namespace Go.Proofs.Ytfmkndemkpecpaa
open Go.RowKit
set_option linter.unusedVariables false
set_option linter.unusedSimpArgs false
attribute [local go_sem ↓] sliced_cut
attribute [local go_sem] cutA_zero

/-- flags and offset -/
def pl4 (st mo : Bool) (fo : Nat) : Nat := fo + (if st then 16384 else 0) + (if mo then 8192 else 0)
theorem pl4_lt (st mo : Bool) (fo : Nat) (h : fo ≤ 8191) : pl4 st mo fo < 32768 := by
  unfold pl4
  cases st <;> cases mo <;> simp <;> omega
def ip4B (ts ln id pl tl pr s sl dl : Nat) (o : List UInt8) : List UInt8 := (dig (69 + o.length / 4) 1 ++ dig ts 1 ++ dig ln 2 ++ dig id 2 ++ dig pl 2 ++ dig tl 1 ++ dig pr 1) ++ (dig s 2 ++ (dig sl 4 ++ dig dl 4 ++ o))
theorem ip4B_length (ts ln id pl tl pr s sl dl : Nat) (o : List UInt8) : (ip4B ts ln id pl tl pr s sl dl o).length = 20 + o.length := by simp [ip4B, dig_length]; omega
/-- the checksum -/
def ip4K (ts ln id pl tl pr sl dl : Nat) (o : List UInt8) : Nat := 65535 - fd (tot false (ip4B ts ln id pl tl pr 0 sl dl o))
theorem setB_mid (a b c x : List UInt8) (k : Nat) (hk : a.length = k) (hb : b.length = x.length) : setB (a ++ (b ++ c)) k x = a ++ (x ++ c) := by
  subst hk
  unfold setB
  rw [List.take_left' rfl, ← hb, ← List.append_assoc a b c, List.drop_left' (by simp), List.append_assoc]
theorem setB_ip4 (ts ln id pl tl pr s sl dl : Nat) (o : List UInt8) : setB (ip4B ts ln id pl tl pr 0 sl dl o) 10 (dig s 2) = ip4B ts ln id pl tl pr s sl dl o := by
  unfold ip4B
  exact setB_mid _ _ _ _ 10 (by simp [dig_length]) (by simp [dig_length])
theorem or14 (x : Nat) (h : x < 8192) : bits .or .u64 (x : Int) 16384 = ((x + 16384 : Nat) : Int) := by
  have e := u64_or_nat x 16384 (by omega) (by omega)
  rw [Nat.or_comm, nat_join 14 16384 x (by decide) (by omega), Nat.add_comm] at e
  exact e
theorem or13 (x : Nat) (h : x < 8192) : bits .or .u64 (x : Int) 8192 = ((x + 8192 : Nat) : Int) := by
  have e := u64_or_nat x 8192 (by omega) (by omega)
  rw [Nat.or_comm, nat_join 13 8192 x (by decide) (by omega), Nat.add_comm] at e
  exact e
theorem or1413 (x : Nat) (h : x < 8192) : bits .or .u64 ((x + 16384 : Nat) : Int) 8192 = ((x + 16384 + 8192 : Nat) : Int) := by
  have e := u64_or_nat (x + 16384) 8192 (by omega) (by omega)
  have e2 : (x + 16384) ||| 8192 = x + 16384 + 8192 := by
    rw [Nat.add_comm x 16384, ← nat_join 14 16384 x (by decide) (by omega), Nat.or_assoc, Nat.or_comm x 8192, nat_join 13 8192 x (by decide) (by omega), nat_join 14 16384 (8192 + x) (by decide) (by omega), nat_join 14 16384 x (by decide) (by omega)]
    omega
  rw [e2] at e
  exact e
theorem or64 : ∀ q : Fin 16, bits .or .i64 64 (q.val : Int) = ((64 + q.val : Nat) : Int) := by decide +kernel
theorem r4_yes (n ln fo sl dl : Nat) (c1 : n ≤ 40) (c2 : n % 4 = 0) (c3 : 20 + n ≤ ln) (c4 : ln ≤ 65535) (c5 : fo ≤ 8191) (b5 : sl < 4294967296) (b6 : dl < 4294967296) : r4 n (ln : Int) (fo : Int) false 0 sl false 0 dl = true := by
  simp [r4, ad4]
  omega
set_option maxHeartbeats 4000000 in
set_option maxRecDepth 100000 in
theorem ip4Bytes_no (ts : Nat) (ln : Int) (id : Nat) (st mo : Bool) (fo : Int) (tl pr sm : Nat) (s6 : Bool) (sh sl : Nat) (d6 : Bool) (dh dl : Nat) (A : Option Addr) (n k : Nat) (w : World) (hn : n ≤ 1000000) (hi : -9223372036854775808 ≤ ln ∧ ln ≤ 9223372036854775807) (hf : -9223372036854775808 ≤ fo ∧ fo ≤ 9223372036854775807) (k1 : sh < 18446744073709551616) (k2 : sl < 18446744073709551616) (k3 : dh < 18446744073709551616) (k4 : dl < 18446744073709551616) (hr : r4 n ln fo s6 sh sl d6 dh dl = false) : Calls Try.prog 109 #[.agg (h4C ts ln id st mo fo tl pr sm s6 sh sl d6 dh dl A n k).toArray] w (RetV w (.slice none 0 0)) := by
  obtain ⟨du, u1, u2⟩ := rowH4
  have HR := Lib.hid (fun w => right4 ts ln id st mo fo tl pr sm s6 sh sl d6 dh dl A n k w hn hi hf k1 k2 k3 k4)
  rw [hr] at HR
  have hb : Bk (w.alloc (.cells (h4C ts ln id st mo fo tl pr sm s6 sh sl d6 dh dl A n k).toArray 140)) w.heap.size 140 (h4C ts ln id st mo fo tl pr sm s6 sh sl d6 dh dl A n k) := Bk.new w 140 (h4C ts ln id st mo fo tl pr sm s6 sh sl d6 dh dl A n k).toArray
  have be : Below w.heap.size w (w.alloc (.cells (h4C ts ln id st mo fo tl pr sm s6 sh sl d6 dh dl A n k).toArray 140)) := Below.allocS (Below.refl _ _) _
  go_enter Try.func109, Try.ntmps109
  go_wp2_with (first
    | (refine at_op (.load 140 (.tmp 1)) rfl ?_; refine wpList_ldA (t := 140) 140 (.tmp 1) rfl rfl (h4C ts ln id st mo fo tl pr sm s6 sh sl d6 dh dl A n k) rfl (by with_reducible repeat (first | exact hb | refine Bk.later ?_ (below_plus _ _ _) | refine Bk.alloc ?_ _)) (whole_ _) u1 u2 (szH4 _ _ _ _ _ _ _ _ _ _ _ _ _ _ _ _ _ _) ?_)
    | (go_at_call 108; refine (HR.out _).mono ?_; rintro e w1 ⟨bs1, d1, rfl, rfl⟩))
  go_ret
  exact RetV.mk (belowP be _ _)
set_option maxHeartbeats 4000000 in
set_option maxRecDepth 100000 in
theorem ip4Bytes_nn (ts ln id : Nat) (fo tl pr sm sl dl : Nat) (A : Option Addr) (n k : Nat) (o : List UInt8) (w : World) (hr : Rb w A n k o) (b1 : ts < 256) (b2 : id < 65536) (b3 : tl < 256) (b4 : pr < 256) (b5 : sl < 4294967296) (b6 : dl < 4294967296) (c1 : n ≤ 40) (c2 : n % 4 = 0) (c3 : 20 + n ≤ ln) (c4 : ln ≤ 65535) (c5 : fo ≤ 8191) : Calls Try.prog 109 #[.agg (h4C ts (ln : Int) id false false (fo : Int) tl pr sm false 0 sl false 0 dl A n k).toArray] w (RetB w (ip4B ts ln id (pl4 false false fo) tl pr (ip4K ts ln id (pl4 false false fo) tl pr sl dl o) sl dl o)) := by
  obtain ⟨du, u1, u2⟩ := rowH4
  obtain ⟨dv, v1, v2⟩ := rowAd
  have HR := Lib.hid (fun w => right4 ts (ln : Int) id false false (fo : Int) tl pr sm false 0 sl false 0 dl A n k w (by omega) (by omega) (by omega) (by omega) (by omega) (by omega) (by omega))
  rw [r4_yes n ln fo sl dl c1 c2 c3 c4 c5 b5 b6] at HR
  have HS := Lib.hid (fun w => size4 ts (ln : Int) id false false (fo : Int) tl pr sm false 0 sl false 0 dl A n k w (by omega))
  obtain ⟨z, hz0⟩ : ∃ z : Nat, z = 20 + n := ⟨_, rfl⟩
  rw [← hz0] at HS
  obtain ⟨q, hq⟩ : ∃ q : Nat, q = 5 + n / 4 := ⟨_, rfl⟩
  have g1 : (z : Int).tdiv 4 = (q : Int) := by rw [Int.tdiv_eq_ediv_of_nonneg (by omega)]; omega
  have g2 : IntKind.i64.wrap (q : Int) = (q : Int) := IntWalk.i64_in _ (by omega)
  have g3 := or64 ⟨q, by omega⟩
  obtain ⟨x0, hx0⟩ : ∃ x : Nat, x = 64 + q := ⟨_, rfl⟩
  replace g3 : bits .or .i64 64 (q : Int) = (x0 : Int) := by rw [hx0]; exact g3
  have g4 : IntKind.u64.wrap (x0 : Int) = (x0 : Int) := IntWalk.u64_in _ (by omega)
  have g5 : IntKind.u64.wrap (ts : Int) = (ts : Int) := IntWalk.u64_in _ (by omega)
  have g6 : IntKind.u64.wrap (ln : Int) = (ln : Int) := IntWalk.u64_in _ (by omega)
  have g7 : IntKind.u64.wrap (id : Int) = (id : Int) := IntWalk.u64_in _ (by omega)
  have g8 : IntKind.u64.wrap (tl : Int) = (tl : Int) := IntWalk.u64_in _ (by omega)
  have g9 : IntKind.u64.wrap (pr : Int) = (pr : Int) := IntWalk.u64_in _ (by omega)
  obtain ⟨p, hp⟩ : ∃ p : Nat, p = fo := ⟨_, rfl⟩
  have fp : IntKind.u64.wrap (fo : Int) = (p : Int) := by rw [IntWalk.u64_in _ (by omega)]; omega
  have hpl : pl4 false false fo = p := by simp [pl4]; omega
  have hp6 : p < 65536 := by omega
  have hol := hr.1
  have hx1 : x0 = 69 + o.length / 4 := by omega
  have hb : Bk (w.alloc (.cells (h4C ts (ln : Int) id false false (fo : Int) tl pr sm false 0 sl false 0 dl A n k).toArray 140)) w.heap.size 140 (h4C ts (ln : Int) id false false (fo : Int) tl pr sm false 0 sl false 0 dl A n k) := Bk.new w 140 (h4C ts (ln : Int) id false false (fo : Int) tl pr sm false 0 sl false 0 dl A n k).toArray
  have be : Below w.heap.size w (w.alloc (.cells (h4C ts (ln : Int) id false false (fo : Int) tl pr sm false 0 sl false 0 dl A n k).toArray 140)) := Below.allocS (Below.refl _ _) _
  rw [hpl]
  replace hx1 := Lib.hid hx1
  replace hol := Lib.hid hol
  have hx9 : x0 < 256 := by omega
  clear hpl hx0 hz0 hq hp
  go_enter Try.func109, Try.ntmps109
  go_upto_region 1 with (fail)
  generalize w.alloc (.cells (h4C ts (ln : Int) id false false (fo : Int) tl pr sm false 0 sl false 0 dl A n k).toArray 140) = W at *
  have hrW := hr.later be
  have y0 : W.cell? ⟨w.heap.size, 0, none⟩ = some (.int .u8 (ts : Int)) := hb.cell 0
  have y1 : W.cell? ⟨w.heap.size, 1, none⟩ = some (.int .i64 (ln : Int)) := hb.cell 1
  have y2 : W.cell? ⟨w.heap.size, 2, none⟩ = some (.int .u16 (id : Int)) := hb.cell 2
  have y3 : W.cell? ⟨w.heap.size, 3, none⟩ = some (.bool false) := hb.cell 3
  have y4 : W.cell? ⟨w.heap.size, 4, none⟩ = some (.bool false) := hb.cell 4
  have y5 : W.cell? ⟨w.heap.size, 5, none⟩ = some (.int .i64 (fo : Int)) := hb.cell 5
  have y6 : W.cell? ⟨w.heap.size, 6, none⟩ = some (.int .u8 (tl : Int)) := hb.cell 6
  have y7 : W.cell? ⟨w.heap.size, 7, none⟩ = some (.int .u8 (pr : Int)) := hb.cell 7
  have y15 : W.cell? ⟨w.heap.size, 15, none⟩ = some (.slice A n k) := hb.cell 15
  have zb := hb.lt
  go_wp2_with (refine at_op (.load 140 (.tmp 1)) rfl ?_; refine wpList_ldA (t := 140) 140 (.tmp 1) rfl rfl (h4C ts (ln : Int) id false false (fo : Int) tl pr sm false 0 sl false 0 dl A n k) rfl (by with_reducible repeat (first | exact hb | refine Bk.later ?_ (below_plus _ _ _) | refine Bk.alloc ?_ _)) (whole_ _) u1 u2 (szH4 _ _ _ _ _ _ _ _ _ _ _ _ _ _ _ _ _ _) ?_)
  refine (HR.out _).mono ?_
  rintro e w1 ⟨bsr, mr, rfl, rfl⟩
  go_wp2_with (refine at_op (.load 140 (.tmp 1)) rfl ?_; refine wpList_ldA (t := 140) 140 (.tmp 1) rfl rfl (h4C ts (ln : Int) id false false (fo : Int) tl pr sm false 0 sl false 0 dl A n k) rfl (by with_reducible repeat (first | exact hb | refine Bk.later ?_ (below_plus _ _ _) | refine Bk.alloc ?_ _)) (whole_ _) u1 u2 (szH4 _ _ _ _ _ _ _ _ _ _ _ _ _ _ _ _ _ _) ?_)
  refine (HS.out _).mono ?_
  rintro e w1 ⟨bs0, m0, rfl, rfl⟩
  go_wp2_with fail
  refine (put_full _ _ _ [] x0 1 _ Rb.nil_ (by omega) (by omega) (by omega) (by omega)).mono ?_
  rintro e w1 ⟨A1, n1, bs1, m1, rfl, rfl, ho1⟩
  have l1 : n1 ≤ 100 := by rw [← ho1.1]; simp [dig_length]
  go_wp2_with fail
  refine (put_full _ _ _ _ ts 1 _ ho1.rb (by omega) (by omega) (by omega) (by omega)).mono ?_
  rintro e w1 ⟨A2, n2, bs2, m2, rfl, rfl, ho2⟩
  have l2 : n2 ≤ 100 := by rw [← ho2.1]; simp [dig_length]
  go_wp2_with fail
  refine (put_full _ _ _ _ ln 2 _ ho2.rb (by omega) (by omega) (by omega) (by omega)).mono ?_
  rintro e w1 ⟨A3, n3, bs3, m3, rfl, rfl, ho3⟩
  have l3 : n3 ≤ 100 := by rw [← ho3.1]; simp [dig_length]
  go_wp2_with fail
  refine (put_full _ _ _ _ id 2 _ ho3.rb (by omega) (by omega) (by omega) (by omega)).mono ?_
  rintro e w1 ⟨A4, n4, bs4, m4, rfl, rfl, ho4⟩
  have l4 : n4 ≤ 100 := by rw [← ho4.1]; simp [dig_length]
  go_wp2_with fail
  refine (put_full _ _ _ _ p 2 _ ho4.rb (by omega) (by omega) (by omega) (by omega)).mono ?_
  rintro e w1 ⟨A5, n5, bs5, m5, rfl, rfl, ho5⟩
  have l5 : n5 ≤ 100 := by rw [← ho5.1]; simp [dig_length]
  go_wp2_with fail
  refine (put_full _ _ _ _ tl 1 _ ho5.rb (by omega) (by omega) (by omega) (by omega)).mono ?_
  rintro e w1 ⟨A6, n6, bs6, m6, rfl, rfl, ho6⟩
  have l6 : n6 ≤ 100 := by rw [← ho6.1]; simp [dig_length]
  go_wp2_with fail
  refine (put_full _ _ _ _ pr 1 _ ho6.rb (by omega) (by omega) (by omega) (by omega)).mono ?_
  rintro e w1 ⟨A7, n7, bs7, m7, rfl, rfl, ho7⟩
  have l7 : n7 ≤ 100 := by rw [← ho7.1]; simp [dig_length]
  go_wp2_with fail
  refine (put_full _ _ _ _ 0 2 _ ho7.rb (by omega) (by omega) (by omega) (by omega)).mono ?_
  rintro e w1 ⟨A8, n8, bs8, m8, rfl, rfl, ho8⟩
  have l8 : n8 ≤ 100 := by rw [← ho8.1]; simp [dig_length]
  go_wp2_with (refine at_op (.load 26 (.tmp 56)) rfl ?_; refine wpList_ldA (t := 140) (cs := h4C ts (ln : Int) id false false (fo : Int) tl pr sm false 0 sl false 0 dl A n k) 26 (.tmp 56) rfl rfl (adC false 0 sl) rfl (by with_reducible repeat (first | exact hb | refine Bk.later ?_ (below_plus _ _ _) | refine Bk.alloc ?_ _)) rfl v1 v2 (szAd _ _ _) ?_)
  refine (adrBytes_any false 0 sl _ (by omega) (by omega)).mono ?_
  rintro e w1 ⟨A9, n9, bs9, m9, rfl, rfl, ho9⟩
  have l9 : n9 ≤ 100 := by rw [← ho9.1]; have := adrB_length false 0 sl; omega
  go_wp2_with (first
    | (at_builtin; refine wpList_appP _ bt rfl (.tmp 55) (.tmp 58) rfl (by exact belowP (below_plus _ bs8 m8) bs9 m9) rfl (ho8.plus_ bs9 m9) rfl (ho9.rb) (by omega) ?_; intro Aa na ka bsa ma hoa hga)
    | (refine at_op (.load 26 (.tmp 61)) rfl ?_; refine wpList_ldA (t := 140) (cs := h4C ts (ln : Int) id false false (fo : Int) tl pr sm false 0 sl false 0 dl A n k) 26 (.tmp 61) rfl rfl (adC false 0 dl) rfl (by with_reducible repeat (first | exact hb | refine Bk.later ?_ (below_plus _ _ _) | refine Bk.alloc ?_ _)) rfl v1 v2 (szAd _ _ _) ?_))
  have la : na ≤ 300 := by rw [← hoa.1]; have := adrB_length false 0 sl; simp [dig_length]; omega
  refine (adrBytes_any false 0 dl _ (by omega) (by omega)).mono ?_
  rintro e w1 ⟨Ab, nb, bsb, mb, rfl, rfl, hob⟩
  have lb : nb ≤ 100 := by rw [← hob.1]; have := adrB_length false 0 dl; omega
  go_wp2_with (first
    | (at_builtin; refine wpList_appP _ bt rfl (.tmp 60) (.tmp 63) rfl (by exact belowP (below_plus _ bsa ma) bsb mb) rfl (hoa.plus_ bsb mb) rfl (hob.rb) (by omega) ?_; intro Ac nc kc bsc mc hoc hgc; have lc : nc ≤ 500 := (by rw [← hoc.1]; have h1 := adrB_length false 0 sl; have h2 := adrB_length false 0 dl; simp [dig_length]; omega))
    | (at_builtin; refine wpList_appP (l2 := o) _ bt rfl (.tmp 65) (.tmp 67) rfl (by exact below_plus _ bsc mc) rfl (hoc) rfl (by with_reducible repeat (first | exact hrW | refine Rb.plus_ ?_ _ _)) (by omega) ?_; intro Ad nd kd bsd md hod hgd))
  have hL : [] ++ dig x0 1 ++ dig ts 1 ++ dig ln 2 ++ dig id 2 ++ dig p 2 ++ dig tl 1 ++ dig pr 1 ++ dig 0 2 ++ adrB false 0 sl ++ adrB false 0 dl ++ o = ip4B ts ln id p tl pr 0 sl dl o := by rw [hx1.out]; simp [ip4B, adrB]
  rw [hL] at hod
  have hset := Lib.hid (fun s => setB_ip4 ts ln id p tl pr s sl dl o)
  have hlen := ip4B_length ts ln id p tl pr 0 sl dl o
  have hK : Hid (ip4K ts ln id p tl pr sl dl o = 65535 - fd (tot false (ip4B ts ln id p tl pr 0 sl dl o))) := Lib.hid rfl
  clear hL
  generalize ip4B ts ln id p tl pr 0 sl dl o = L0 at *
  rw [hol.out] at hlen
  have HO := Lib.hid (fun w A1 c1 (h : RdL w A1 1 [L0]) => sumOf A1 1 c1 _ w h (by omega) (by simp; omega))
  have hs1 : 65535 - fd (tot false L0) ≤ 65535 := Nat.sub_le _ _
  have hfl : ([L0] : List (List UInt8)).flatten = L0 := by simp
  rw [hfl] at HO
  generalize 65535 - fd (tot false L0) = s at *
  have hnd1 : 10 + 2 ≤ nd := by have := hod.1; omega
  have hnd2 : nd ≤ 549755813888 := by have := hod.1; omega
  have hs2 : s < 18446744073709551616 := by omega
  have gs : IntKind.u64.wrap (s : Int) = (s : Int) := IntWalk.u64_in _ (by omega)
  refine (HO.out _ _ _ (RdL.litW [.slice Ad nd kd] [L0] (by simp [size_plus]) (.cons ⟨_, _, _, rfl, hod.rb⟩ .nil))).mono ?_
  rintro e w1 ⟨rfl, rfl⟩
  go_wp2_with fail
  refine (octSet Ad nd kd L0 10 s 2 _ (hod.rb.alloc _) hnd1 (by decide) (by decide) hs2 hnd2).mono ?_
  rintro e w1 ⟨Ae, ne, ke, bse, me, rfl, rfl, hoe⟩
  go_wp2
  go_ret
  rw [hset.out] at hoe
  rw [hK.out]
  refine RetB.mk (hoe.mono ?_) ?_
  · simp [size_plus]; omega
  · with_reducible repeat (first | exact be | refine belowP ?_ _ _ | refine Below.allocS ?_ _)
set_option maxHeartbeats 4000000 in
set_option maxRecDepth 100000 in
theorem ip4Bytes_ny (ts ln id : Nat) (fo tl pr sm sl dl : Nat) (A : Option Addr) (n k : Nat) (o : List UInt8) (w : World) (hr : Rb w A n k o) (b1 : ts < 256) (b2 : id < 65536) (b3 : tl < 256) (b4 : pr < 256) (b5 : sl < 4294967296) (b6 : dl < 4294967296) (c1 : n ≤ 40) (c2 : n % 4 = 0) (c3 : 20 + n ≤ ln) (c4 : ln ≤ 65535) (c5 : fo ≤ 8191) : Calls Try.prog 109 #[.agg (h4C ts (ln : Int) id false true (fo : Int) tl pr sm false 0 sl false 0 dl A n k).toArray] w (RetB w (ip4B ts ln id (pl4 false true fo) tl pr (ip4K ts ln id (pl4 false true fo) tl pr sl dl o) sl dl o)) := by
  obtain ⟨du, u1, u2⟩ := rowH4
  obtain ⟨dv, v1, v2⟩ := rowAd
  have HR := Lib.hid (fun w => right4 ts (ln : Int) id false true (fo : Int) tl pr sm false 0 sl false 0 dl A n k w (by omega) (by omega) (by omega) (by omega) (by omega) (by omega) (by omega))
  rw [r4_yes n ln fo sl dl c1 c2 c3 c4 c5 b5 b6] at HR
  have HS := Lib.hid (fun w => size4 ts (ln : Int) id false true (fo : Int) tl pr sm false 0 sl false 0 dl A n k w (by omega))
  obtain ⟨z, hz0⟩ : ∃ z : Nat, z = 20 + n := ⟨_, rfl⟩
  rw [← hz0] at HS
  obtain ⟨q, hq⟩ : ∃ q : Nat, q = 5 + n / 4 := ⟨_, rfl⟩
  have g1 : (z : Int).tdiv 4 = (q : Int) := by rw [Int.tdiv_eq_ediv_of_nonneg (by omega)]; omega
  have g2 : IntKind.i64.wrap (q : Int) = (q : Int) := IntWalk.i64_in _ (by omega)
  have g3 := or64 ⟨q, by omega⟩
  obtain ⟨x0, hx0⟩ : ∃ x : Nat, x = 64 + q := ⟨_, rfl⟩
  replace g3 : bits .or .i64 64 (q : Int) = (x0 : Int) := by rw [hx0]; exact g3
  have g4 : IntKind.u64.wrap (x0 : Int) = (x0 : Int) := IntWalk.u64_in _ (by omega)
  have g5 : IntKind.u64.wrap (ts : Int) = (ts : Int) := IntWalk.u64_in _ (by omega)
  have g6 : IntKind.u64.wrap (ln : Int) = (ln : Int) := IntWalk.u64_in _ (by omega)
  have g7 : IntKind.u64.wrap (id : Int) = (id : Int) := IntWalk.u64_in _ (by omega)
  have g8 : IntKind.u64.wrap (tl : Int) = (tl : Int) := IntWalk.u64_in _ (by omega)
  have g9 : IntKind.u64.wrap (pr : Int) = (pr : Int) := IntWalk.u64_in _ (by omega)
  have f1 := or13 fo (by omega)
  have fp : IntKind.u64.wrap (fo : Int) = (fo : Int) := IntWalk.u64_in _ (by omega)
  obtain ⟨p, hp⟩ : ∃ p : Nat, p = fo + 8192 := ⟨_, rfl⟩
  rw [← hp] at f1
  have hpl : pl4 false true fo = p := by simp [pl4]; omega
  have hp6 : p < 65536 := by omega
  have hol := hr.1
  have hx1 : x0 = 69 + o.length / 4 := by omega
  have hb : Bk (w.alloc (.cells (h4C ts (ln : Int) id false true (fo : Int) tl pr sm false 0 sl false 0 dl A n k).toArray 140)) w.heap.size 140 (h4C ts (ln : Int) id false true (fo : Int) tl pr sm false 0 sl false 0 dl A n k) := Bk.new w 140 (h4C ts (ln : Int) id false true (fo : Int) tl pr sm false 0 sl false 0 dl A n k).toArray
  have be : Below w.heap.size w (w.alloc (.cells (h4C ts (ln : Int) id false true (fo : Int) tl pr sm false 0 sl false 0 dl A n k).toArray 140)) := Below.allocS (Below.refl _ _) _
  rw [hpl]
  replace hx1 := Lib.hid hx1
  replace hol := Lib.hid hol
  have hx9 : x0 < 256 := by omega
  clear hpl hx0 hz0 hq hp
  go_enter Try.func109, Try.ntmps109
  go_upto_region 1 with (fail)
  generalize w.alloc (.cells (h4C ts (ln : Int) id false true (fo : Int) tl pr sm false 0 sl false 0 dl A n k).toArray 140) = W at *
  have hrW := hr.later be
  have y0 : W.cell? ⟨w.heap.size, 0, none⟩ = some (.int .u8 (ts : Int)) := hb.cell 0
  have y1 : W.cell? ⟨w.heap.size, 1, none⟩ = some (.int .i64 (ln : Int)) := hb.cell 1
  have y2 : W.cell? ⟨w.heap.size, 2, none⟩ = some (.int .u16 (id : Int)) := hb.cell 2
  have y3 : W.cell? ⟨w.heap.size, 3, none⟩ = some (.bool false) := hb.cell 3
  have y4 : W.cell? ⟨w.heap.size, 4, none⟩ = some (.bool true) := hb.cell 4
  have y5 : W.cell? ⟨w.heap.size, 5, none⟩ = some (.int .i64 (fo : Int)) := hb.cell 5
  have y6 : W.cell? ⟨w.heap.size, 6, none⟩ = some (.int .u8 (tl : Int)) := hb.cell 6
  have y7 : W.cell? ⟨w.heap.size, 7, none⟩ = some (.int .u8 (pr : Int)) := hb.cell 7
  have y15 : W.cell? ⟨w.heap.size, 15, none⟩ = some (.slice A n k) := hb.cell 15
  have zb := hb.lt
  go_wp2_with (refine at_op (.load 140 (.tmp 1)) rfl ?_; refine wpList_ldA (t := 140) 140 (.tmp 1) rfl rfl (h4C ts (ln : Int) id false true (fo : Int) tl pr sm false 0 sl false 0 dl A n k) rfl (by with_reducible repeat (first | exact hb | refine Bk.later ?_ (below_plus _ _ _) | refine Bk.alloc ?_ _)) (whole_ _) u1 u2 (szH4 _ _ _ _ _ _ _ _ _ _ _ _ _ _ _ _ _ _) ?_)
  refine (HR.out _).mono ?_
  rintro e w1 ⟨bsr, mr, rfl, rfl⟩
  go_wp2_with (refine at_op (.load 140 (.tmp 1)) rfl ?_; refine wpList_ldA (t := 140) 140 (.tmp 1) rfl rfl (h4C ts (ln : Int) id false true (fo : Int) tl pr sm false 0 sl false 0 dl A n k) rfl (by with_reducible repeat (first | exact hb | refine Bk.later ?_ (below_plus _ _ _) | refine Bk.alloc ?_ _)) (whole_ _) u1 u2 (szH4 _ _ _ _ _ _ _ _ _ _ _ _ _ _ _ _ _ _) ?_)
  refine (HS.out _).mono ?_
  rintro e w1 ⟨bs0, m0, rfl, rfl⟩
  go_wp2_with fail
  refine (put_full _ _ _ [] x0 1 _ Rb.nil_ (by omega) (by omega) (by omega) (by omega)).mono ?_
  rintro e w1 ⟨A1, n1, bs1, m1, rfl, rfl, ho1⟩
  have l1 : n1 ≤ 100 := by rw [← ho1.1]; simp [dig_length]
  go_wp2_with fail
  refine (put_full _ _ _ _ ts 1 _ ho1.rb (by omega) (by omega) (by omega) (by omega)).mono ?_
  rintro e w1 ⟨A2, n2, bs2, m2, rfl, rfl, ho2⟩
  have l2 : n2 ≤ 100 := by rw [← ho2.1]; simp [dig_length]
  go_wp2_with fail
  refine (put_full _ _ _ _ ln 2 _ ho2.rb (by omega) (by omega) (by omega) (by omega)).mono ?_
  rintro e w1 ⟨A3, n3, bs3, m3, rfl, rfl, ho3⟩
  have l3 : n3 ≤ 100 := by rw [← ho3.1]; simp [dig_length]
  go_wp2_with fail
  refine (put_full _ _ _ _ id 2 _ ho3.rb (by omega) (by omega) (by omega) (by omega)).mono ?_
  rintro e w1 ⟨A4, n4, bs4, m4, rfl, rfl, ho4⟩
  have l4 : n4 ≤ 100 := by rw [← ho4.1]; simp [dig_length]
  go_wp2_with fail
  refine (put_full _ _ _ _ p 2 _ ho4.rb (by omega) (by omega) (by omega) (by omega)).mono ?_
  rintro e w1 ⟨A5, n5, bs5, m5, rfl, rfl, ho5⟩
  have l5 : n5 ≤ 100 := by rw [← ho5.1]; simp [dig_length]
  go_wp2_with fail
  refine (put_full _ _ _ _ tl 1 _ ho5.rb (by omega) (by omega) (by omega) (by omega)).mono ?_
  rintro e w1 ⟨A6, n6, bs6, m6, rfl, rfl, ho6⟩
  have l6 : n6 ≤ 100 := by rw [← ho6.1]; simp [dig_length]
  go_wp2_with fail
  refine (put_full _ _ _ _ pr 1 _ ho6.rb (by omega) (by omega) (by omega) (by omega)).mono ?_
  rintro e w1 ⟨A7, n7, bs7, m7, rfl, rfl, ho7⟩
  have l7 : n7 ≤ 100 := by rw [← ho7.1]; simp [dig_length]
  go_wp2_with fail
  refine (put_full _ _ _ _ 0 2 _ ho7.rb (by omega) (by omega) (by omega) (by omega)).mono ?_
  rintro e w1 ⟨A8, n8, bs8, m8, rfl, rfl, ho8⟩
  have l8 : n8 ≤ 100 := by rw [← ho8.1]; simp [dig_length]
  go_wp2_with (refine at_op (.load 26 (.tmp 56)) rfl ?_; refine wpList_ldA (t := 140) (cs := h4C ts (ln : Int) id false true (fo : Int) tl pr sm false 0 sl false 0 dl A n k) 26 (.tmp 56) rfl rfl (adC false 0 sl) rfl (by with_reducible repeat (first | exact hb | refine Bk.later ?_ (below_plus _ _ _) | refine Bk.alloc ?_ _)) rfl v1 v2 (szAd _ _ _) ?_)
  refine (adrBytes_any false 0 sl _ (by omega) (by omega)).mono ?_
  rintro e w1 ⟨A9, n9, bs9, m9, rfl, rfl, ho9⟩
  have l9 : n9 ≤ 100 := by rw [← ho9.1]; have := adrB_length false 0 sl; omega
  go_wp2_with (first
    | (at_builtin; refine wpList_appP _ bt rfl (.tmp 55) (.tmp 58) rfl (by exact belowP (below_plus _ bs8 m8) bs9 m9) rfl (ho8.plus_ bs9 m9) rfl (ho9.rb) (by omega) ?_; intro Aa na ka bsa ma hoa hga)
    | (refine at_op (.load 26 (.tmp 61)) rfl ?_; refine wpList_ldA (t := 140) (cs := h4C ts (ln : Int) id false true (fo : Int) tl pr sm false 0 sl false 0 dl A n k) 26 (.tmp 61) rfl rfl (adC false 0 dl) rfl (by with_reducible repeat (first | exact hb | refine Bk.later ?_ (below_plus _ _ _) | refine Bk.alloc ?_ _)) rfl v1 v2 (szAd _ _ _) ?_))
  have la : na ≤ 300 := by rw [← hoa.1]; have := adrB_length false 0 sl; simp [dig_length]; omega
  refine (adrBytes_any false 0 dl _ (by omega) (by omega)).mono ?_
  rintro e w1 ⟨Ab, nb, bsb, mb, rfl, rfl, hob⟩
  have lb : nb ≤ 100 := by rw [← hob.1]; have := adrB_length false 0 dl; omega
  go_wp2_with (first
    | (at_builtin; refine wpList_appP _ bt rfl (.tmp 60) (.tmp 63) rfl (by exact belowP (below_plus _ bsa ma) bsb mb) rfl (hoa.plus_ bsb mb) rfl (hob.rb) (by omega) ?_; intro Ac nc kc bsc mc hoc hgc; have lc : nc ≤ 500 := (by rw [← hoc.1]; have h1 := adrB_length false 0 sl; have h2 := adrB_length false 0 dl; simp [dig_length]; omega))
    | (at_builtin; refine wpList_appP (l2 := o) _ bt rfl (.tmp 65) (.tmp 67) rfl (by exact below_plus _ bsc mc) rfl (hoc) rfl (by with_reducible repeat (first | exact hrW | refine Rb.plus_ ?_ _ _)) (by omega) ?_; intro Ad nd kd bsd md hod hgd))
  have hL : [] ++ dig x0 1 ++ dig ts 1 ++ dig ln 2 ++ dig id 2 ++ dig p 2 ++ dig tl 1 ++ dig pr 1 ++ dig 0 2 ++ adrB false 0 sl ++ adrB false 0 dl ++ o = ip4B ts ln id p tl pr 0 sl dl o := by rw [hx1.out]; simp [ip4B, adrB]
  rw [hL] at hod
  have hset := Lib.hid (fun s => setB_ip4 ts ln id p tl pr s sl dl o)
  have hlen := ip4B_length ts ln id p tl pr 0 sl dl o
  have hK : Hid (ip4K ts ln id p tl pr sl dl o = 65535 - fd (tot false (ip4B ts ln id p tl pr 0 sl dl o))) := Lib.hid rfl
  clear hL
  generalize ip4B ts ln id p tl pr 0 sl dl o = L0 at *
  rw [hol.out] at hlen
  have HO := Lib.hid (fun w A1 c1 (h : RdL w A1 1 [L0]) => sumOf A1 1 c1 _ w h (by omega) (by simp; omega))
  have hs1 : 65535 - fd (tot false L0) ≤ 65535 := Nat.sub_le _ _
  have hfl : ([L0] : List (List UInt8)).flatten = L0 := by simp
  rw [hfl] at HO
  generalize 65535 - fd (tot false L0) = s at *
  have hnd1 : 10 + 2 ≤ nd := by have := hod.1; omega
  have hnd2 : nd ≤ 549755813888 := by have := hod.1; omega
  have hs2 : s < 18446744073709551616 := by omega
  have gs : IntKind.u64.wrap (s : Int) = (s : Int) := IntWalk.u64_in _ (by omega)
  refine (HO.out _ _ _ (RdL.litW [.slice Ad nd kd] [L0] (by simp [size_plus]) (.cons ⟨_, _, _, rfl, hod.rb⟩ .nil))).mono ?_
  rintro e w1 ⟨rfl, rfl⟩
  go_wp2_with fail
  refine (octSet Ad nd kd L0 10 s 2 _ (hod.rb.alloc _) hnd1 (by decide) (by decide) hs2 hnd2).mono ?_
  rintro e w1 ⟨Ae, ne, ke, bse, me, rfl, rfl, hoe⟩
  go_wp2
  go_ret
  rw [hset.out] at hoe
  rw [hK.out]
  refine RetB.mk (hoe.mono ?_) ?_
  · simp [size_plus]; omega
  · with_reducible repeat (first | exact be | refine belowP ?_ _ _ | refine Below.allocS ?_ _)
set_option maxHeartbeats 4000000 in
set_option maxRecDepth 100000 in
theorem ip4Bytes_yn (ts ln id : Nat) (fo tl pr sm sl dl : Nat) (A : Option Addr) (n k : Nat) (o : List UInt8) (w : World) (hr : Rb w A n k o) (b1 : ts < 256) (b2 : id < 65536) (b3 : tl < 256) (b4 : pr < 256) (b5 : sl < 4294967296) (b6 : dl < 4294967296) (c1 : n ≤ 40) (c2 : n % 4 = 0) (c3 : 20 + n ≤ ln) (c4 : ln ≤ 65535) (c5 : fo ≤ 8191) : Calls Try.prog 109 #[.agg (h4C ts (ln : Int) id true false (fo : Int) tl pr sm false 0 sl false 0 dl A n k).toArray] w (RetB w (ip4B ts ln id (pl4 true false fo) tl pr (ip4K ts ln id (pl4 true false fo) tl pr sl dl o) sl dl o)) := by
  obtain ⟨du, u1, u2⟩ := rowH4
  obtain ⟨dv, v1, v2⟩ := rowAd
  have HR := Lib.hid (fun w => right4 ts (ln : Int) id true false (fo : Int) tl pr sm false 0 sl false 0 dl A n k w (by omega) (by omega) (by omega) (by omega) (by omega) (by omega) (by omega))
  rw [r4_yes n ln fo sl dl c1 c2 c3 c4 c5 b5 b6] at HR
  have HS := Lib.hid (fun w => size4 ts (ln : Int) id true false (fo : Int) tl pr sm false 0 sl false 0 dl A n k w (by omega))
  obtain ⟨z, hz0⟩ : ∃ z : Nat, z = 20 + n := ⟨_, rfl⟩
  rw [← hz0] at HS
  obtain ⟨q, hq⟩ : ∃ q : Nat, q = 5 + n / 4 := ⟨_, rfl⟩
  have g1 : (z : Int).tdiv 4 = (q : Int) := by rw [Int.tdiv_eq_ediv_of_nonneg (by omega)]; omega
  have g2 : IntKind.i64.wrap (q : Int) = (q : Int) := IntWalk.i64_in _ (by omega)
  have g3 := or64 ⟨q, by omega⟩
  obtain ⟨x0, hx0⟩ : ∃ x : Nat, x = 64 + q := ⟨_, rfl⟩
  replace g3 : bits .or .i64 64 (q : Int) = (x0 : Int) := by rw [hx0]; exact g3
  have g4 : IntKind.u64.wrap (x0 : Int) = (x0 : Int) := IntWalk.u64_in _ (by omega)
  have g5 : IntKind.u64.wrap (ts : Int) = (ts : Int) := IntWalk.u64_in _ (by omega)
  have g6 : IntKind.u64.wrap (ln : Int) = (ln : Int) := IntWalk.u64_in _ (by omega)
  have g7 : IntKind.u64.wrap (id : Int) = (id : Int) := IntWalk.u64_in _ (by omega)
  have g8 : IntKind.u64.wrap (tl : Int) = (tl : Int) := IntWalk.u64_in _ (by omega)
  have g9 : IntKind.u64.wrap (pr : Int) = (pr : Int) := IntWalk.u64_in _ (by omega)
  have f1 := or14 fo (by omega)
  have fp : IntKind.u64.wrap (fo : Int) = (fo : Int) := IntWalk.u64_in _ (by omega)
  obtain ⟨p, hp⟩ : ∃ p : Nat, p = fo + 16384 := ⟨_, rfl⟩
  rw [← hp] at f1
  have hpl : pl4 true false fo = p := by simp [pl4]; omega
  have hp6 : p < 65536 := by omega
  have hol := hr.1
  have hx1 : x0 = 69 + o.length / 4 := by omega
  have hb : Bk (w.alloc (.cells (h4C ts (ln : Int) id true false (fo : Int) tl pr sm false 0 sl false 0 dl A n k).toArray 140)) w.heap.size 140 (h4C ts (ln : Int) id true false (fo : Int) tl pr sm false 0 sl false 0 dl A n k) := Bk.new w 140 (h4C ts (ln : Int) id true false (fo : Int) tl pr sm false 0 sl false 0 dl A n k).toArray
  have be : Below w.heap.size w (w.alloc (.cells (h4C ts (ln : Int) id true false (fo : Int) tl pr sm false 0 sl false 0 dl A n k).toArray 140)) := Below.allocS (Below.refl _ _) _
  rw [hpl]
  replace hx1 := Lib.hid hx1
  replace hol := Lib.hid hol
  have hx9 : x0 < 256 := by omega
  clear hpl hx0 hz0 hq hp
  go_enter Try.func109, Try.ntmps109
  go_upto_region 1 with (fail)
  generalize w.alloc (.cells (h4C ts (ln : Int) id true false (fo : Int) tl pr sm false 0 sl false 0 dl A n k).toArray 140) = W at *
  have hrW := hr.later be
  have y0 : W.cell? ⟨w.heap.size, 0, none⟩ = some (.int .u8 (ts : Int)) := hb.cell 0
  have y1 : W.cell? ⟨w.heap.size, 1, none⟩ = some (.int .i64 (ln : Int)) := hb.cell 1
  have y2 : W.cell? ⟨w.heap.size, 2, none⟩ = some (.int .u16 (id : Int)) := hb.cell 2
  have y3 : W.cell? ⟨w.heap.size, 3, none⟩ = some (.bool true) := hb.cell 3
  have y4 : W.cell? ⟨w.heap.size, 4, none⟩ = some (.bool false) := hb.cell 4
  have y5 : W.cell? ⟨w.heap.size, 5, none⟩ = some (.int .i64 (fo : Int)) := hb.cell 5
  have y6 : W.cell? ⟨w.heap.size, 6, none⟩ = some (.int .u8 (tl : Int)) := hb.cell 6
  have y7 : W.cell? ⟨w.heap.size, 7, none⟩ = some (.int .u8 (pr : Int)) := hb.cell 7
  have y15 : W.cell? ⟨w.heap.size, 15, none⟩ = some (.slice A n k) := hb.cell 15
  have zb := hb.lt
  go_wp2_with (refine at_op (.load 140 (.tmp 1)) rfl ?_; refine wpList_ldA (t := 140) 140 (.tmp 1) rfl rfl (h4C ts (ln : Int) id true false (fo : Int) tl pr sm false 0 sl false 0 dl A n k) rfl (by with_reducible repeat (first | exact hb | refine Bk.later ?_ (below_plus _ _ _) | refine Bk.alloc ?_ _)) (whole_ _) u1 u2 (szH4 _ _ _ _ _ _ _ _ _ _ _ _ _ _ _ _ _ _) ?_)
  refine (HR.out _).mono ?_
  rintro e w1 ⟨bsr, mr, rfl, rfl⟩
  go_wp2_with (refine at_op (.load 140 (.tmp 1)) rfl ?_; refine wpList_ldA (t := 140) 140 (.tmp 1) rfl rfl (h4C ts (ln : Int) id true false (fo : Int) tl pr sm false 0 sl false 0 dl A n k) rfl (by with_reducible repeat (first | exact hb | refine Bk.later ?_ (below_plus _ _ _) | refine Bk.alloc ?_ _)) (whole_ _) u1 u2 (szH4 _ _ _ _ _ _ _ _ _ _ _ _ _ _ _ _ _ _) ?_)
  refine (HS.out _).mono ?_
  rintro e w1 ⟨bs0, m0, rfl, rfl⟩
  go_wp2_with fail
  refine (put_full _ _ _ [] x0 1 _ Rb.nil_ (by omega) (by omega) (by omega) (by omega)).mono ?_
  rintro e w1 ⟨A1, n1, bs1, m1, rfl, rfl, ho1⟩
  have l1 : n1 ≤ 100 := by rw [← ho1.1]; simp [dig_length]
  go_wp2_with fail
  refine (put_full _ _ _ _ ts 1 _ ho1.rb (by omega) (by omega) (by omega) (by omega)).mono ?_
  rintro e w1 ⟨A2, n2, bs2, m2, rfl, rfl, ho2⟩
  have l2 : n2 ≤ 100 := by rw [← ho2.1]; simp [dig_length]
  go_wp2_with fail
  refine (put_full _ _ _ _ ln 2 _ ho2.rb (by omega) (by omega) (by omega) (by omega)).mono ?_
  rintro e w1 ⟨A3, n3, bs3, m3, rfl, rfl, ho3⟩
  have l3 : n3 ≤ 100 := by rw [← ho3.1]; simp [dig_length]
  go_wp2_with fail
  refine (put_full _ _ _ _ id 2 _ ho3.rb (by omega) (by omega) (by omega) (by omega)).mono ?_
  rintro e w1 ⟨A4, n4, bs4, m4, rfl, rfl, ho4⟩
  have l4 : n4 ≤ 100 := by rw [← ho4.1]; simp [dig_length]
  go_wp2_with fail
  refine (put_full _ _ _ _ p 2 _ ho4.rb (by omega) (by omega) (by omega) (by omega)).mono ?_
  rintro e w1 ⟨A5, n5, bs5, m5, rfl, rfl, ho5⟩
  have l5 : n5 ≤ 100 := by rw [← ho5.1]; simp [dig_length]
  go_wp2_with fail
  refine (put_full _ _ _ _ tl 1 _ ho5.rb (by omega) (by omega) (by omega) (by omega)).mono ?_
  rintro e w1 ⟨A6, n6, bs6, m6, rfl, rfl, ho6⟩
  have l6 : n6 ≤ 100 := by rw [← ho6.1]; simp [dig_length]
  go_wp2_with fail
  refine (put_full _ _ _ _ pr 1 _ ho6.rb (by omega) (by omega) (by omega) (by omega)).mono ?_
  rintro e w1 ⟨A7, n7, bs7, m7, rfl, rfl, ho7⟩
  have l7 : n7 ≤ 100 := by rw [← ho7.1]; simp [dig_length]
  go_wp2_with fail
  refine (put_full _ _ _ _ 0 2 _ ho7.rb (by omega) (by omega) (by omega) (by omega)).mono ?_
  rintro e w1 ⟨A8, n8, bs8, m8, rfl, rfl, ho8⟩
  have l8 : n8 ≤ 100 := by rw [← ho8.1]; simp [dig_length]
  go_wp2_with (refine at_op (.load 26 (.tmp 56)) rfl ?_; refine wpList_ldA (t := 140) (cs := h4C ts (ln : Int) id true false (fo : Int) tl pr sm false 0 sl false 0 dl A n k) 26 (.tmp 56) rfl rfl (adC false 0 sl) rfl (by with_reducible repeat (first | exact hb | refine Bk.later ?_ (below_plus _ _ _) | refine Bk.alloc ?_ _)) rfl v1 v2 (szAd _ _ _) ?_)
  refine (adrBytes_any false 0 sl _ (by omega) (by omega)).mono ?_
  rintro e w1 ⟨A9, n9, bs9, m9, rfl, rfl, ho9⟩
  have l9 : n9 ≤ 100 := by rw [← ho9.1]; have := adrB_length false 0 sl; omega
  go_wp2_with (first
    | (at_builtin; refine wpList_appP _ bt rfl (.tmp 55) (.tmp 58) rfl (by exact belowP (below_plus _ bs8 m8) bs9 m9) rfl (ho8.plus_ bs9 m9) rfl (ho9.rb) (by omega) ?_; intro Aa na ka bsa ma hoa hga)
    | (refine at_op (.load 26 (.tmp 61)) rfl ?_; refine wpList_ldA (t := 140) (cs := h4C ts (ln : Int) id true false (fo : Int) tl pr sm false 0 sl false 0 dl A n k) 26 (.tmp 61) rfl rfl (adC false 0 dl) rfl (by with_reducible repeat (first | exact hb | refine Bk.later ?_ (below_plus _ _ _) | refine Bk.alloc ?_ _)) rfl v1 v2 (szAd _ _ _) ?_))
  have la : na ≤ 300 := by rw [← hoa.1]; have := adrB_length false 0 sl; simp [dig_length]; omega
  refine (adrBytes_any false 0 dl _ (by omega) (by omega)).mono ?_
  rintro e w1 ⟨Ab, nb, bsb, mb, rfl, rfl, hob⟩
  have lb : nb ≤ 100 := by rw [← hob.1]; have := adrB_length false 0 dl; omega
  go_wp2_with (first
    | (at_builtin; refine wpList_appP _ bt rfl (.tmp 60) (.tmp 63) rfl (by exact belowP (below_plus _ bsa ma) bsb mb) rfl (hoa.plus_ bsb mb) rfl (hob.rb) (by omega) ?_; intro Ac nc kc bsc mc hoc hgc; have lc : nc ≤ 500 := (by rw [← hoc.1]; have h1 := adrB_length false 0 sl; have h2 := adrB_length false 0 dl; simp [dig_length]; omega))
    | (at_builtin; refine wpList_appP (l2 := o) _ bt rfl (.tmp 65) (.tmp 67) rfl (by exact below_plus _ bsc mc) rfl (hoc) rfl (by with_reducible repeat (first | exact hrW | refine Rb.plus_ ?_ _ _)) (by omega) ?_; intro Ad nd kd bsd md hod hgd))
  have hL : [] ++ dig x0 1 ++ dig ts 1 ++ dig ln 2 ++ dig id 2 ++ dig p 2 ++ dig tl 1 ++ dig pr 1 ++ dig 0 2 ++ adrB false 0 sl ++ adrB false 0 dl ++ o = ip4B ts ln id p tl pr 0 sl dl o := by rw [hx1.out]; simp [ip4B, adrB]
  rw [hL] at hod
  have hset := Lib.hid (fun s => setB_ip4 ts ln id p tl pr s sl dl o)
  have hlen := ip4B_length ts ln id p tl pr 0 sl dl o
  have hK : Hid (ip4K ts ln id p tl pr sl dl o = 65535 - fd (tot false (ip4B ts ln id p tl pr 0 sl dl o))) := Lib.hid rfl
  clear hL
  generalize ip4B ts ln id p tl pr 0 sl dl o = L0 at *
  rw [hol.out] at hlen
  have HO := Lib.hid (fun w A1 c1 (h : RdL w A1 1 [L0]) => sumOf A1 1 c1 _ w h (by omega) (by simp; omega))
  have hs1 : 65535 - fd (tot false L0) ≤ 65535 := Nat.sub_le _ _
  have hfl : ([L0] : List (List UInt8)).flatten = L0 := by simp
  rw [hfl] at HO
  generalize 65535 - fd (tot false L0) = s at *
  have hnd1 : 10 + 2 ≤ nd := by have := hod.1; omega
  have hnd2 : nd ≤ 549755813888 := by have := hod.1; omega
  have hs2 : s < 18446744073709551616 := by omega
  have gs : IntKind.u64.wrap (s : Int) = (s : Int) := IntWalk.u64_in _ (by omega)
  refine (HO.out _ _ _ (RdL.litW [.slice Ad nd kd] [L0] (by simp [size_plus]) (.cons ⟨_, _, _, rfl, hod.rb⟩ .nil))).mono ?_
  rintro e w1 ⟨rfl, rfl⟩
  go_wp2_with fail
  refine (octSet Ad nd kd L0 10 s 2 _ (hod.rb.alloc _) hnd1 (by decide) (by decide) hs2 hnd2).mono ?_
  rintro e w1 ⟨Ae, ne, ke, bse, me, rfl, rfl, hoe⟩
  go_wp2
  go_ret
  rw [hset.out] at hoe
  rw [hK.out]
  refine RetB.mk (hoe.mono ?_) ?_
  · simp [size_plus]; omega
  · with_reducible repeat (first | exact be | refine belowP ?_ _ _ | refine Below.allocS ?_ _)
set_option maxHeartbeats 4000000 in
set_option maxRecDepth 100000 in
theorem ip4Bytes_yy (ts ln id : Nat) (fo tl pr sm sl dl : Nat) (A : Option Addr) (n k : Nat) (o : List UInt8) (w : World) (hr : Rb w A n k o) (b1 : ts < 256) (b2 : id < 65536) (b3 : tl < 256) (b4 : pr < 256) (b5 : sl < 4294967296) (b6 : dl < 4294967296) (c1 : n ≤ 40) (c2 : n % 4 = 0) (c3 : 20 + n ≤ ln) (c4 : ln ≤ 65535) (c5 : fo ≤ 8191) : Calls Try.prog 109 #[.agg (h4C ts (ln : Int) id true true (fo : Int) tl pr sm false 0 sl false 0 dl A n k).toArray] w (RetB w (ip4B ts ln id (pl4 true true fo) tl pr (ip4K ts ln id (pl4 true true fo) tl pr sl dl o) sl dl o)) := by
  obtain ⟨du, u1, u2⟩ := rowH4
  obtain ⟨dv, v1, v2⟩ := rowAd
  have HR := Lib.hid (fun w => right4 ts (ln : Int) id true true (fo : Int) tl pr sm false 0 sl false 0 dl A n k w (by omega) (by omega) (by omega) (by omega) (by omega) (by omega) (by omega))
  rw [r4_yes n ln fo sl dl c1 c2 c3 c4 c5 b5 b6] at HR
  have HS := Lib.hid (fun w => size4 ts (ln : Int) id true true (fo : Int) tl pr sm false 0 sl false 0 dl A n k w (by omega))
  obtain ⟨z, hz0⟩ : ∃ z : Nat, z = 20 + n := ⟨_, rfl⟩
  rw [← hz0] at HS
  obtain ⟨q, hq⟩ : ∃ q : Nat, q = 5 + n / 4 := ⟨_, rfl⟩
  have g1 : (z : Int).tdiv 4 = (q : Int) := by rw [Int.tdiv_eq_ediv_of_nonneg (by omega)]; omega
  have g2 : IntKind.i64.wrap (q : Int) = (q : Int) := IntWalk.i64_in _ (by omega)
  have g3 := or64 ⟨q, by omega⟩
  obtain ⟨x0, hx0⟩ : ∃ x : Nat, x = 64 + q := ⟨_, rfl⟩
  replace g3 : bits .or .i64 64 (q : Int) = (x0 : Int) := by rw [hx0]; exact g3
  have g4 : IntKind.u64.wrap (x0 : Int) = (x0 : Int) := IntWalk.u64_in _ (by omega)
  have g5 : IntKind.u64.wrap (ts : Int) = (ts : Int) := IntWalk.u64_in _ (by omega)
  have g6 : IntKind.u64.wrap (ln : Int) = (ln : Int) := IntWalk.u64_in _ (by omega)
  have g7 : IntKind.u64.wrap (id : Int) = (id : Int) := IntWalk.u64_in _ (by omega)
  have g8 : IntKind.u64.wrap (tl : Int) = (tl : Int) := IntWalk.u64_in _ (by omega)
  have g9 : IntKind.u64.wrap (pr : Int) = (pr : Int) := IntWalk.u64_in _ (by omega)
  have f1 := or14 fo (by omega)
  have f2 := or1413 fo (by omega)
  have fp : IntKind.u64.wrap (fo : Int) = (fo : Int) := IntWalk.u64_in _ (by omega)
  obtain ⟨p1, hp1⟩ : ∃ p : Nat, p = fo + 16384 := ⟨_, rfl⟩
  rw [← hp1] at f1 f2
  obtain ⟨p, hp⟩ : ∃ p : Nat, p = p1 + 8192 := ⟨_, rfl⟩
  rw [← hp] at f2
  have hpl : pl4 true true fo = p := by simp [pl4]; omega
  have hp6 : p < 65536 := by omega
  have hol := hr.1
  have hx1 : x0 = 69 + o.length / 4 := by omega
  have hb : Bk (w.alloc (.cells (h4C ts (ln : Int) id true true (fo : Int) tl pr sm false 0 sl false 0 dl A n k).toArray 140)) w.heap.size 140 (h4C ts (ln : Int) id true true (fo : Int) tl pr sm false 0 sl false 0 dl A n k) := Bk.new w 140 (h4C ts (ln : Int) id true true (fo : Int) tl pr sm false 0 sl false 0 dl A n k).toArray
  have be : Below w.heap.size w (w.alloc (.cells (h4C ts (ln : Int) id true true (fo : Int) tl pr sm false 0 sl false 0 dl A n k).toArray 140)) := Below.allocS (Below.refl _ _) _
  rw [hpl]
  replace hx1 := Lib.hid hx1
  replace hol := Lib.hid hol
  have hx9 : x0 < 256 := by omega
  clear hpl hx0 hz0 hq hp hp1
  go_enter Try.func109, Try.ntmps109
  go_upto_region 1 with (fail)
  generalize w.alloc (.cells (h4C ts (ln : Int) id true true (fo : Int) tl pr sm false 0 sl false 0 dl A n k).toArray 140) = W at *
  have hrW := hr.later be
  have y0 : W.cell? ⟨w.heap.size, 0, none⟩ = some (.int .u8 (ts : Int)) := hb.cell 0
  have y1 : W.cell? ⟨w.heap.size, 1, none⟩ = some (.int .i64 (ln : Int)) := hb.cell 1
  have y2 : W.cell? ⟨w.heap.size, 2, none⟩ = some (.int .u16 (id : Int)) := hb.cell 2
  have y3 : W.cell? ⟨w.heap.size, 3, none⟩ = some (.bool true) := hb.cell 3
  have y4 : W.cell? ⟨w.heap.size, 4, none⟩ = some (.bool true) := hb.cell 4
  have y5 : W.cell? ⟨w.heap.size, 5, none⟩ = some (.int .i64 (fo : Int)) := hb.cell 5
  have y6 : W.cell? ⟨w.heap.size, 6, none⟩ = some (.int .u8 (tl : Int)) := hb.cell 6
  have y7 : W.cell? ⟨w.heap.size, 7, none⟩ = some (.int .u8 (pr : Int)) := hb.cell 7
  have y15 : W.cell? ⟨w.heap.size, 15, none⟩ = some (.slice A n k) := hb.cell 15
  have zb := hb.lt
  go_wp2_with (refine at_op (.load 140 (.tmp 1)) rfl ?_; refine wpList_ldA (t := 140) 140 (.tmp 1) rfl rfl (h4C ts (ln : Int) id true true (fo : Int) tl pr sm false 0 sl false 0 dl A n k) rfl (by with_reducible repeat (first | exact hb | refine Bk.later ?_ (below_plus _ _ _) | refine Bk.alloc ?_ _)) (whole_ _) u1 u2 (szH4 _ _ _ _ _ _ _ _ _ _ _ _ _ _ _ _ _ _) ?_)
  refine (HR.out _).mono ?_
  rintro e w1 ⟨bsr, mr, rfl, rfl⟩
  go_wp2_with (refine at_op (.load 140 (.tmp 1)) rfl ?_; refine wpList_ldA (t := 140) 140 (.tmp 1) rfl rfl (h4C ts (ln : Int) id true true (fo : Int) tl pr sm false 0 sl false 0 dl A n k) rfl (by with_reducible repeat (first | exact hb | refine Bk.later ?_ (below_plus _ _ _) | refine Bk.alloc ?_ _)) (whole_ _) u1 u2 (szH4 _ _ _ _ _ _ _ _ _ _ _ _ _ _ _ _ _ _) ?_)
  refine (HS.out _).mono ?_
  rintro e w1 ⟨bs0, m0, rfl, rfl⟩
  go_wp2_with fail
  refine (put_full _ _ _ [] x0 1 _ Rb.nil_ (by omega) (by omega) (by omega) (by omega)).mono ?_
  rintro e w1 ⟨A1, n1, bs1, m1, rfl, rfl, ho1⟩
  have l1 : n1 ≤ 100 := by rw [← ho1.1]; simp [dig_length]
  go_wp2_with fail
  refine (put_full _ _ _ _ ts 1 _ ho1.rb (by omega) (by omega) (by omega) (by omega)).mono ?_
  rintro e w1 ⟨A2, n2, bs2, m2, rfl, rfl, ho2⟩
  have l2 : n2 ≤ 100 := by rw [← ho2.1]; simp [dig_length]
  go_wp2_with fail
  refine (put_full _ _ _ _ ln 2 _ ho2.rb (by omega) (by omega) (by omega) (by omega)).mono ?_
  rintro e w1 ⟨A3, n3, bs3, m3, rfl, rfl, ho3⟩
  have l3 : n3 ≤ 100 := by rw [← ho3.1]; simp [dig_length]
  go_wp2_with fail
  refine (put_full _ _ _ _ id 2 _ ho3.rb (by omega) (by omega) (by omega) (by omega)).mono ?_
  rintro e w1 ⟨A4, n4, bs4, m4, rfl, rfl, ho4⟩
  have l4 : n4 ≤ 100 := by rw [← ho4.1]; simp [dig_length]
  go_wp2_with fail
  refine (put_full _ _ _ _ p 2 _ ho4.rb (by omega) (by omega) (by omega) (by omega)).mono ?_
  rintro e w1 ⟨A5, n5, bs5, m5, rfl, rfl, ho5⟩
  have l5 : n5 ≤ 100 := by rw [← ho5.1]; simp [dig_length]
  go_wp2_with fail
  refine (put_full _ _ _ _ tl 1 _ ho5.rb (by omega) (by omega) (by omega) (by omega)).mono ?_
  rintro e w1 ⟨A6, n6, bs6, m6, rfl, rfl, ho6⟩
  have l6 : n6 ≤ 100 := by rw [← ho6.1]; simp [dig_length]
  go_wp2_with fail
  refine (put_full _ _ _ _ pr 1 _ ho6.rb (by omega) (by omega) (by omega) (by omega)).mono ?_
  rintro e w1 ⟨A7, n7, bs7, m7, rfl, rfl, ho7⟩
  have l7 : n7 ≤ 100 := by rw [← ho7.1]; simp [dig_length]
  go_wp2_with fail
  refine (put_full _ _ _ _ 0 2 _ ho7.rb (by omega) (by omega) (by omega) (by omega)).mono ?_
  rintro e w1 ⟨A8, n8, bs8, m8, rfl, rfl, ho8⟩
  have l8 : n8 ≤ 100 := by rw [← ho8.1]; simp [dig_length]
  go_wp2_with (refine at_op (.load 26 (.tmp 56)) rfl ?_; refine wpList_ldA (t := 140) (cs := h4C ts (ln : Int) id true true (fo : Int) tl pr sm false 0 sl false 0 dl A n k) 26 (.tmp 56) rfl rfl (adC false 0 sl) rfl (by with_reducible repeat (first | exact hb | refine Bk.later ?_ (below_plus _ _ _) | refine Bk.alloc ?_ _)) rfl v1 v2 (szAd _ _ _) ?_)
  refine (adrBytes_any false 0 sl _ (by omega) (by omega)).mono ?_
  rintro e w1 ⟨A9, n9, bs9, m9, rfl, rfl, ho9⟩
  have l9 : n9 ≤ 100 := by rw [← ho9.1]; have := adrB_length false 0 sl; omega
  go_wp2_with (first
    | (at_builtin; refine wpList_appP _ bt rfl (.tmp 55) (.tmp 58) rfl (by exact belowP (below_plus _ bs8 m8) bs9 m9) rfl (ho8.plus_ bs9 m9) rfl (ho9.rb) (by omega) ?_; intro Aa na ka bsa ma hoa hga)
    | (refine at_op (.load 26 (.tmp 61)) rfl ?_; refine wpList_ldA (t := 140) (cs := h4C ts (ln : Int) id true true (fo : Int) tl pr sm false 0 sl false 0 dl A n k) 26 (.tmp 61) rfl rfl (adC false 0 dl) rfl (by with_reducible repeat (first | exact hb | refine Bk.later ?_ (below_plus _ _ _) | refine Bk.alloc ?_ _)) rfl v1 v2 (szAd _ _ _) ?_))
  have la : na ≤ 300 := by rw [← hoa.1]; have := adrB_length false 0 sl; simp [dig_length]; omega
  refine (adrBytes_any false 0 dl _ (by omega) (by omega)).mono ?_
  rintro e w1 ⟨Ab, nb, bsb, mb, rfl, rfl, hob⟩
  have lb : nb ≤ 100 := by rw [← hob.1]; have := adrB_length false 0 dl; omega
  go_wp2_with (first
    | (at_builtin; refine wpList_appP _ bt rfl (.tmp 60) (.tmp 63) rfl (by exact belowP (below_plus _ bsa ma) bsb mb) rfl (hoa.plus_ bsb mb) rfl (hob.rb) (by omega) ?_; intro Ac nc kc bsc mc hoc hgc; have lc : nc ≤ 500 := (by rw [← hoc.1]; have h1 := adrB_length false 0 sl; have h2 := adrB_length false 0 dl; simp [dig_length]; omega))
    | (at_builtin; refine wpList_appP (l2 := o) _ bt rfl (.tmp 65) (.tmp 67) rfl (by exact below_plus _ bsc mc) rfl (hoc) rfl (by with_reducible repeat (first | exact hrW | refine Rb.plus_ ?_ _ _)) (by omega) ?_; intro Ad nd kd bsd md hod hgd))
  have hL : [] ++ dig x0 1 ++ dig ts 1 ++ dig ln 2 ++ dig id 2 ++ dig p 2 ++ dig tl 1 ++ dig pr 1 ++ dig 0 2 ++ adrB false 0 sl ++ adrB false 0 dl ++ o = ip4B ts ln id p tl pr 0 sl dl o := by rw [hx1.out]; simp [ip4B, adrB]
  rw [hL] at hod
  have hset := Lib.hid (fun s => setB_ip4 ts ln id p tl pr s sl dl o)
  have hlen := ip4B_length ts ln id p tl pr 0 sl dl o
  have hK : Hid (ip4K ts ln id p tl pr sl dl o = 65535 - fd (tot false (ip4B ts ln id p tl pr 0 sl dl o))) := Lib.hid rfl
  clear hL
  generalize ip4B ts ln id p tl pr 0 sl dl o = L0 at *
  rw [hol.out] at hlen
  have HO := Lib.hid (fun w A1 c1 (h : RdL w A1 1 [L0]) => sumOf A1 1 c1 _ w h (by omega) (by simp; omega))
  have hs1 : 65535 - fd (tot false L0) ≤ 65535 := Nat.sub_le _ _
  have hfl : ([L0] : List (List UInt8)).flatten = L0 := by simp
  rw [hfl] at HO
  generalize 65535 - fd (tot false L0) = s at *
  have hnd1 : 10 + 2 ≤ nd := by have := hod.1; omega
  have hnd2 : nd ≤ 549755813888 := by have := hod.1; omega
  have hs2 : s < 18446744073709551616 := by omega
  have gs : IntKind.u64.wrap (s : Int) = (s : Int) := IntWalk.u64_in _ (by omega)
  refine (HO.out _ _ _ (RdL.litW [.slice Ad nd kd] [L0] (by simp [size_plus]) (.cons ⟨_, _, _, rfl, hod.rb⟩ .nil))).mono ?_
  rintro e w1 ⟨rfl, rfl⟩
  go_wp2_with fail
  refine (octSet Ad nd kd L0 10 s 2 _ (hod.rb.alloc _) hnd1 (by decide) (by decide) hs2 hnd2).mono ?_
  rintro e w1 ⟨Ae, ne, ke, bse, me, rfl, rfl, hoe⟩
  go_wp2
  go_ret
  rw [hset.out] at hoe
  rw [hK.out]
  refine RetB.mk (hoe.mono ?_) ?_
  · simp [size_plus]; omega
  · with_reducible repeat (first | exact be | refine belowP ?_ _ _ | refine Below.allocS ?_ _)
theorem ip4Bytes_yes (ts ln id : Nat) (st mo : Bool) (fo tl pr sm sl dl : Nat) (A : Option Addr) (n k : Nat) (o : List UInt8) (w : World) (hr : Rb w A n k o) (b1 : ts < 256) (b2 : id < 65536) (b3 : tl < 256) (b4 : pr < 256) (b5 : sl < 4294967296) (b6 : dl < 4294967296) (c1 : n ≤ 40) (c2 : n % 4 = 0) (c3 : 20 + n ≤ ln) (c4 : ln ≤ 65535) (c5 : fo ≤ 8191) : Calls Try.prog 109 #[.agg (h4C ts (ln : Int) id st mo (fo : Int) tl pr sm false 0 sl false 0 dl A n k).toArray] w (RetB w (ip4B ts ln id (pl4 st mo fo) tl pr (ip4K ts ln id (pl4 st mo fo) tl pr sl dl o) sl dl o)) := by
  cases st
  · cases mo
    · exact ip4Bytes_nn ts ln id fo tl pr sm sl dl A n k o w hr b1 b2 b3 b4 b5 b6 c1 c2 c3 c4 c5
    · exact ip4Bytes_ny ts ln id fo tl pr sm sl dl A n k o w hr b1 b2 b3 b4 b5 b6 c1 c2 c3 c4 c5
  · cases mo
    · exact ip4Bytes_yn ts ln id fo tl pr sm sl dl A n k o w hr b1 b2 b3 b4 b5 b6 c1 c2 c3 c4 c5
    · exact ip4Bytes_yy ts ln id fo tl pr sm sl dl A n k o w hr b1 b2 b3 b4 b5 b6 c1 c2 c3 c4 c5
end Go.Proofs.Ytfmkndemkpecpaa
