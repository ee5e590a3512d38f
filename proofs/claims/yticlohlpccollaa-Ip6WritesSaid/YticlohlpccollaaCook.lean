/- The package cookie: mask, Right, Word, Of, Hide, Seek. -/
import Derived.Test.YticlohlpccollaaRingA
import Derived.Test.YticlohlpccollaaSipF
import Derived.Test.YticlohlpccollaaAddr
namespace Go.Proofs.Yticlohlpccollaa
open Go.RowKit
set_option linter.unusedVariables false
set_option linter.unusedSimpArgs false
attribute [local go_sem ↓] sliced_cut
attribute [local go_sem] cutA_zero

/-- a flow -/
structure Flw where
  s6 : Bool
  sh : Nat
  sl : Nat
  d6 : Bool
  dh : Nat
  dl : Nat
  sp : Nat
  dp : Nat
  pr : Nat
structure Flw.ok (f : Flw) : Prop where
  sh : f.sh < 18446744073709551616
  sl : f.sl < 18446744073709551616
  dh : f.dh < 18446744073709551616
  dl : f.dl < 18446744073709551616
  sp : f.sp < 65536
  dp : f.dp < 65536
  pr : f.pr < 256
def Flw.cells (f : Flw) : List Value := [.bool f.s6, .int .u64 f.sh, .int .u64 f.sl, .bool f.d6, .int .u64 f.dh, .int .u64 f.dl, .int .u16 f.sp, .int .u16 f.dp, .int .u8 f.pr]
def Flw.key (f : Flw) : List UInt8 := flowB f.s6 f.sh f.sl f.d6 f.dh f.dl f.sp f.dp f.pr
theorem Flw.key_length (f : Flw) : f.key.length ≤ 40 := by
  have h1 := adrB_length f.s6 f.sh f.sl
  have h2 := adrB_length f.d6 f.dh f.dl
  simp [Flw.key, flowB, dig_length]
  omega
theorem Flw.whole (f : Flw) : ((f.cells).drop 0).take (f.cells).length = f.cells := by rw [List.drop_zero]; exact List.take_of_length_le (Nat.le_refl _)
theorem szFlow (f : Flw) : (Try.prog.info? 79).map (·.size) = some f.cells.length := by kernel_rfl
theorem rowFlow : ∃ d, Try.prog.underlying 79 = some d ∧ d.isRow = true := ⟨_, Try.underlying79, rfl⟩
theorem keyF_any (f : Flw) (hf : f.ok) (w : World) : Calls Try.prog 155 #[.agg f.cells.toArray] w (RetF w f.key) := adrKey_any _ _ _ _ _ _ _ _ _ w hf.sh hf.sl hf.dh hf.dl hf.sp hf.dp hf.pr

/-- what hides the words of a flow -/
noncomputable def mskN (key : List UInt8) (f : Flw) : Nat := (sip key (f.key ++ [1])).toNat % 32768
theorem mskN_lt (key : List UInt8) (f : Flw) : mskN key f < 32768 := Nat.mod_lt _ (by decide)
set_option maxHeartbeats 1000000 in
set_option maxRecDepth 100000 in
theorem ckMask_any (key : List UInt8) (hk : K16 key) (f : Flw) (hf : f.ok) (w : World) : Calls Try.prog 117 #[.agg (bcs key).toArray, .agg f.cells.toArray] w (RetV w (.int .u16 (mskN key f : Int))) := by
  obtain ⟨dk, u1, u2, u3⟩ := rowKey
  obtain ⟨df, v1, v2⟩ := rowFlow
  have hb0 : Bk ((w.alloc (.cells (bcs key).toArray 53)).alloc (.cells f.cells.toArray 79)) w.heap.size 53 (bcs key) := (Bk.new w 53 (bcs key).toArray).alloc _
  have hb1 : Bk ((w.alloc (.cells (bcs key).toArray 53)).alloc (.cells f.cells.toArray 79)) (w.heap.size + 1) 79 f.cells := Bk.newK _ _ _ (by simp) rfl
  have be : Below w.heap.size w ((w.alloc (.cells (bcs key).toArray 53)).alloc (.cells f.cells.toArray 79)) := Below.allocS (Below.allocS (Below.refl _ _) _) _
  have hm := mskN_lt key f
  have hz := f.key_length
  go_enter Try.func117, Try.ntmps117
  go_wp2_with (refine at_op (.load 79 (.tmp 3)) rfl ?_; refine wpList_ldA (t := 79) 79 (.tmp 3) rfl rfl f.cells rfl hb1 f.whole v1 v2 (szFlow f) ?_)
  refine (keyF_any f hf _).mono ?_
  rintro e w1 ⟨A1, n1, bs1, d1, rfl, rfl, ho1⟩
  have l1 : n1 ≤ 100 := by rw [← ho1.1]; omega
  go_wp2_with fail
  refine (put_full _ _ _ _ 1 1 _ ho1.rb (by omega) (by omega) (by omega) (by omega)).mono ?_
  rintro e w1 ⟨A2, n2, bs2, d2, rfl, rfl, ho2⟩
  have l2 : n2 ≤ 100 := by rw [← ho2.1]; simp [dig_length]; omega
  go_wp2_with (refine at_op (.load 53 (.tmp 2)) rfl ?_; refine wpList_ldA (t := 53) 53 (.tmp 2) rfl rfl (bcs key) rfl ((hb0.later (below_plus _ _ _)).later (below_plus _ _ _)) (bcs_whole key) u1 u2 (szKey key hk) ?_)
  refine (sum_any key hk _ _ _ _ _ ho2.rb (by omega)).mono ?_
  rintro e w1 ⟨bs3, d3, rfl, rfl⟩
  go_wp2_with fail
  have hs := (sip key (f.key ++ dig 1 1)).toNat_lt
  refine (fold_in _ 15 _ hs (by omega) (by omega)).mono ?_
  rintro e w1 ⟨rfl, rfl⟩
  have hq : (sip key (f.key ++ dig 1 1)).toNat % 2 ^ 15 = mskN key f := rfl
  rw [hq]
  clear hq hs
  generalize mskN key f = M at *
  go_wp2
  go_ret
  exact RetV.mk (belowP (belowP (belowP be _ _) _ _) _ _)

set_option maxHeartbeats 1000000 in
set_option maxRecDepth 100000 in
theorem plRight_yes (v s : Nat) (w : World) (hv : v < 8) (hs : s < 4096) : Calls Try.prog 51 #[.agg #[.int .i64 (v : Int), .int .i64 (s : Int)]] w (RetV w (.bool true)) := by
  go_enter Try.func51, Try.ntmps51
  go_wp2
  go_ret
  exact RetV.is_ (by simp; omega) ((Below.refl _ _).alloc (Nat.le_refl _) _)
set_option maxHeartbeats 1000000 in
set_option maxRecDepth 100000 in
theorem plWord_any (v s : Nat) (w : World) (hv : v < 8) (hs : s < 4096) : Calls Try.prog 52 #[.agg #[.int .i64 (v : Int), .int .i64 (s : Int)]] w (RetV w (.int .u16 ((4096 * v + s : Nat) : Int))) := by
  go_enter Try.func52, Try.ntmps52
  go_wp2_with (go_at_call 51; refine (plRight_yes _ _ _ hv hs).mono ?_; rintro e w1 ⟨bs1, d1, rfl, rfl⟩)
  go_ret
  exact RetV.is_ (by simp) (belowP ((Below.refl _ _).alloc (Nat.le_refl _) _) _ _)
theorem and_15 (x : Nat) (h : x < 65536) : bits .and .u16 (x : Int) 32767 = ((x % 32768 : Nat) : Int) := by
  have := u16_and_nat x 32767 h (by decide)
  rw [show (32767 : Nat) = 2 ^ 15 - 1 from rfl, Nat.and_two_pow_sub_one_eq_mod] at this
  exact this
set_option maxHeartbeats 1000000 in
set_option maxRecDepth 100000 in
theorem ckOf_any (x : Nat) (w : World) (h : x < 65536) : Calls Try.prog 47 #[.int .u16 (x : Int)] w (RetV w (.agg #[.int .i64 ((x % 32768 / 4096 : Nat) : Int), .int .i64 ((x % 32768 % 4096 : Nat) : Int)])) := by
  have h1 := and_15 x h
  have h2 : x % 32768 < 32768 := Nat.mod_lt _ (by decide)
  generalize x % 32768 = y at *
  go_enter Try.func47, Try.ntmps47
  go_wp2
  refine bodyPost_ret (v := .agg #[.int .i64 ((y / 4096 : Nat) : Int), .int .i64 ((y % 4096 : Nat) : Int)]) (by simp [results, Try.results47, go_sem]) rfl (RetV.mk ?_)
  exact Below.allocS (Below.refl _ _) _

def plC (v s : Nat) : List Value := [.int .i64 (v : Int), .int .i64 (s : Int)]
theorem plC_whole (v s : Nat) : ((plC v s).drop 0).take (plC v s).length = plC v s := rfl
theorem szPl (v s : Nat) : (Try.prog.info? 82).map (·.size) = some (plC v s).length := by kernel_rfl
theorem rowPl : ∃ d, Try.prog.underlying 82 = some d ∧ d.isRow = true := ⟨_, Try.underlying82, rfl⟩
/-- what hides a word: the bit ahead of it -/
def hidN (b wd m : Nat) : Nat := b * 32768 + (wd ^^^ m)
theorem hid_or (b wd m : Nat) (hb : b < 2) (hw : wd < 32768) (hm : m < 32768) : bits .or .u16 ((b : Int) * 32768) (bits .xor .u16 (wd : Int) (m : Int)) = ((hidN b wd m : Nat) : Int) := by
  rw [u16_xor_nat wd m (by omega) (by omega)]
  have hx : wd ^^^ m < 2 ^ 15 := Nat.xor_lt_two_pow hw hm
  have e : ((b : Int) * 32768) = ((b * 32768 : Nat) : Int) := by simp
  rw [e, u16_or_nat _ _ (by omega) (by omega)]
  congr 1
  rw [show b * 32768 = 2 ^ 15 * b from by omega, ← Nat.two_pow_add_eq_or_of_lt hx]
  unfold hidN
  omega
theorem hidN_lt (b wd m : Nat) (hb : b < 2) (hw : wd < 32768) (hm : m < 32768) : hidN b wd m < 65536 := by
  have hx : wd ^^^ m < 2 ^ 15 := Nat.xor_lt_two_pow hw hm
  unfold hidN
  omega
set_option maxHeartbeats 2000000 in
set_option maxRecDepth 100000 in
theorem ckHide_any (key : List UInt8) (hk : K16 key) (n : Nat) (f : Flw) (hf : f.ok) (v s : Nat) (w : World) (hn : n < 18446744073709551616) (hv : v < 8) (hs : s < 4096) : Calls Try.prog 48 #[.agg (ringC key n).toArray, .agg f.cells.toArray, .agg (plC v s).toArray] w
    (RetV w (.tuple #[.int .u16 (hidN (n % 2) (4096 * v + s) (mskN (derK key n) f) : Nat), .int .i64 0])) := by
  obtain ⟨dk, u1, u2, u3⟩ := rowKey
  obtain ⟨dr, v1, v2, v3⟩ := rowRing
  obtain ⟨df, x1, x2⟩ := rowFlow
  obtain ⟨dp, y1, y2⟩ := rowPl
  have hkd : K16 (derK key n) := K16_of _ _
  have hld : (bcs (derK key n)).length = (bcs key0).length := by rw [derK_length]; rfl
  have b0 : Bk (((w.alloc (.cells (ringC key n).toArray 55)).alloc (.cells f.cells.toArray 79)).alloc (.cells (plC v s).toArray 82)) w.heap.size 55 (ringC key n) := ((Bk.new w 55 (ringC key n).toArray).alloc _).alloc _
  have b1 : Bk (((w.alloc (.cells (ringC key n).toArray 55)).alloc (.cells f.cells.toArray 79)).alloc (.cells (plC v s).toArray 82)) (w.heap.size + 1) 79 f.cells := (Bk.newK _ _ _ (by simp) rfl).alloc _
  have b2 : Bk (((w.alloc (.cells (ringC key n).toArray 55)).alloc (.cells f.cells.toArray 79)).alloc (.cells (plC v s).toArray 82)) (w.heap.size + 1 + 1) 82 (plC v s) := Bk.newK _ _ _ (by simp) rfl
  have be : Below w.heap.size w (((w.alloc (.cells (ringC key n).toArray 55)).alloc (.cells f.cells.toArray 79)).alloc (.cells (plC v s).toArray 82)) := Below.allocS (Below.allocS (Below.allocS (Below.refl _ _) _) _) _
  go_enter Try.func48, Try.ntmps48
  go_wp2_with (refine at_op (.load 82 (.tmp 5)) rfl ?_; refine wpList_ldA (t := 82) 82 (.tmp 5) rfl rfl (plC v s) rfl b2 (plC_whole v s) y1 y2 (szPl v s) ?_)
  refine (plRight_yes v s _ hv hs).mono ?_
  rintro e w1 ⟨bs1, d1, rfl, rfl⟩
  replace b0 := b0.later (below_plus _ bs1 d1)
  replace b1 := b1.later (below_plus _ bs1 d1)
  replace b2 := b2.later (below_plus _ bs1 d1)
  replace be := belowP be bs1 d1
  generalize plus (((w.alloc (.cells (ringC key n).toArray 55)).alloc (.cells f.cells.toArray 79)).alloc (.cells (plC v s).toArray 82)) bs1 d1 = W at *
  have hbR := b0
  go_wp2
  refine wp_relE 8 31 [4, 5, 6] rfl (by kernel_rfl) (by kernel_rfl) (fun i => match i with | 0 => MP.eq (.agg (ringC key n).toArray) | 1 => MP.eq (.agg (ringC key n).toArray) | 2 => MP.eq (.int .i64 ((n % 2 : Nat) : Int)) | 3 => MP.eq (.tuple #[.agg (bcs (derK key n)).toArray, .bool true]) | 4 => MP.eq (.tuple #[.agg (bcs (derK key n)).toArray, .bool true]) | 5 => MP.eq (.agg (bcs (derK key n)).toArray) | 6 => MP.eq (.bool true) | 7 => MP.blk W.heap.size 53 (bcs key0) | _ => MP.any) ?_ ?_
  · intro i hi o ho FA x hO hD
    match i, hi, ho, hO, hD with
    | 0, _, ho, hO, hD => 
      obtain rfl := Option.some.inj ho.symm
      clear ho
      have ev3 : FA.eval (.tmp 3) = .pointer (some ⟨w.heap.size, 0, none⟩) := hO 3 (by kernel_rfl)
      have e3 : FA.tmps[3]?.getD undef = .pointer (some ⟨w.heap.size, 0, none⟩) := by simpa [Act.eval] using ev3
      replace ev3 := Lib.hid ev3
      clear hO hD
      rw [if_neg (by decide)]
      intro K hK
      refine wanted_if rfl ?_
      refine wp_load_mid 55 (.tmp 3) rfl w.heap.size 0 ev3.out (ringC key n) _ (Bk.range (hbR.later (below_plus _ _ _))) v1 v2 (szRing key hk n) ?_
      exact hK.out _ _ (Ex.refl _) rfl
    | 1, _, ho, hO, hD => 
      obtain rfl := Option.some.inj ho.symm
      clear ho
      have ev3 : FA.eval (.tmp 3) = .pointer (some ⟨w.heap.size, 0, none⟩) := hO 3 (by kernel_rfl)
      have e3 : FA.tmps[3]?.getD undef = .pointer (some ⟨w.heap.size, 0, none⟩) := by simpa [Act.eval] using ev3
      replace ev3 := Lib.hid ev3
      clear hO hD
      rw [if_neg (by decide)]
      intro K hK
      refine wanted_if rfl ?_
      refine wp_load_mid 55 (.tmp 3) rfl w.heap.size 0 ev3.out (ringC key n) _ (Bk.range (hbR.later (below_plus _ _ _))) v1 v2 (szRing key hk n) ?_
      exact hK.out _ _ (Ex.refl _) rfl
    | 2, _, ho, hO, hD => 
      obtain rfl := Option.some.inj ho.symm
      clear ho
      have ev15 : FA.eval (.tmp 15) = .agg (ringC key n).toArray := hD 1 15 (by kernel_rfl)
      have e15 : FA.tmps[15]?.getD undef = .agg (ringC key n).toArray := by simpa [Act.eval] using ev15
      replace ev15 := Lib.hid ev15
      clear hO hD
      rw [if_neg (by decide)]
      intro K hK
      go_simp
      refine (ringBit_any key hk n _ hn).mono ?_
      rintro e w1 ⟨bs2, d2, rfl, rfl⟩
      exact hK.out _ _ (Ex.plus_ _ _ _) rfl
    | 3, _, ho, hO, hD => 
      obtain rfl := Option.some.inj ho.symm
      clear ho
      have ev14 : FA.eval (.tmp 14) = .agg (ringC key n).toArray := hD 0 14 (by kernel_rfl)
      have e14 : FA.tmps[14]?.getD undef = .agg (ringC key n).toArray := by simpa [Act.eval] using ev14
      replace ev14 := Lib.hid ev14
      have ev16 : FA.eval (.tmp 16) = .int .i64 ((n % 2 : Nat) : Int) := hD 2 16 (by kernel_rfl)
      have e16 : FA.tmps[16]?.getD undef = .int .i64 ((n % 2 : Nat) : Int) := by simpa [Act.eval] using ev16
      replace ev16 := Lib.hid ev16
      clear hO hD
      rw [if_neg (by decide)]
      intro K hK
      go_simp
      refine (ringAt_now key hk n _ _ hn rfl).mono ?_
      rintro e w1 ⟨bs2, d2, rfl, rfl⟩
      exact hK.out _ _ (Ex.plus_ _ _ _) rfl
    | 4, _, ho, hO, hD => 
      obtain rfl := Option.some.inj ho.symm
      clear ho
      have ev17 : FA.eval (.tmp 17) = .tuple #[.agg (bcs (derK key n)).toArray, .bool true] := hD 3 17 (by kernel_rfl)
      have e17 : FA.tmps[17]?.getD undef = .tuple #[.agg (bcs (derK key n)).toArray, .bool true] := by simpa [Act.eval] using ev17
      replace ev17 := Lib.hid ev17
      clear hO hD
      rw [if_pos (by decide)]
      refine ⟨.tuple #[.agg (bcs (derK key n)).toArray, .bool true], .inl ⟨by simp [Region.wanted], fun w => ?_⟩, rfl⟩
      go_simp
    | 5, _, ho, hO, hD => 
      obtain rfl := Option.some.inj ho.symm
      clear ho
      have ev13 : FA.eval (.tmp 13) = .tuple #[.agg (bcs (derK key n)).toArray, .bool true] := hD 4 13 (by kernel_rfl)
      have e13 : FA.tmps[13]?.getD undef = .tuple #[.agg (bcs (derK key n)).toArray, .bool true] := by simpa [Act.eval] using ev13
      replace ev13 := Lib.hid ev13
      clear hO hD
      rw [if_pos (by decide)]
      refine ⟨.agg (bcs (derK key n)).toArray, .inl ⟨by simp [Region.wanted], fun w => ?_⟩, rfl⟩
      go_simp
    | 6, _, ho, hO, hD => 
      obtain rfl := Option.some.inj ho.symm
      clear ho
      have ev13 : FA.eval (.tmp 13) = .tuple #[.agg (bcs (derK key n)).toArray, .bool true] := hD 4 13 (by kernel_rfl)
      have e13 : FA.tmps[13]?.getD undef = .tuple #[.agg (bcs (derK key n)).toArray, .bool true] := by simpa [Act.eval] using ev13
      replace ev13 := Lib.hid ev13
      clear hO hD
      rw [if_pos (by decide)]
      refine ⟨.bool true, .inl ⟨by simp [Region.wanted], fun w => ?_⟩, rfl⟩
      go_simp
    | 7, _, ho, hO, hD => 
      obtain rfl := Option.some.inj ho.symm
      clear ho
      clear hO hD
      rw [if_neg (by decide)]
      intro K hK
      go_simp
      refine hK.out _ _ (Ex.alloc _ _) ⟨_, rfl, ?_, ?_⟩
      · simp [size_plus]
      · refine Bk.newK _ _ _ ?_ rfl
        simp [size_plus]
    | (k + 8), hi, _, _, _ => exact absurd hi (by omega)
  intro vs x hp
  have p0 : vs 0 = .agg (ringC key n).toArray := hp 0 (by omega)
  have p1 : vs 1 = .agg (ringC key n).toArray := hp 1 (by omega)
  have p2 : vs 2 = .int .i64 ((n % 2 : Nat) : Int) := hp 2 (by omega)
  have p3 : vs 3 = .tuple #[.agg (bcs (derK key n)).toArray, .bool true] := hp 3 (by omega)
  have p4 : vs 4 = .tuple #[.agg (bcs (derK key n)).toArray, .bool true] := hp 4 (by omega)
  have p5 : vs 5 = .agg (bcs (derK key n)).toArray := hp 5 (by omega)
  have p6 : vs 6 = .bool true := hp 6 (by omega)
  have p7 := hp 7 (by omega)
  clear hp
  simp only [List.take_succ_cons, List.take_zero, List.drop_succ_cons, List.drop_zero, putAll, Nat.zero_add, Nat.reduceAdd, Act.put, List.setIfInBounds_toArray, List.set_cons_zero, List.set_cons_succ, p0, p1, p2, p3, p4, p5, p6]
  clear p0 p1 p2 p3 p4 p5 p6
  generalize vs 7 = y7 at *
  clear vs
  obtain ⟨g4, rfl, hg4, hb4⟩ := p7
  go_upto_region 4 with (refine at_op (.store 53 (.tmp 8) (.tmp 18)) rfl ?_; refine wpList_stA (t := 53) 53 (.tmp 8) (.tmp 18) rfl rfl (bcs (derK key n)) (bcs key0) hld (bcs_one _) rfl rfl hb4 (szKey _ hkd) ?_; intro w4 hk4 hgr4)
  refine NoPanic.normal ?_
  have z0 := b0.lt
  have z1 := b1.lt
  have z2 := b2.lt
  have zb := be.size
  have r4 : Bk w4 w.heap.size 55 (ringC key n) := (b0.later (below_plus _ x.bs x.d)).grown hgr4 (by simp; omega)
  have f4 : Bk w4 (w.heap.size + 1) 79 f.cells := (b1.later (below_plus _ x.bs x.d)).grown hgr4 (by simp; omega)
  have p4 : Bk w4 (w.heap.size + 1 + 1) 82 (plC v s) := (b2.later (below_plus _ x.bs x.d)).grown hgr4 (by simp; omega)
  have be4 : Below w.heap.size w w4 := below_grown (belowP be _ _) hgr4 (by omega)
  clear b0 b1 b2 be hgr4 hb4 hbR
  have hm2 : n % 2 < 2 := Nat.mod_lt _ (by decide)
  have HB := Lib.hid (fun w => ringBit_any key hk n w hn)
  have HM := Lib.hid (fun w => ckMask_any (derK key n) hkd f hf w)
  have hm := mskN_lt (derK key n) f
  have HO := hid_or (n % 2) (4096 * v + s) (mskN (derK key n) f) hm2 (by omega) hm
  have HW := Lib.hid (fun w => plWord_any v s w hv hs)
  generalize n % 2 = b at *
  generalize mskN (derK key n) f = M at *
  generalize hidN b (4096 * v + s) M = R at *
  have hwd : 4096 * v + s < 32768 := by omega
  generalize 4096 * v + s = wd at *
  go_wp2
  refine wp_plus (by kernel_rfl) (by kernel_rfl) ?_
  repeat (first
    | (go_big_quiet_want; refine at_opQ (.load 55 (.tmp 3)) rfl ?_; refine quiet_ldA (t := 55) 55 (.tmp 3) rfl (ringC key n) rfl (fun w' hw' => by obtain ⟨x, rfl⟩ := hw'; exact r4.later (below_plus _ _ _)) (ringC_whole key n) v1 v2 (szRing key hk n) ?_; simp only [Act.put, List.setIfInBounds_toArray, List.set_cons_zero, List.set_cons_succ]; go_big_quiet_on)
    | (go_big_quiet_want; refine at_opQ (.load 82 (.tmp 5)) rfl ?_; refine quiet_ldA (t := 82) 82 (.tmp 5) rfl (plC v s) rfl (fun w' hw' => by obtain ⟨x, rfl⟩ := hw'; exact p4.later (below_plus _ _ _)) (plC_whole v s) y1 y2 (szPl v s) ?_; simp only [Act.put, List.setIfInBounds_toArray, List.set_cons_zero, List.set_cons_succ]; go_big_quiet_on)
    | (go_big_quiet_want; refine at_opQ (.load 53 (.tmp 8)) rfl ?_; refine quiet_ldA (t := 53) 53 (.tmp 8) rfl (bcs (derK key n)) rfl (fun w' hw' => by obtain ⟨x, rfl⟩ := hw'; exact hk4.later (below_plus _ _ _)) (bcs_whole _) u1 u2 (szKey _ hkd) ?_; simp only [Act.put, List.setIfInBounds_toArray, List.set_cons_zero, List.set_cons_succ]; go_big_quiet_on)
    | (go_big_quiet_want; refine at_opQ (.load 79 (.tmp 4)) rfl ?_; refine quiet_ldA (t := 79) 79 (.tmp 4) rfl (f.cells) rfl (fun w' hw' => by obtain ⟨x, rfl⟩ := hw'; exact f4.later (below_plus _ _ _)) (f.whole) x1 x2 (szFlow f) ?_; simp only [Act.put, List.setIfInBounds_toArray, List.set_cons_zero, List.set_cons_succ]; go_big_quiet_on)
    | go_big_quiet_step (first
      | (go_at_call 116; exact callP (HB.out _))
      | (go_at_call 52; exact callP (HW.out _))
      | (go_at_call 117; exact callP (HM.out _))))
  refine wpQuiet_nil ?_
  rintro _ ⟨x2, rfl⟩
  go_wp2
  go_ret2
  exact RetV.is_ rfl (belowP be4 _ _)

set_option maxHeartbeats 2000000 in
set_option maxRecDepth 100000 in
theorem ckSeek_at (key : List UInt8) (hk : K16 key) (n : Nat) (f : Flw) (hf : f.ok) (c : Nat) (kk : List UInt8) (hkk : K16 kk) (w : World) (hn : n < 18446744073709551616) (hc : c < 65536)
    (HAT : ∀ w, Calls Try.prog 106 #[.agg (ringC key n).toArray, .int .i64 ((c : Int) / 32768)] w (RetV w (.tuple #[.agg (bcs kk).toArray, .bool true]))) : Calls Try.prog 49 #[.agg (ringC key n).toArray, .agg f.cells.toArray, .int .u16 c] w
    (RetV w (.tuple #[.agg (plC ((c ^^^ mskN kk f) % 32768 / 4096) ((c ^^^ mskN kk f) % 32768 % 4096)).toArray, .int .i64 0])) := by
  replace HAT := Lib.hid HAT
  obtain ⟨dk, u1, u2, u3⟩ := rowKey
  obtain ⟨dr, v1, v2, v3⟩ := rowRing
  obtain ⟨df, x1, x2⟩ := rowFlow
  obtain ⟨dp, y1, y2⟩ := rowPl
  have hld : (bcs kk).length = (bcs key0).length := by rw [bcs_length, show kk.length = 16 from hkk]; rfl
  have b0 : Bk (((w.alloc (.cells (ringC key n).toArray 55)).alloc (.cells f.cells.toArray 79)).alloc (.cells (plC 0 0).toArray 82)) w.heap.size 55 (ringC key n) := ((Bk.new w 55 (ringC key n).toArray).alloc _).alloc _
  have b1 : Bk (((w.alloc (.cells (ringC key n).toArray 55)).alloc (.cells f.cells.toArray 79)).alloc (.cells (plC 0 0).toArray 82)) (w.heap.size + 1) 79 f.cells := (Bk.newK _ _ _ (by simp) rfl).alloc _
  have b2 : Bk (((w.alloc (.cells (ringC key n).toArray 55)).alloc (.cells f.cells.toArray 79)).alloc (.cells (plC 0 0).toArray 82)) (w.heap.size + 1 + 1) 82 (plC 0 0) := Bk.newK _ _ _ (by simp) rfl
  have be : Below w.heap.size w (((w.alloc (.cells (ringC key n).toArray 55)).alloc (.cells f.cells.toArray 79)).alloc (.cells (plC 0 0).toArray 82)) := Below.allocS (Below.allocS (Below.allocS (Below.refl _ _) _) _) _
  have hm := mskN_lt kk f
  have HX := u16_xor_nat c (mskN kk f) hc (by omega)
  have hxl : c ^^^ mskN kk f < 2 ^ 16 := Nat.xor_lt_two_pow hc (by omega)
  have HM := Lib.hid (fun w => ckMask_any kk hkk f hf w)
  have HO := Lib.hid (fun w => ckOf_any (c ^^^ mskN kk f) w hxl)
  generalize (c ^^^ mskN kk f) % 32768 / 4096 = V at *
  generalize (c ^^^ mskN kk f) % 32768 % 4096 = S at *
  generalize c ^^^ mskN kk f = X at *
  generalize mskN kk f = M at *
  go_enter Try.func49, Try.ntmps49
  go_wp2_with (refine at_op (.load 55 (.tmp 3)) rfl ?_; refine wpList_ldA (t := 55) 55 (.tmp 3) rfl rfl (ringC key n) rfl (by exact b0) (ringC_whole key n) v1 v2 (szRing key hk n) ?_)
  refine (HAT.out _).mono ?_
  rintro e w1 ⟨bs1, d1, rfl, rfl⟩
  go_upto_region 2 with (refine at_op (.store 53 (.tmp 8) (.tmp 16)) rfl ?_; refine wpList_stA (t := 53) 53 (.tmp 8) (.tmp 16) rfl rfl (bcs kk) (bcs key0) hld (bcs_one _) rfl rfl ?_ (szKey _ hkk) ?_; (· refine Bk.newK _ _ _ ?_ rfl; simp [size_plus]); intro w4 hk4 hgr4)
  have z0 := b0.lt
  have z1 := b1.lt
  have z2 := b2.lt
  have zb := be.size
  have f4 : Bk w4 (w.heap.size + 1) 79 f.cells := ((b1.later (below_plus _ bs1 d1)).alloc _).grown hgr4 (by simp at *; omega)
  have p4 : Bk w4 (w.heap.size + 1 + 1) 82 (plC 0 0) := ((b2.later (below_plus _ bs1 d1)).alloc _).grown hgr4 (by simp at *; omega)
  have be4 : Below w.heap.size w w4 := below_grown (Below.allocS (belowP be _ _) _) hgr4 (by omega)
  clear b0 b1 b2 be hgr4
  generalize w.heap.size + 1 + 1 + 1 + bs1.length = g4 at *
  go_wp2_with (first
    | (refine at_op (.load 53 (.tmp 8)) rfl ?_; refine wpList_ldA (t := 53) 53 (.tmp 8) rfl rfl (bcs kk) rfl hk4 (bcs_whole _) u1 u2 (szKey _ hkk) ?_)
    | (refine at_op (.load 79 (.tmp 4)) rfl ?_; refine wpList_ldA (t := 79) 79 (.tmp 4) rfl rfl f.cells rfl f4 f.whole x1 x2 (szFlow f) ?_)
    | (go_at_call 117; refine (HM.out _).mono ?_; rintro e w5 ⟨bs5, d5, rfl, rfl⟩)
    | (go_at_call 47; refine (HO.out _).mono ?_; rintro e w6 ⟨bs6, d6, rfl, rfl⟩)
    | (refine at_op (.store 82 (.tmp 6) (.tmp 26)) rfl ?_; refine wpList_stA (t := 82) 82 (.tmp 6) (.tmp 26) rfl rfl (plC V S) (plC 0 0) rfl (by intro u hu; simp [plC] at hu; rcases hu with rfl | rfl <;> rfl) rfl rfl ((p4.later (below_plus _ _ _)).later (below_plus _ _ _)) (szPl V S) ?_; intro w7 hk7 hgr7))
  refine bodyPost_agg2 Try.results49 rfl rfl hk7.range y1 y2 (szPl V S) rfl (RetV.mk ?_)
  exact below_grown (belowP (belowP be4 _ _) _ _) hgr7 (by omega)
end Go.Proofs.Yticlohlpccollaa
