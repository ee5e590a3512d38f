/- cid.Make and counterfoilref13.Make. -/
import Derived.Test.YtldecdeiibfekaaCidR
import Derived.Test.YtldecdeiibfekaaRet
import Derived.Deep.DeepCutAuto
namespace Go.Proofs.Ytldecdeiibfekaa
open Go.RowKit
set_option linter.unusedVariables false
set_option linter.unusedSimpArgs false
attribute [local go_sem ↓] sliced_cut
attribute [local go_sem] cutA_zero

theorem ringAtRef (key : List UInt8) (hk : K16 key) (n : Nat) (w : World) (hn : n < 18446744073709551616) : Calls Try.prog 111 #[.agg (ringC key n).toArray, .int .i64 ((n % 2 : Nat) : Int)] w (RetV w (.tuple #[.agg (bcs (derK key n)).toArray, .bool true])) := by
  rcases Nat.mod_two_eq_zero_or_one n with h | h
  · exact refAt_now0 key hk n _ w hn h (by rw [h]; rfl)
  · exact refAt_now1 key hk n _ w hn h (by rw [h]; rfl)
def plI (v s : Int) : List Value := [.int .i64 v, .int .i64 s]
theorem szPlI (v s : Int) : (Try.prog.info? 53).map (·.size) = some (plI v s).length := by kernel_rfl
theorem plI_nat (v s : Nat) : plI (v : Int) (s : Int) = plC v s := rfl
/-- may a place be? -/
def plB (v s : Int) : Bool := decide (0 ≤ v ∧ v < 8 ∧ 0 ≤ s ∧ s < 4096)
set_option maxHeartbeats 1000000 in
set_option maxRecDepth 100000 in
theorem plRightV (v s : Int) (w : World) : Calls Try.prog 104 #[.agg (plI v s).toArray] w (RetV w (.bool (plB v s))) := by
  unfold plI
  by_cases h1 : 0 ≤ v
  · have d1 : decide (0 ≤ v) = true := by simpa using h1
    by_cases h2 : v < 8
    · have d2 : decide (v < 8) = true := by simp; omega
      by_cases h3 : 0 ≤ s
      · have d3 : decide (0 ≤ s) = true := by simpa using h3
        by_cases h4 : s < 4096
        · have d4 : decide (s < 4096) = true := by simp; omega
          have hz : Hid (plB v s = true) := Lib.hid (by simp only [plB, decide_eq_true_eq, decide_eq_false_iff_not]; omega)
          go_enter Try.func104, Try.ntmps104
          go_wp2
          go_ret
          exact RetV.is_ (by rw [hz.out]; simp; try omega) (Below.allocS (Below.refl _ _) _)
        · have d4 : decide (s < 4096) = false := by simp; omega
          have hz : Hid (plB v s = false) := Lib.hid (by simp only [plB, decide_eq_true_eq, decide_eq_false_iff_not]; omega)
          go_enter Try.func104, Try.ntmps104
          go_wp2
          go_ret
          exact RetV.is_ (by rw [hz.out]; simp; try omega) (Below.allocS (Below.refl _ _) _)
      · have d3 : decide (0 ≤ s) = false := by simpa using h3
        have hz : Hid (plB v s = false) := Lib.hid (by simp only [plB, decide_eq_true_eq, decide_eq_false_iff_not]; omega)
        go_enter Try.func104, Try.ntmps104
        go_wp2
        go_ret
        exact RetV.is_ (by rw [hz.out]; simp; try omega) (Below.allocS (Below.refl _ _) _)
    · have d2 : decide (v < 8) = false := by simp; omega
      have hz : Hid (plB v s = false) := Lib.hid (by simp only [plB, decide_eq_true_eq, decide_eq_false_iff_not]; omega)
      go_enter Try.func104, Try.ntmps104
      go_wp2
      go_ret
      exact RetV.is_ (by rw [hz.out]; simp; try omega) (Below.allocS (Below.refl _ _) _)
  · have d1 : decide (0 ≤ v) = false := by simpa using h1
    have hz : Hid (plB v s = false) := Lib.hid (by simp only [plB, decide_eq_true_eq, decide_eq_false_iff_not]; omega)
    go_enter Try.func104, Try.ntmps104
    go_wp2
    go_ret
    exact RetV.is_ (by rw [hz.out]; simp; try omega) (Below.allocS (Below.refl _ _) _)
set_option maxHeartbeats 1000000 in
set_option maxRecDepth 100000 in
theorem refPlRight (v s : Int) (w : World) : Calls Try.prog 110 #[.int .i64 v, .int .i64 s] w (RetV w (.bool (plB v s))) := by
  by_cases h1 : 0 ≤ v
  · have d1 : decide (0 ≤ v) = true := by simpa using h1
    by_cases h2 : v < 8
    · have d2 : decide (v ≤ 7) = true := by simp; omega
      by_cases h3 : 0 ≤ s
      · have d3 : decide (0 ≤ s) = true := by simpa using h3
        by_cases h4 : s < 4096
        · have d4 : decide (s ≤ 4095) = true := by simp; omega
          have hz : Hid (plB v s = true) := Lib.hid (by simp only [plB, decide_eq_true_eq, decide_eq_false_iff_not]; omega)
          go_enter Try.func110, Try.ntmps110
          go_wp2
          go_ret
          exact RetV.is_ (by rw [hz.out]; simp; try omega) (Below.refl _ _)
        · have d4 : decide (s ≤ 4095) = false := by simp; omega
          have hz : Hid (plB v s = false) := Lib.hid (by simp only [plB, decide_eq_true_eq, decide_eq_false_iff_not]; omega)
          go_enter Try.func110, Try.ntmps110
          go_wp2
          go_ret
          exact RetV.is_ (by rw [hz.out]; simp; try omega) (Below.refl _ _)
      · have d3 : decide (0 ≤ s) = false := by simpa using h3
        have hz : Hid (plB v s = false) := Lib.hid (by simp only [plB, decide_eq_true_eq, decide_eq_false_iff_not]; omega)
        go_enter Try.func110, Try.ntmps110
        go_wp2
        go_ret
        exact RetV.is_ (by rw [hz.out]; simp; try omega) (Below.refl _ _)
    · have d2 : decide (v ≤ 7) = false := by simp; omega
      have hz : Hid (plB v s = false) := Lib.hid (by simp only [plB, decide_eq_true_eq, decide_eq_false_iff_not]; omega)
      go_enter Try.func110, Try.ntmps110
      go_wp2
      go_ret
      exact RetV.is_ (by rw [hz.out]; simp; try omega) (Below.refl _ _)
  · have d1 : decide (0 ≤ v) = false := by simpa using h1
    have hz : Hid (plB v s = false) := Lib.hid (by simp only [plB, decide_eq_true_eq, decide_eq_false_iff_not]; omega)
    go_enter Try.func110, Try.ntmps110
    go_wp2
    go_ret
    exact RetV.is_ (by rw [hz.out]; simp; try omega) (Below.refl _ _)
theorem refCidRight (v s : Int) (u : Nat) (w : World) : Calls Try.prog 32 #[.int .i64 v, .int .i64 s, .int .u64 (u : Int)] w (RetV w (.bool (plB v s && decide (u < 1099511627776)))) := by
  have HR := Lib.hid (fun w => refPlRight v s w)
  cases hb : plB v s
  · rw [hb] at HR
    clear hb
    go_enter Try.func32, Try.ntmps32
    go_wp2_with (go_at_call 110; refine (HR.out _).mono ?_; rintro e w1 ⟨bs1, d1, rfl, rfl⟩)
    go_ret
    exact RetV.is_ rfl (belowP (Below.refl _ _) _ _)
  · rw [hb] at HR
    clear hb
    go_enter Try.func32, Try.ntmps32
    go_wp2_with (go_at_call 110; refine (HR.out _).mono ?_; rintro e w1 ⟨bs1, d1, rfl, rfl⟩)
    go_ret
    exact RetV.is_ (by simp; try omega) (belowP (Below.refl _ _) _ _)
set_option maxHeartbeats 1000000 in
set_option maxRecDepth 100000 in
theorem cidMake_no (key : List UInt8) (hk : K16 key) (n : Nat) (v s : Int) (u : Nat) (w : World) (hu : (plB v s && decide (u < 1099511627776)) = false) : Calls Try.prog 31 #[.agg (ringC key n).toArray, .agg (plI v s).toArray, .int .u64 (u : Int)] w (RetV w (.tuple #[.slice none 0 0, .int .i64 1])) := by
  obtain ⟨dp, y1, y2⟩ := rowPl
  have b1 : Bk ((w.alloc (.cells (ringC key n).toArray 56)).alloc (.cells (plI v s).toArray 53)) (w.heap.size + 1) 53 (plI v s) := Bk.newK _ _ _ (by simp) rfl
  have be : Below w.heap.size w ((w.alloc (.cells (ringC key n).toArray 56)).alloc (.cells (plI v s).toArray 53)) := Below.allocS (Below.allocS (Below.refl _ _) _) _
  have HR := Lib.hid (fun w => plRightV v s w)
  cases hb : plB v s
  · rw [hb] at HR
    clear hb hu
    go_enter Try.func31, Try.ntmps31
    go_upto_region 1 with (fail)
    generalize (w.alloc (.cells (ringC key n).toArray 56)).alloc (.cells (plI v s).toArray 53) = W at *
    go_wp2_with (first
      | (refine at_op (.load 53 (.tmp 4)) rfl ?_; refine wpList_ldA (t := 53) 53 (.tmp 4) rfl rfl (plI v s) rfl (by with_reducible repeat (first | exact b1 | refine Bk.later ?_ (below_plus _ _ _) | refine Bk.alloc ?_ _)) (whole_ _) y1 y2 (szPlI v s) ?_)
      | (go_at_call 104; refine (HR.out _).mono ?_; rintro e w1 ⟨bs1, d1, rfl, rfl⟩))
    go_ret2
    exact RetV.mk (belowP be _ _)
  · rw [hb] at HR hu
    have hu2 : ¬ u < 1099511627776 := by simpa using hu
    have t1 : decide ((1099511627775 : Int) < (u : Int)) = true := by simp; omega
    clear hb hu
    go_enter Try.func31, Try.ntmps31
    go_upto_region 1 with (fail)
    generalize (w.alloc (.cells (ringC key n).toArray 56)).alloc (.cells (plI v s).toArray 53) = W at *
    go_wp2_with (first
      | (refine at_op (.load 53 (.tmp 4)) rfl ?_; refine wpList_ldA (t := 53) 53 (.tmp 4) rfl rfl (plI v s) rfl (by with_reducible repeat (first | exact b1 | refine Bk.later ?_ (below_plus _ _ _) | refine Bk.alloc ?_ _)) (whole_ _) y1 y2 (szPlI v s) ?_)
      | (go_at_call 104; refine (HR.out _).mono ?_; rintro e w1 ⟨bs1, d1, rfl, rfl⟩))
    go_ret2
    exact RetV.mk (belowP be _ _)
/-- own bytes, and an error -/
def RetBO (w : World) (l : List UInt8) (E : Int) (e : Ending) (w' : World) : Prop := ∃ A n c bs d, e = .returned (.tuple #[.slice A n c, .int .i64 E]) ∧ w' = plus w bs d ∧ Ob (plus w bs d) w.heap.size A n c l
theorem RetBO.mk {w w' : World} {l : List UInt8} {E : Int} {A : Option Addr} {n c : Nat} (h : Ob w' w.heap.size A n c l) (hb : Below w.heap.size w w') : RetBO w l E (.returned (.tuple #[.slice A n c, .int .i64 E])) w' := by
  obtain ⟨bs, d, rfl⟩ := plus_of hb
  exact ⟨A, n, c, bs, d, rfl, rfl, h⟩
/-- the word of an ID -/
noncomputable def cidW (key : List UInt8) (n v s u : Nat) : Nat := hidN (n % 2) (4096 * v + s) (cmskN (derK key n) u)
theorem cidW_lt (key : List UInt8) (n v s u : Nat) (hv : v < 8) (hs : s < 4096) : cidW key n v s u < 65536 := hidN_lt _ _ _ (Nat.mod_lt _ (by decide)) (by omega) (cmskN_lt _ _)
/-- an ID -/
noncomputable def cidB (key : List UInt8) (n v s u : Nat) : List UInt8 := dig u 5 ++ dig (cidW key n v s u) 2 ++ ctagB (derK key n) u (cidW key n v s u)
theorem cidB_length (key : List UInt8) (n v s u : Nat) : (cidB key n v s u).length = 12 := by simp [cidB, ctagB, dig_length]
set_option maxHeartbeats 4000000 in
set_option maxRecDepth 100000 in
theorem cidMake_yesO (key : List UInt8) (hk : K16 key) (n : Nat) (v s u : Nat) (w : World) (hn : n < 18446744073709551616) (hv : v < 8) (hs : s < 4096) (hu : u < 1099511627776) : Calls Try.prog 31 #[.agg (ringC key n).toArray, .agg (plC v s).toArray, .int .u64 (u : Int)] w (RetBO w (cidB key n v s u) 0) := by
  obtain ⟨dk, u1, u2, u3⟩ := rowKey
  obtain ⟨dr, v1, v2, v3⟩ := rowRing
  obtain ⟨dp, y1, y2⟩ := rowPl
  have hkd : K16 (derK key n) := K16_of _ _
  have hld : (bcs (derK key n)).length = (bcs key0).length := by rw [derK_length]; rfl
  have b0 : Bk ((w.alloc (.cells (ringC key n).toArray 56)).alloc (.cells (plC v s).toArray 53)) w.heap.size 56 (ringC key n) := (Bk.new w 56 (ringC key n).toArray).alloc _
  have b2 : Bk ((w.alloc (.cells (ringC key n).toArray 56)).alloc (.cells (plC v s).toArray 53)) (w.heap.size + 1) 53 (plC v s) := Bk.newK _ _ _ (by simp) rfl
  have be : Below w.heap.size w ((w.alloc (.cells (ringC key n).toArray 56)).alloc (.cells (plC v s).toArray 53)) := Below.allocS (Below.allocS (Below.refl _ _) _) _
  have HC := cidB_length key n v s u
  have hm2 : n % 2 < 2 := Nat.mod_lt _ (by decide)
  have HB := Lib.hid (fun w => ringBit_any key hk n w hn)
  have HM := Lib.hid (fun w => cidMask_any (derK key n) hkd u w (by omega))
  have hm := cmskN_lt (derK key n) u
  have HO := hid_or (n % 2) (4096 * v + s) (cmskN (derK key n) u) hm2 (by omega) hm
  have HW := Lib.hid (fun w => plWord_any v s w hv hs)
  have hR := cidW_lt key n v s u hv hs
  have HT := Lib.hid (fun w => cidTag_any (derK key n) hkd u (cidW key n v s u) w (by omega) hR)
  have HE : Hid (dig u 5 ++ dig (cidW key n v s u) 2 ++ ctagB (derK key n) u (cidW key n v s u) = cidB key n v s u) := Lib.hid rfl
  have HTL : Hid ((ctagB (derK key n) u (cidW key n v s u)).length = 5) := Lib.hid (by simp [ctagB, dig_length])
  change _ = ((cidW key n v s u : Nat) : Int) at HO
  clear HC
  go_enter Try.func31, Try.ntmps31
  go_wp2_with (refine at_op (.load 53 (.tmp 4)) rfl ?_; refine wpList_ldA (t := 53) 53 (.tmp 4) rfl rfl (plC v s) rfl (by with_reducible repeat (first | exact b2 | refine Bk.later ?_ (below_plus _ _ _) | refine Bk.alloc ?_ _)) (whole_ _) y1 y2 (szPl v s) ?_)
  refine (plRight_yes v s _ hv hs).mono ?_
  rintro e w1 ⟨bs1, d1, rfl, rfl⟩
  replace b0 := b0.later (below_plus _ bs1 d1)
  replace b2 := b2.later (below_plus _ bs1 d1)
  replace be := belowP be bs1 d1
  generalize plus ((w.alloc (.cells (ringC key n).toArray 56)).alloc (.cells (plC v s).toArray 53)) bs1 d1 = W at *
  go_wp2
  refine wp_relE 8 49 [4, 5, 6] rfl (by kernel_rfl) (by kernel_rfl) (fun i => match i with | 0 => MP.eq (.agg (ringC key n).toArray) | 1 => MP.eq (.agg (ringC key n).toArray) | 2 => MP.eq (.int .i64 ((n % 2 : Nat) : Int)) | 3 => MP.eq (.tuple #[.agg (bcs (derK key n)).toArray, .bool true]) | 4 => MP.eq (.tuple #[.agg (bcs (derK key n)).toArray, .bool true]) | 5 => MP.eq (.agg (bcs (derK key n)).toArray) | 6 => MP.eq (.bool true) | 7 => MP.blk W.heap.size 54 (bcs key0) | _ => MP.any) ?_ ?_
  · intro i hi o ho FA x hO hD
    match i, hi, ho, hO, hD with
    | 0, _, ho, hO, hD => 
      obtain rfl := Option.some.inj ho.symm
      clear ho
      have ev3 : FA.eval (.tmp 3) = .pointer (some ⟨w.heap.size, 0, none⟩) := hO 3 (by kernel_rfl)
      have e3 : FA.tmps[3]?.getD undef = .pointer (some ⟨w.heap.size, 0, none⟩) := by simpa [Act.eval] using ev3
      replace ev3 := Lib.hid ev3
      clear hO hD
      rw [if_neg (by decide)]
      intro K hK
      refine wanted_if rfl ?_
      refine wp_load_mid 56 (.tmp 3) rfl w.heap.size 0 ev3.out (ringC key n) _ (Bk.range (b0.later (below_plus _ _ _))) v1 v2 (szRing key hk n) ?_
      exact hK.out _ _ (Ex.refl _) rfl
    | 1, _, ho, hO, hD => 
      obtain rfl := Option.some.inj ho.symm
      clear ho
      have ev3 : FA.eval (.tmp 3) = .pointer (some ⟨w.heap.size, 0, none⟩) := hO 3 (by kernel_rfl)
      have e3 : FA.tmps[3]?.getD undef = .pointer (some ⟨w.heap.size, 0, none⟩) := by simpa [Act.eval] using ev3
      replace ev3 := Lib.hid ev3
      clear hO hD
      rw [if_neg (by decide)]
      intro K hK
      refine wanted_if rfl ?_
      refine wp_load_mid 56 (.tmp 3) rfl w.heap.size 0 ev3.out (ringC key n) _ (Bk.range (b0.later (below_plus _ _ _))) v1 v2 (szRing key hk n) ?_
      exact hK.out _ _ (Ex.refl _) rfl
    | 2, _, ho, hO, hD => 
      obtain rfl := Option.some.inj ho.symm
      clear ho
      have ev21 : FA.eval (.tmp 21) = .agg (ringC key n).toArray := hD 1 21 (by kernel_rfl)
      have e21 : FA.tmps[21]?.getD undef = .agg (ringC key n).toArray := by simpa [Act.eval] using ev21
      replace ev21 := Lib.hid ev21
      clear hO hD
      rw [if_neg (by decide)]
      intro K hK
      go_simp
      refine (ringBit_any key hk n _ hn).mono ?_
      rintro e w1 ⟨bs2, d2, rfl, rfl⟩
      exact hK.out _ _ (Ex.plus_ _ _ _) rfl
    | 3, _, ho, hO, hD => 
      obtain rfl := Option.some.inj ho.symm
      clear ho
      have ev20 : FA.eval (.tmp 20) = .agg (ringC key n).toArray := hD 0 20 (by kernel_rfl)
      have e20 : FA.tmps[20]?.getD undef = .agg (ringC key n).toArray := by simpa [Act.eval] using ev20
      replace ev20 := Lib.hid ev20
      have ev22 : FA.eval (.tmp 22) = .int .i64 ((n % 2 : Nat) : Int) := hD 2 22 (by kernel_rfl)
      have e22 : FA.tmps[22]?.getD undef = .int .i64 ((n % 2 : Nat) : Int) := by simpa [Act.eval] using ev22
      replace ev22 := Lib.hid ev22
      clear hO hD
      rw [if_neg (by decide)]
      intro K hK
      go_simp
      refine (ringAt_now key hk n _ _ hn rfl).mono ?_
      rintro e w1 ⟨bs2, d2, rfl, rfl⟩
      exact hK.out _ _ (Ex.plus_ _ _ _) rfl
    | 4, _, ho, hO, hD => 
      obtain rfl := Option.some.inj ho.symm
      clear ho
      have ev23 : FA.eval (.tmp 23) = .tuple #[.agg (bcs (derK key n)).toArray, .bool true] := hD 3 23 (by kernel_rfl)
      have e23 : FA.tmps[23]?.getD undef = .tuple #[.agg (bcs (derK key n)).toArray, .bool true] := by simpa [Act.eval] using ev23
      replace ev23 := Lib.hid ev23
      clear hO hD
      rw [if_pos (by decide)]
      refine ⟨.tuple #[.agg (bcs (derK key n)).toArray, .bool true], .inl ⟨by simp [Region.wanted], fun w => ?_⟩, rfl⟩
      go_simp
    | 5, _, ho, hO, hD => 
      obtain rfl := Option.some.inj ho.symm
      clear ho
      have ev19 : FA.eval (.tmp 19) = .tuple #[.agg (bcs (derK key n)).toArray, .bool true] := hD 4 19 (by kernel_rfl)
      have e19 : FA.tmps[19]?.getD undef = .tuple #[.agg (bcs (derK key n)).toArray, .bool true] := by simpa [Act.eval] using ev19
      replace ev19 := Lib.hid ev19
      clear hO hD
      rw [if_pos (by decide)]
      refine ⟨.agg (bcs (derK key n)).toArray, .inl ⟨by simp [Region.wanted], fun w => ?_⟩, rfl⟩
      go_simp
    | 6, _, ho, hO, hD => 
      obtain rfl := Option.some.inj ho.symm
      clear ho
      have ev19 : FA.eval (.tmp 19) = .tuple #[.agg (bcs (derK key n)).toArray, .bool true] := hD 4 19 (by kernel_rfl)
      have e19 : FA.tmps[19]?.getD undef = .tuple #[.agg (bcs (derK key n)).toArray, .bool true] := by simpa [Act.eval] using ev19
      replace ev19 := Lib.hid ev19
      clear hO hD
      rw [if_pos (by decide)]
      refine ⟨.bool true, .inl ⟨by simp [Region.wanted], fun w => ?_⟩, rfl⟩
      go_simp
    | 7, _, ho, hO, hD => 
      obtain rfl := Option.some.inj ho.symm
      clear ho
      clear hO hD
      rw [if_neg (by decide)]
      intro K hK
      go_simp
      refine hK.out _ _ (Ex.alloc _ _) ⟨_, rfl, ?_, ?_⟩
      · simp [size_plus]
      · refine Bk.newK _ _ _ ?_ rfl
        simp [size_plus]
    | (k + 8), hi, _, _, _ => exact absurd hi (by omega)
  intro vs x hp
  have p0 : vs 0 = .agg (ringC key n).toArray := hp 0 (by omega)
  have p1 : vs 1 = .agg (ringC key n).toArray := hp 1 (by omega)
  have p2 : vs 2 = .int .i64 ((n % 2 : Nat) : Int) := hp 2 (by omega)
  have p3 : vs 3 = .tuple #[.agg (bcs (derK key n)).toArray, .bool true] := hp 3 (by omega)
  have p4 : vs 4 = .tuple #[.agg (bcs (derK key n)).toArray, .bool true] := hp 4 (by omega)
  have p5 : vs 5 = .agg (bcs (derK key n)).toArray := hp 5 (by omega)
  have p6 : vs 6 = .bool true := hp 6 (by omega)
  have p7 := hp 7 (by omega)
  clear hp
  simp only [List.take_succ_cons, List.take_zero, List.drop_succ_cons, List.drop_zero, putAll, Nat.zero_add, Nat.reduceAdd, Act.put, List.setIfInBounds_toArray, List.set_cons_zero, List.set_cons_succ, p0, p1, p2, p3, p4, p5, p6]
  clear p0 p1 p2 p3 p4 p5 p6
  generalize vs 7 = y7 at *
  clear vs
  obtain ⟨g4, rfl, hg4, hb4⟩ := p7
  go_upto_region 4 with (refine at_op (.store 54 (.tmp 8) (.tmp 24)) rfl ?_; refine wpList_stA (t := 54) 54 (.tmp 8) (.tmp 24) rfl rfl (bcs (derK key n)) (bcs key0) hld (bcs_one _) rfl rfl hb4 (szKey _ hkd) ?_; intro w4 hk4 hgr4)
  refine NoPanic.normal ?_
  have z0 := b0.lt
  have z2 := b2.lt
  have zb := be.size
  have r4 : Bk w4 w.heap.size 56 (ringC key n) := (b0.later (below_plus _ x.bs x.d)).grown hgr4 (by simp; omega)
  have p4 : Bk w4 (w.heap.size + 1) 53 (plC v s) := (b2.later (below_plus _ x.bs x.d)).grown hgr4 (by simp; omega)
  have be4 : Below w.heap.size w w4 := below_grown (belowP be _ _) hgr4 (by omega)
  clear b0 b2 be hgr4 hb4
  generalize n % 2 = b at *
  generalize cmskN (derK key n) u = M at *
  generalize cidW key n v s u = Z at *
  have hwd : 4096 * v + s < 32768 := by omega
  generalize 4096 * v + s = wd at *
  go_wp2
  refine wp_plus (by kernel_rfl) (by kernel_rfl) ?_
  repeat (first
    | (go_big_quiet_want; refine at_opQ (.load 56 (.tmp 3)) rfl ?_; refine quiet_ldA (t := 56) 56 (.tmp 3) rfl (ringC key n) rfl (fun w' hw' => by obtain ⟨x, rfl⟩ := hw'; exact r4.later (below_plus _ _ _)) (ringC_whole key n) v1 v2 (szRing key hk n) ?_; simp only [Act.put, List.setIfInBounds_toArray, List.set_cons_zero, List.set_cons_succ]; go_big_quiet_on)
    | (go_big_quiet_want; refine at_opQ (.load 53 (.tmp 4)) rfl ?_; refine quiet_ldA (t := 53) 53 (.tmp 4) rfl (plC v s) rfl (fun w' hw' => by obtain ⟨x, rfl⟩ := hw'; exact p4.later (below_plus _ _ _)) (plC_whole v s) y1 y2 (szPl v s) ?_; simp only [Act.put, List.setIfInBounds_toArray, List.set_cons_zero, List.set_cons_succ]; go_big_quiet_on)
    | (go_big_quiet_want; refine at_opQ (.load 54 (.tmp 8)) rfl ?_; refine quiet_ldA (t := 54) 54 (.tmp 8) rfl (bcs (derK key n)) rfl (fun w' hw' => by obtain ⟨x, rfl⟩ := hw'; exact hk4.later (below_plus _ _ _)) (bcs_whole _) u1 u2 (szKey _ hkd) ?_; simp only [Act.put, List.setIfInBounds_toArray, List.set_cons_zero, List.set_cons_succ]; go_big_quiet_on)
    | go_big_quiet_step (first
      | (go_at_call 106; exact callP (HB.out _))
      | (go_at_call 107; exact callP (HW.out _))
      | (go_at_call 108; exact callP (HM.out _))))
  refine wpQuiet_nil ?_
  rintro _ ⟨x2, rfl⟩
  replace hk4 := hk4.later (below_plus _ x2.bs x2.d)
  replace be4 := belowP be4 x2.bs x2.d
  have zb4 := be4.size
  generalize plus w4 x2.bs x2.d = W5 at *
  go_wp2_with fail
  refine (put_full _ _ _ [] u 5 _ Rb.nil_ (by omega) (by omega) (by omega) (by omega)).mono ?_
  rintro e w1 ⟨A10, n10, bs10, m10, rfl, rfl, ho10⟩
  have l10 : n10 ≤ 100 := by rw [← ho10.1]; simp [dig_length]
  go_wp2_with fail
  refine (put_full _ _ _ _ Z 2 _ ho10.rb (by omega) (by omega) (by omega) (by omega)).mono ?_
  rintro e w1 ⟨A11, n11, bs11, m11, rfl, rfl, ho11⟩
  have l11 : n11 ≤ 100 := by rw [← ho11.1]; simp [dig_length]
  go_wp2_with (refine at_op (.load 54 (.tmp 8)) rfl ?_; refine wpList_ldA (t := 54) 54 (.tmp 8) rfl rfl (bcs (derK key n)) rfl (by with_reducible repeat (first | exact hk4 | refine Bk.later ?_ (below_plus _ _ _) | refine Bk.alloc ?_ _)) (bcs_whole _) u1 u2 (szKey _ hkd) ?_)
  refine (HT.out _).mono ?_
  rintro e w1 ⟨A12, n12, bs12, m12, rfl, rfl, ho12⟩
  have l12 : n12 ≤ 100 := by rw [← ho12.1, HTL.out]; decide
  go_wp2_with (refine at_op (.call { callee := .builtin .append, args := #[.tmp 43, .tmp 47], argTypes := #[24, 24] }) rfl ?_; refine wpList_appP _ bt rfl (.tmp 43) (.tmp 47) rfl (by exact belowP (below_plus (plus W5 bs10 m10) bs11 m11) bs12 m12) rfl (ho11.plus_ _ _) rfl ho12.rb (by omega) ?_; intro A20 n20 k20 bs20 m20 ho20 hg20)
  refine bodyPost_ret (v := .tuple #[.slice A20 n20 k20, .int .i64 0]) (by simp [results, Try.results31, go_sem]) rfl ?_
  rw [← HE.out]
  exact RetBO.mk (by simpa using ho20.mono (base' := w.heap.size) (by simp [size_plus]; omega)) (belowP (belowP be4 _ _) _ _)
theorem cidMake_yes (key : List UInt8) (hk : K16 key) (n : Nat) (v s u : Nat) (w : World) (hn : n < 18446744073709551616) (hv : v < 8) (hs : s < 4096) (hu : u < 1099511627776) : Calls Try.prog 31 #[.agg (ringC key n).toArray, .agg (plC v s).toArray, .int .u64 (u : Int)] w (RetBE w (cidB key n v s u) 0) :=
  (cidMake_yesO key hk n v s u w hn hv hs hu).mono fun _ _ ⟨A, n, c, bs, d, h1, h2, h3⟩ => ⟨A, n, c, bs, d, h1, h2, h3.rb⟩
set_option maxHeartbeats 4000000 in
set_option maxRecDepth 100000 in
theorem refMake (key : List UInt8) (hk : K16 key) (n : Nat) (v s u : Nat) (w : World) (hn : n < 18446744073709551616) (hv : v < 8) (hs : s < 4096) (hu : u < 1099511627776) : Calls Try.prog 34 #[.agg (ringC key n).toArray, .int .i64 (v : Int), .int .i64 (s : Int), .int .u64 (u : Int)] w (RetB w (cidB key n v s u)) := by
  have q := ringC_16 key hk n
  obtain ⟨da, a1, a2, a3⟩ := row16
  obtain ⟨dr, v1, v2, v3⟩ : ∃ d, Try.prog.underlying 51 = some d ∧ d.isRow = true ∧ (Try.prog.info? 51).map (·.size) = some 17 := ⟨_, Try.underlying51, rfl, by kernel_rfl⟩
  have v4 : (Try.prog.info? 51).map (·.size) = some (ringC key n).length := by rw [ringC_length key hk n]; exact v3
  have hkd : K16 (derK key n) := K16_of _ _
  have hld : (bcs (derK key n)).length = (bcs key0).length := by rw [derK_length]; rfl
  have b0 : Bk (w.alloc (.cells (ringC key n).toArray 51)) w.heap.size 51 (ringC key n) := Bk.new w 51 (ringC key n).toArray
  have be : Below w.heap.size w (w.alloc (.cells (ringC key n).toArray 51)) := Below.allocS (Below.refl _ _) _
  have hm2 : n % 2 < 2 := Nat.mod_lt _ (by decide)
  have HAT := Lib.hid (fun w => ringAtRef key hk n w hn)
  have HH := Lib.hid (fun w A m c (h : Rb w A m c (dig u 5)) => refHidden_any (derK key n) hkd A m c (dig u 5) (4096 * v + s) w h (by rw [← h.1]; simp [dig_length]) (by omega))
  have HTG := Lib.hid (fun w A m c (h : Rb w A m c (dig u 5 ++ dig (cidW key n v s u) 2)) => refTag_any (derK key n) hkd A m c _ w h (by rw [← h.1]; simp [dig_length]))
  have hz : n % 2 * 32768 + ((4096 * v + s) % 32768 ^^^ (sip (derK key n) (3 :: dig u 5)).toNat % 32768) = cidW key n v s u := by rw [Nat.mod_eq_of_lt (show 4096 * v + s < 32768 by omega)]; rfl
  have hZ := cidW_lt key n v s u hv hs
  have hx : (4096 * v + s) % 32768 ^^^ (sip (derK key n) (3 :: dig u 5)).toNat % 32768 < 32768 := Nat.xor_lt_two_pow (n := 15) (Nat.mod_lt _ (by decide)) (Nat.mod_lt _ (by decide))
  have HE : Hid ((dig u 5 ++ dig (cidW key n v s u) 2) ++ dig (sip (derK key n) (4 :: (dig u 5 ++ dig (cidW key n v s u) 2))).toNat 5 = cidB key n v s u) := Lib.hid (by simp [cidB, ctagB])
  generalize (4096 * v + s) % 32768 ^^^ (sip (derK key n) (3 :: dig u 5)).toNat % 32768 = X at *
  generalize cidW key n v s u = Z at *
  have hz' : ((n % 2 : Nat) : Int) * 32768 + (X : Int) = (Z : Int) := by omega
  clear hz
  have hwd : 4096 * v + s < 32768 := by omega
  obtain ⟨wd, hwd2⟩ : ∃ wd, wd = 4096 * v + s := ⟨_, rfl⟩
  have hwd3 : (v : Int) * 4096 + (s : Int) = (wd : Int) := by omega
  rw [← hwd2] at HH hwd
  clear hwd2
  have hb2 : (n : Int) % 2 = ((n % 2 : Nat) : Int) := by omega
  generalize n % 2 = b at *
  go_enter Try.func34, Try.ntmps34
  go_upto_region 1 with (fail)
  generalize w.alloc (.cells (ringC key n).toArray 51) = W at *
  have q2 : W.cell? ⟨w.heap.size, 16, none⟩ = some (.int .u64 (n : Int)) := by rw [b0.cell]; exact q
  go_upto_region 3 with (first
    | (refine at_op (.load 51 (.tmp 4)) rfl ?_; refine wpList_ldA (t := 51) 51 (.tmp 4) rfl rfl (ringC key n) rfl (by with_reducible repeat (first | exact b0 | refine Bk.later ?_ (below_plus _ _ _) | refine Bk.alloc ?_ _)) (ringC_whole key n) v1 v2 (v4) ?_)
    | (go_at_call 111; refine (HAT.out _).mono ?_; rintro e w1 ⟨bs1, d1, rfl, rfl⟩)
    | (refine at_op (.store 49 (.tmp 10) (.tmp 23)) rfl ?_; refine wpList_stA (t := 49) 49 (.tmp 10) (.tmp 23) rfl rfl (bcs (derK key n)) (bcs key0) hld (bcs_one _) rfl rfl ?_ (szArr _ hkd) ?_; (· refine Bk.newK _ _ _ ?_ rfl; simp [size_plus]); intro W3 hk3 hgr))
  have be3 := below_grown (Below.allocS (belowP be bs1 d1) _) hgr (by have := be.size; omega)
  generalize W.heap.size + bs1.length = g10 at *
  have zb3 := be3.size
  clear hgr b0 be q2
  go_wp2_with fail
  refine (refBytes_any u 5 _ (by omega) (by omega)).mono ?_
  rintro e w1 ⟨A12, n12, c12, bs2, d2, rfl, rfl, ho12⟩
  have l12 : n12 ≤ 100 := by rw [← ho12.1]; simp [dig_length]
  go_wp2_with (first
    | (refine at_op (.load 49 (.tmp 10)) rfl ?_; refine wpList_ldA (t := 49) 49 (.tmp 10) rfl rfl (bcs (derK key n)) rfl (by with_reducible repeat (first | exact hk3 | refine Bk.later ?_ (below_plus _ _ _) | refine Bk.alloc ?_ _)) (bcs_whole _) a1 a2 (szArr _ hkd) ?_)
    | (go_at_call 112; refine (HH.out _ _ _ _ ho12.rb).mono ?_; rintro e w1 ⟨bs3, d3, rfl, rfl⟩))
  refine (refBytes_any Z 2 _ (by omega) (by omega)).mono ?_
  rintro e w1 ⟨A13, n13, c13, bs4, d4, rfl, rfl, ho13⟩
  have l13 : n13 ≤ 100 := by rw [← ho13.1]; simp [dig_length]
  go_wp2_with (first
    | (refine at_op (.call { callee := .builtin .append, args := #[.tmp 39, .tmp 42], argTypes := #[24, 24] }) rfl ?_; refine wpList_appP W3 bt rfl (.tmp 39) (.tmp 42) rfl (by exact belowP (belowP (below_plus W3 bs2 d2) bs3 d3) bs4 d4) rfl ((ho12.plus_ _ _).plus_ _ _) rfl ho13.rb (by omega) ?_; intro A20 n20 k20 bs20 m20 ho20 hg20; have l20 : n20 ≤ 200 := (by rw [← ho20.1]; simp [dig_length]))
    | (refine at_op (.load 49 (.tmp 10)) rfl ?_; refine wpList_ldA (t := 49) 49 (.tmp 10) rfl rfl (bcs (derK key n)) rfl (by with_reducible repeat (first | exact hk3 | refine Bk.later ?_ (below_plus _ _ _) | refine Bk.alloc ?_ _)) (bcs_whole _) a1 a2 (szArr _ hkd) ?_)
    | (go_at_call 113; refine (HTG.out _ _ _ _ ho20.rb).mono ?_; rintro e w1 ⟨A21, n21, c21, bs21, m21, rfl, rfl, ho21⟩; have l21 : n21 ≤ 100 := (by rw [← ho21.1]; simp [dig_length]))
    | (refine at_op (.call { callee := .builtin .append, args := #[.tmp 44, .tmp 47], argTypes := #[24, 24] }) rfl ?_; refine wpList_appP W3 bt rfl (.tmp 44) (.tmp 47) rfl (by exact belowP (below_plus W3 bs20 m20) bs21 m21) rfl (ho20.plus_ _ _) rfl ho21.rb (by omega) ?_; intro A22 n22 k22 bs22 m22 ho22 hg22))
  go_ret
  rw [← HE.out]
  exact RetB.mk (ho22.mono zb3) (belowP be3 _ _)
end Go.Proofs.Ytldecdeiibfekaa
