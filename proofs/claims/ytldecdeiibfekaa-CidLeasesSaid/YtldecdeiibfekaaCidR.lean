/- counterfoilref13: tag, hidden, Read; the law CidReads. -/
import Derived.Test.YtldecdeiibfekaaCom
import Derived.Test.YtldecdeiibfekaaCid
import Derived.Test.YtldecdeiibfekaaRingR
import Derived.Test.YtldecdeiibfekaaRingO
namespace Go.Proofs.Ytldecdeiibfekaa
open Go.RowKit
set_option linter.unusedVariables false
set_option linter.unusedSimpArgs false
attribute [local go_sem ↓] sliced_cut
attribute [local go_sem] cutA_zero

set_option maxHeartbeats 1000000 in
set_option maxRecDepth 100000 in
theorem refTag_any (key : List UInt8) (hk : K16 key) (A : Option Addr) (n c : Nat) (l : List UInt8) (w : World) (h : Rb w A n c l) (hn : n ≤ 1000) : Calls Try.prog 113 #[.agg (bcs key).toArray, .slice A n c] w (RetB w (dig (sip key (4 :: l)).toNat 5)) := by
  obtain ⟨dk, u1, u2, u3⟩ := row16
  have hbx := Bk.new w 49 (bcs key).toArray
  go_enter Try.func113, Try.ntmps113
  go_wp2
  refine wp_rel 7 11 rfl (by kernel_rfl) (by kernel_rfl) (fun i => match i with | 0 => MP.eq (.agg (bcs key).toArray) | 1 => MP.full [4] | 2 => MP.eq (.slice A n c) | 3 => MP.rb (4 :: l) | 4 => MP.eq (.int .u64 ((sip key (4 :: l)).toNat : Int)) | 5 => MP.ob w.heap.size (dig (sip key (4 :: l)).toNat 5) | 6 => MP.ob w.heap.size (dig (sip key (4 :: l)).toNat 5) | _ => MP.any) ?_ ?_
  · intro i hi o ho FA x hO hD K hK
    match i, hi, ho, hO, hD, hK with
    | 0, _, ho, hO, hD, hK => 
      obtain rfl := Option.some.inj ho.symm
      clear ho
      have ev2 : FA.eval (.tmp 2) = .pointer (some ⟨w.heap.size, 0, none⟩) := hO 2 (by kernel_rfl)
      have e2 : FA.tmps[2]?.getD undef = .pointer (some ⟨w.heap.size, 0, none⟩) := by simpa [Act.eval] using ev2
      replace ev2 := Lib.hid ev2
      clear hO hD
      refine wanted_if rfl ?_
      refine wp_load_mid 49 (.tmp 2) rfl w.heap.size 0 ev2.out (bcs key) _ (Bk.range (hbx.later (below_plus _ _ _))) u1 u2 (szArr key hk) ?_
      exact hK.out _ _ (Ex.refl _) rfl
    | 1, _, ho, hO, hD, hK => 
      obtain rfl := Option.some.inj ho.symm
      clear ho
      clear hO hD
      go_simp
      refine hK.out _ _ (Ex.alloc _ _) ⟨_, _, rfl, ?_⟩
      refine Rb.litW _ [4] ?_ rfl (by decide) rfl
      simp [size_plus]
    | 2, _, ho, hO, hD, hK => 
      obtain rfl := Option.some.inj ho.symm
      clear ho
      have ev1 : FA.eval (.tmp 1) = .slice A n c := hO 1 (by kernel_rfl)
      have e1 : FA.tmps[1]?.getD undef = .slice A n c := by simpa [Act.eval] using ev1
      replace ev1 := Lib.hid ev1
      clear hO hD
      go_simp
      exact hK.out _ _ (Ex.refl _) rfl
    | 3, _, ho, hO, hD, hK => 
      obtain rfl := Option.some.inj ho.symm
      clear ho
      have f6 := hD 1 6 (by kernel_rfl)
      generalize eu6 : FA.eval (.tmp 6) = u6 at f6
      have e6 : FA.tmps[6]?.getD undef = u6 := by rw [← eu6]; simp [Act.eval]
      have ev6 := Lib.hid eu6
      clear eu6
      have ev7 : FA.eval (.tmp 7) = .slice A n c := hD 2 7 (by kernel_rfl)
      have e7 : FA.tmps[7]?.getD undef = .slice A n c := by simpa [Act.eval] using ev7
      replace ev7 := Lib.hid ev7
      clear hO hD
      obtain ⟨A1, n1, rfl, hr1⟩ := f6
      obtain rfl : n1 = 1 := hr1.1.symm
      refine wanted_if rfl ?_
      refine rel_app bt (.tmp 6) (.tmp 7) rfl ev6.out hr1 ev7.out ((h.alloc _).plus_ _ _) (by omega) ?_
      intro A2 n2 c2 w2 hex hr2
      exact hK.out _ _ hex ⟨_, _, _, rfl, hr2⟩
    | 4, _, ho, hO, hD, hK => 
      obtain rfl := Option.some.inj ho.symm
      clear ho
      have ev5 : FA.eval (.tmp 5) = .agg (bcs key).toArray := hD 0 5 (by kernel_rfl)
      have e5 : FA.tmps[5]?.getD undef = .agg (bcs key).toArray := by simpa [Act.eval] using ev5
      replace ev5 := Lib.hid ev5
      have f8 := hD 3 8 (by kernel_rfl)
      generalize eu8 : FA.eval (.tmp 8) = u8 at f8
      have e8 : FA.tmps[8]?.getD undef = u8 := by rw [← eu8]; simp [Act.eval]
      have ev8 := Lib.hid eu8
      clear eu8
      clear hO hD
      obtain ⟨A1, n1, c1, rfl, hr1⟩ := f8
      have hn1 : n1 ≤ 2000 := by rw [← hr1.1]; simp [h.1]; omega
      go_simp
      refine (refSum_any key hk A1 n1 c1 _ _ hr1 (by omega)).mono ?_
      rintro e w1 ⟨bs2, d2, rfl, rfl⟩
      exact hK.out _ _ (Ex.plus_ _ _ _) rfl
    | 5, _, ho, hO, hD, hK => 
      obtain rfl := Option.some.inj ho.symm
      clear ho
      have ev9 : FA.eval (.tmp 9) = .int .u64 ((sip key (4 :: l)).toNat : Int) := hD 4 9 (by kernel_rfl)
      have e9 : FA.tmps[9]?.getD undef = .int .u64 ((sip key (4 :: l)).toNat : Int) := by simpa [Act.eval] using ev9
      replace ev9 := Lib.hid ev9
      clear hO hD
      go_simp
      refine (refBytes_any _ 5 _ (UInt64.toNat_lt _) (by omega)).mono ?_
      rintro e w1 ⟨A2, n2, c2, bs2, d2, rfl, rfl, ho2⟩
      exact hK.out _ _ (Ex.plus_ _ _ _) ⟨_, _, _, rfl, ho2.mono (by simp [size_plus]; omega)⟩
    | 6, _, ho, hO, hD, hK => 
      obtain rfl := Option.some.inj ho.symm
      clear ho
      have f10 := hD 5 10 (by kernel_rfl)
      generalize eu10 : FA.eval (.tmp 10) = u10 at f10
      have e10 : FA.tmps[10]?.getD undef = u10 := by rw [← eu10]; simp [Act.eval]
      have ev10 := Lib.hid eu10
      clear eu10
      clear hO hD
      go_simp
      exact hK.out _ _ (Ex.refl _) f10
    | (k + 7), hi, _, _, _, _ => exact absurd hi (by omega)
  intro vs x hp
  have p0 : vs 0 = .agg (bcs key).toArray := hp 0 (by omega)
  have p1 := hp 1 (by omega)
  have p2 : vs 2 = .slice A n c := hp 2 (by omega)
  have p3 := hp 3 (by omega)
  have p4 : vs 4 = .int .u64 ((sip key (4 :: l)).toNat : Int) := hp 4 (by omega)
  have p5 := hp 5 (by omega)
  have p6 := hp 6 (by omega)
  clear hp
  simp only [List.take_succ_cons, List.take_zero, List.drop_succ_cons, List.drop_zero, putAll, Nat.zero_add, Nat.reduceAdd, Act.put, List.setIfInBounds_toArray, List.set_cons_zero, List.set_cons_succ, p0, p2, p4]
  clear p0 p2 p4
  generalize vs 1 = y1 at *
  generalize vs 3 = y3 at *
  generalize vs 5 = y5 at *
  generalize vs 6 = y6 at *
  clear vs
  obtain ⟨A6, n6, c6, rfl, h6⟩ := p6
  go_wp2
  go_ret
  exact RetB.mk h6 (belowP (Below.allocS (Below.refl _ _) _) _ _)
set_option maxHeartbeats 1000000 in
set_option maxRecDepth 100000 in
theorem refHidden_any (key : List UInt8) (hk : K16 key) (A : Option Addr) (n c : Nat) (l : List UInt8) (xw : Nat) (w : World) (h : Rb w A n c l) (hn : n ≤ 1000) (hx : xw < 65536) : Calls Try.prog 112 #[.agg (bcs key).toArray, .slice A n c, .int .u16 xw] w (RetV w (.int .u16 ((xw % 32768 ^^^ (sip key (3 :: l)).toNat % 32768 : Nat) : Int))) := by
  obtain ⟨dk, u1, u2, u3⟩ := row16
  have hbx := Bk.new w 49 (bcs key).toArray
  have e1 : ((xw : Int)).tmod 32768 = ((xw % 32768 : Nat) : Int) := by rw [Int.tmod_eq_emod_of_nonneg (by omega)]; omega
  have e2 : ((sip key (3 :: l)).toNat : Int).tmod 32768 = (((sip key (3 :: l)).toNat % 32768 : Nat) : Int) := by rw [Int.tmod_eq_emod_of_nonneg (by omega)]; omega
  have l1 : xw % 32768 < 32768 := Nat.mod_lt _ (by decide)
  have l2 : (sip key (3 :: l)).toNat % 32768 < 32768 := Nat.mod_lt _ (by decide)
  have e3 : IntKind.u16.wrap (((sip key (3 :: l)).toNat % 32768 : Nat) : Int) = (((sip key (3 :: l)).toNat % 32768 : Nat) : Int) := IntWalk.u16_in _ (by omega)
  have HX := u16_xor_nat (xw % 32768) ((sip key (3 :: l)).toNat % 32768) (by omega) (by omega)
  generalize xw % 32768 ^^^ (sip key (3 :: l)).toNat % 32768 = y at *
  generalize xw % 32768 = x2 at *
  generalize (sip key (3 :: l)).toNat % 32768 = s2 at *
  go_enter Try.func112, Try.ntmps112
  go_wp2
  refine wp_rel 11 17 rfl (by kernel_rfl) (by kernel_rfl) (fun i => match i with | 0 => MP.eq (.int .u16 (xw : Int)) | 1 => MP.eq (.int .u16 (x2 : Int)) | 2 => MP.eq (.agg (bcs key).toArray) | 3 => MP.full [3] | 4 => MP.eq (.slice A n c) | 5 => MP.rb (3 :: l) | 6 => MP.eq (.int .u64 ((sip key (3 :: l)).toNat : Int)) | 7 => MP.eq (.int .u64 (s2 : Int)) | 8 => MP.eq (.int .u16 (s2 : Int)) | 9 => MP.eq (.int .u16 (y : Int)) | 10 => MP.eq (.int .u16 (y : Int)) | _ => MP.any) ?_ ?_
  · intro i hi o ho FA x hO hD K hK
    match i, hi, ho, hO, hD, hK with
    | 0, _, ho, hO, hD, hK => 
      obtain rfl := Option.some.inj ho.symm
      clear ho
      have ev2 : FA.eval (.tmp 2) = .int .u16 (xw : Int) := hO 2 (by kernel_rfl)
      have e2 : FA.tmps[2]?.getD undef = .int .u16 (xw : Int) := by simpa [Act.eval] using ev2
      replace ev2 := Lib.hid ev2
      clear hO hD
      go_simp
      exact hK.out _ _ (Ex.refl _) rfl
    | 1, _, ho, hO, hD, hK => 
      obtain rfl := Option.some.inj ho.symm
      clear ho
      have ev7 : FA.eval (.tmp 7) = .int .u16 (xw : Int) := hD 0 7 (by kernel_rfl)
      have e7 : FA.tmps[7]?.getD undef = .int .u16 (xw : Int) := by simpa [Act.eval] using ev7
      replace ev7 := Lib.hid ev7
      clear hO hD
      go_simp
      exact hK.out _ _ (Ex.refl _) rfl
    | 2, _, ho, hO, hD, hK => 
      obtain rfl := Option.some.inj ho.symm
      clear ho
      have ev3 : FA.eval (.tmp 3) = .pointer (some ⟨w.heap.size, 0, none⟩) := hO 3 (by kernel_rfl)
      have e3 : FA.tmps[3]?.getD undef = .pointer (some ⟨w.heap.size, 0, none⟩) := by simpa [Act.eval] using ev3
      replace ev3 := Lib.hid ev3
      clear hO hD
      refine wanted_if rfl ?_
      refine wp_load_mid 49 (.tmp 3) rfl w.heap.size 0 ev3.out (bcs key) _ (Bk.range (hbx.later (below_plus _ _ _))) u1 u2 (szArr key hk) ?_
      exact hK.out _ _ (Ex.refl _) rfl
    | 3, _, ho, hO, hD, hK => 
      obtain rfl := Option.some.inj ho.symm
      clear ho
      clear hO hD
      go_simp
      refine hK.out _ _ (Ex.alloc _ _) ⟨_, _, rfl, ?_⟩
      refine Rb.litW _ [3] ?_ rfl (by decide) rfl
      simp [size_plus]
    | 4, _, ho, hO, hD, hK => 
      obtain rfl := Option.some.inj ho.symm
      clear ho
      have ev1 : FA.eval (.tmp 1) = .slice A n c := hO 1 (by kernel_rfl)
      have e1 : FA.tmps[1]?.getD undef = .slice A n c := by simpa [Act.eval] using ev1
      replace ev1 := Lib.hid ev1
      clear hO hD
      go_simp
      exact hK.out _ _ (Ex.refl _) rfl
    | 5, _, ho, hO, hD, hK => 
      obtain rfl := Option.some.inj ho.symm
      clear ho
      have f10 := hD 3 10 (by kernel_rfl)
      generalize eu10 : FA.eval (.tmp 10) = u10 at f10
      have e10 : FA.tmps[10]?.getD undef = u10 := by rw [← eu10]; simp [Act.eval]
      have ev10 := Lib.hid eu10
      clear eu10
      have ev11 : FA.eval (.tmp 11) = .slice A n c := hD 4 11 (by kernel_rfl)
      have e11 : FA.tmps[11]?.getD undef = .slice A n c := by simpa [Act.eval] using ev11
      replace ev11 := Lib.hid ev11
      clear hO hD
      obtain ⟨A1, n1, rfl, hr1⟩ := f10
      obtain rfl : n1 = 1 := hr1.1.symm
      refine wanted_if rfl ?_
      refine rel_app bt (.tmp 10) (.tmp 11) rfl ev10.out hr1 ev11.out ((h.alloc _).plus_ _ _) (by omega) ?_
      intro A2 n2 c2 w2 hex hr2
      exact hK.out _ _ hex ⟨_, _, _, rfl, hr2⟩
    | 6, _, ho, hO, hD, hK => 
      obtain rfl := Option.some.inj ho.symm
      clear ho
      have ev9 : FA.eval (.tmp 9) = .agg (bcs key).toArray := hD 2 9 (by kernel_rfl)
      have e9 : FA.tmps[9]?.getD undef = .agg (bcs key).toArray := by simpa [Act.eval] using ev9
      replace ev9 := Lib.hid ev9
      have f12 := hD 5 12 (by kernel_rfl)
      generalize eu12 : FA.eval (.tmp 12) = u12 at f12
      have e12 : FA.tmps[12]?.getD undef = u12 := by rw [← eu12]; simp [Act.eval]
      have ev12 := Lib.hid eu12
      clear eu12
      clear hO hD
      obtain ⟨A1, n1, c1, rfl, hr1⟩ := f12
      have hn1 : n1 ≤ 2000 := by rw [← hr1.1]; simp [h.1]; omega
      go_simp
      refine (refSum_any key hk A1 n1 c1 _ _ hr1 (by omega)).mono ?_
      rintro e w1 ⟨bs2, d2, rfl, rfl⟩
      exact hK.out _ _ (Ex.plus_ _ _ _) rfl
    | 7, _, ho, hO, hD, hK => 
      obtain rfl := Option.some.inj ho.symm
      clear ho
      have ev13 : FA.eval (.tmp 13) = .int .u64 ((sip key (3 :: l)).toNat : Int) := hD 6 13 (by kernel_rfl)
      have e13 : FA.tmps[13]?.getD undef = .int .u64 ((sip key (3 :: l)).toNat : Int) := by simpa [Act.eval] using ev13
      replace ev13 := Lib.hid ev13
      clear hO hD
      go_simp
      exact hK.out _ _ (Ex.refl _) rfl
    | 8, _, ho, hO, hD, hK => 
      obtain rfl := Option.some.inj ho.symm
      clear ho
      have ev14 : FA.eval (.tmp 14) = .int .u64 (s2 : Int) := hD 7 14 (by kernel_rfl)
      have e14 : FA.tmps[14]?.getD undef = .int .u64 (s2 : Int) := by simpa [Act.eval] using ev14
      replace ev14 := Lib.hid ev14
      clear hO hD
      go_simp
      exact hK.out _ _ (Ex.refl _) rfl
    | 9, _, ho, hO, hD, hK => 
      obtain rfl := Option.some.inj ho.symm
      clear ho
      have ev8 : FA.eval (.tmp 8) = .int .u16 (x2 : Int) := hD 1 8 (by kernel_rfl)
      have e8 : FA.tmps[8]?.getD undef = .int .u16 (x2 : Int) := by simpa [Act.eval] using ev8
      replace ev8 := Lib.hid ev8
      have ev15 : FA.eval (.tmp 15) = .int .u16 (s2 : Int) := hD 8 15 (by kernel_rfl)
      have e15 : FA.tmps[15]?.getD undef = .int .u16 (s2 : Int) := by simpa [Act.eval] using ev15
      replace ev15 := Lib.hid ev15
      clear hO hD
      go_simp
      exact hK.out _ _ (Ex.refl _) rfl
    | 10, _, ho, hO, hD, hK => 
      obtain rfl := Option.some.inj ho.symm
      clear ho
      have ev16 : FA.eval (.tmp 16) = .int .u16 (y : Int) := hD 9 16 (by kernel_rfl)
      have e16 : FA.tmps[16]?.getD undef = .int .u16 (y : Int) := by simpa [Act.eval] using ev16
      replace ev16 := Lib.hid ev16
      clear hO hD
      go_simp
      exact hK.out _ _ (Ex.refl _) rfl
    | (k + 11), hi, _, _, _, _ => exact absurd hi (by omega)
  intro vs x hp
  have p0 : vs 0 = .int .u16 (xw : Int) := hp 0 (by omega)
  have p1 : vs 1 = .int .u16 (x2 : Int) := hp 1 (by omega)
  have p2 : vs 2 = .agg (bcs key).toArray := hp 2 (by omega)
  have p3 := hp 3 (by omega)
  have p4 : vs 4 = .slice A n c := hp 4 (by omega)
  have p5 := hp 5 (by omega)
  have p6 : vs 6 = .int .u64 ((sip key (3 :: l)).toNat : Int) := hp 6 (by omega)
  have p7 : vs 7 = .int .u64 (s2 : Int) := hp 7 (by omega)
  have p8 : vs 8 = .int .u16 (s2 : Int) := hp 8 (by omega)
  have p9 : vs 9 = .int .u16 (y : Int) := hp 9 (by omega)
  have p10 : vs 10 = .int .u16 (y : Int) := hp 10 (by omega)
  clear hp
  simp only [List.take_succ_cons, List.take_zero, List.drop_succ_cons, List.drop_zero, putAll, Nat.zero_add, Nat.reduceAdd, Act.put, List.setIfInBounds_toArray, List.set_cons_zero, List.set_cons_succ, p0, p1, p2, p4, p6, p7, p8, p9, p10]
  clear p0 p1 p2 p4 p6 p7 p8 p9 p10
  generalize vs 3 = y3 at *
  generalize vs 5 = y5 at *
  clear vs
  go_wp2
  go_ret
  exact RetV.mk (belowP (Below.allocS (Below.refl _ _) _) _ _)

end Go.Proofs.Ytldecdeiibfekaa
