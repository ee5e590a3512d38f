/- counterfoilref13: tag, hidden, Read; the law CidReads. -/
import Derived.Test.YticlohlpccollaaCid
import Derived.Test.YticlohlpccollaaRingR
import Derived.Test.YticlohlpccollaaRingO
namespace Go.Proofs.Yticlohlpccollaa
open Go.RowKit
set_option linter.unusedVariables false
set_option linter.unusedSimpArgs false
attribute [local go_sem ↓] sliced_cut
attribute [local go_sem] cutA_zero

set_option maxHeartbeats 1000000 in
set_option maxRecDepth 100000 in
theorem refTag_any (key : List UInt8) (hk : K16 key) (A : Option Addr) (n c : Nat) (l : List UInt8) (w : World) (h : Rb w A n c l) (hn : n ≤ 1000) : Calls Try.prog 125 #[.agg (bcs key).toArray, .slice A n c] w (RetB w (dig (sip key (4 :: l)).toNat 5)) := by
  obtain ⟨dk, u1, u2, u3⟩ := row16
  have hbx := Bk.new w 49 (bcs key).toArray
  go_enter Try.func125, Try.ntmps125
  go_wp2
  refine wp_rel 7 11 rfl (by kernel_rfl) (by kernel_rfl) (fun i => match i with | 0 => MP.eq (.agg (bcs key).toArray) | 1 => MP.full [4] | 2 => MP.eq (.slice A n c) | 3 => MP.rb (4 :: l) | 4 => MP.eq (.int .u64 ((sip key (4 :: l)).toNat : Int)) | 5 => MP.ob w.heap.size (dig (sip key (4 :: l)).toNat 5) | 6 => MP.ob w.heap.size (dig (sip key (4 :: l)).toNat 5) | _ => MP.any) ?_ ?_
  · intro i hi o ho FA x hO hD K hK
    match i, hi, ho, hO, hD, hK with
    | 0, _, ho, hO, hD, hK => 
      obtain rfl := Option.some.inj ho.symm
      clear ho
      have ev2 : FA.eval (.tmp 2) = .pointer (some ⟨w.heap.size, 0, none⟩) := hO 2 (by kernel_rfl)
      have e2 : FA.tmps[2]?.getD undef = .pointer (some ⟨w.heap.size, 0, none⟩) := by simpa [Act.eval] using ev2
      replace ev2 := Lib.hid ev2
      clear hO hD
      refine wanted_if rfl ?_
      refine wp_load_mid 49 (.tmp 2) rfl w.heap.size 0 ev2.out (bcs key) _ (Bk.range (hbx.later (below_plus _ _ _))) u1 u2 (szArr key hk) ?_
      exact hK.out _ _ (Ex.refl _) rfl
    | 1, _, ho, hO, hD, hK => 
      obtain rfl := Option.some.inj ho.symm
      clear ho
      clear hO hD
      go_simp
      refine hK.out _ _ (Ex.alloc _ _) ⟨_, _, rfl, ?_⟩
      refine Rb.litW _ [4] ?_ rfl (by decide) rfl
      simp [size_plus]
    | 2, _, ho, hO, hD, hK => 
      obtain rfl := Option.some.inj ho.symm
      clear ho
      have ev1 : FA.eval (.tmp 1) = .slice A n c := hO 1 (by kernel_rfl)
      have e1 : FA.tmps[1]?.getD undef = .slice A n c := by simpa [Act.eval] using ev1
      replace ev1 := Lib.hid ev1
      clear hO hD
      go_simp
      exact hK.out _ _ (Ex.refl _) rfl
    | 3, _, ho, hO, hD, hK => 
      obtain rfl := Option.some.inj ho.symm
      clear ho
      have f6 := hD 1 6 (by kernel_rfl)
      generalize eu6 : FA.eval (.tmp 6) = u6 at f6
      have e6 : FA.tmps[6]?.getD undef = u6 := by rw [← eu6]; simp [Act.eval]
      have ev6 := Lib.hid eu6
      clear eu6
      have ev7 : FA.eval (.tmp 7) = .slice A n c := hD 2 7 (by kernel_rfl)
      have e7 : FA.tmps[7]?.getD undef = .slice A n c := by simpa [Act.eval] using ev7
      replace ev7 := Lib.hid ev7
      clear hO hD
      obtain ⟨A1, n1, rfl, hr1⟩ := f6
      obtain rfl : n1 = 1 := hr1.1.symm
      refine wanted_if rfl ?_
      refine rel_app bt (.tmp 6) (.tmp 7) rfl ev6.out hr1 ev7.out ((h.alloc _).plus_ _ _) (by omega) ?_
      intro A2 n2 c2 w2 hex hr2
      exact hK.out _ _ hex ⟨_, _, _, rfl, hr2⟩
    | 4, _, ho, hO, hD, hK => 
      obtain rfl := Option.some.inj ho.symm
      clear ho
      have ev5 : FA.eval (.tmp 5) = .agg (bcs key).toArray := hD 0 5 (by kernel_rfl)
      have e5 : FA.tmps[5]?.getD undef = .agg (bcs key).toArray := by simpa [Act.eval] using ev5
      replace ev5 := Lib.hid ev5
      have f8 := hD 3 8 (by kernel_rfl)
      generalize eu8 : FA.eval (.tmp 8) = u8 at f8
      have e8 : FA.tmps[8]?.getD undef = u8 := by rw [← eu8]; simp [Act.eval]
      have ev8 := Lib.hid eu8
      clear eu8
      clear hO hD
      obtain ⟨A1, n1, c1, rfl, hr1⟩ := f8
      have hn1 : n1 ≤ 2000 := by rw [← hr1.1]; simp [h.1]; omega
      go_simp
      refine (refSum_any key hk A1 n1 c1 _ _ hr1 (by omega)).mono ?_
      rintro e w1 ⟨bs2, d2, rfl, rfl⟩
      exact hK.out _ _ (Ex.plus_ _ _ _) rfl
    | 5, _, ho, hO, hD, hK => 
      obtain rfl := Option.some.inj ho.symm
      clear ho
      have ev9 : FA.eval (.tmp 9) = .int .u64 ((sip key (4 :: l)).toNat : Int) := hD 4 9 (by kernel_rfl)
      have e9 : FA.tmps[9]?.getD undef = .int .u64 ((sip key (4 :: l)).toNat : Int) := by simpa [Act.eval] using ev9
      replace ev9 := Lib.hid ev9
      clear hO hD
      go_simp
      refine (refBytes_any _ 5 _ (UInt64.toNat_lt _) (by omega)).mono ?_
      rintro e w1 ⟨A2, n2, c2, bs2, d2, rfl, rfl, ho2⟩
      exact hK.out _ _ (Ex.plus_ _ _ _) ⟨_, _, _, rfl, ho2.mono (by simp [size_plus]; omega)⟩
    | 6, _, ho, hO, hD, hK => 
      obtain rfl := Option.some.inj ho.symm
      clear ho
      have f10 := hD 5 10 (by kernel_rfl)
      generalize eu10 : FA.eval (.tmp 10) = u10 at f10
      have e10 : FA.tmps[10]?.getD undef = u10 := by rw [← eu10]; simp [Act.eval]
      have ev10 := Lib.hid eu10
      clear eu10
      clear hO hD
      go_simp
      exact hK.out _ _ (Ex.refl _) f10
    | (k + 7), hi, _, _, _, _ => exact absurd hi (by omega)
  intro vs x hp
  have p0 : vs 0 = .agg (bcs key).toArray := hp 0 (by omega)
  have p1 := hp 1 (by omega)
  have p2 : vs 2 = .slice A n c := hp 2 (by omega)
  have p3 := hp 3 (by omega)
  have p4 : vs 4 = .int .u64 ((sip key (4 :: l)).toNat : Int) := hp 4 (by omega)
  have p5 := hp 5 (by omega)
  have p6 := hp 6 (by omega)
  clear hp
  simp only [List.take_succ_cons, List.take_zero, List.drop_succ_cons, List.drop_zero, putAll, Nat.zero_add, Nat.reduceAdd, Act.put, List.setIfInBounds_toArray, List.set_cons_zero, List.set_cons_succ, p0, p2, p4]
  clear p0 p2 p4
  generalize vs 1 = y1 at *
  generalize vs 3 = y3 at *
  generalize vs 5 = y5 at *
  generalize vs 6 = y6 at *
  clear vs
  obtain ⟨A6, n6, c6, rfl, h6⟩ := p6
  go_wp2
  go_ret
  exact RetB.mk h6 (belowP (Below.allocS (Below.refl _ _) _) _ _)
set_option maxHeartbeats 1000000 in
set_option maxRecDepth 100000 in
theorem refHidden_any (key : List UInt8) (hk : K16 key) (A : Option Addr) (n c : Nat) (l : List UInt8) (xw : Nat) (w : World) (h : Rb w A n c l) (hn : n ≤ 1000) (hx : xw < 65536) : Calls Try.prog 124 #[.agg (bcs key).toArray, .slice A n c, .int .u16 xw] w (RetV w (.int .u16 ((xw % 32768 ^^^ (sip key (3 :: l)).toNat % 32768 : Nat) : Int))) := by
  obtain ⟨dk, u1, u2, u3⟩ := row16
  have hbx := Bk.new w 49 (bcs key).toArray
  have e1 : ((xw : Int)).tmod 32768 = ((xw % 32768 : Nat) : Int) := by rw [Int.tmod_eq_emod_of_nonneg (by omega)]; omega
  have e2 : ((sip key (3 :: l)).toNat : Int).tmod 32768 = (((sip key (3 :: l)).toNat % 32768 : Nat) : Int) := by rw [Int.tmod_eq_emod_of_nonneg (by omega)]; omega
  have l1 : xw % 32768 < 32768 := Nat.mod_lt _ (by decide)
  have l2 : (sip key (3 :: l)).toNat % 32768 < 32768 := Nat.mod_lt _ (by decide)
  have e3 : IntKind.u16.wrap (((sip key (3 :: l)).toNat % 32768 : Nat) : Int) = (((sip key (3 :: l)).toNat % 32768 : Nat) : Int) := IntWalk.u16_in _ (by omega)
  have HX := u16_xor_nat (xw % 32768) ((sip key (3 :: l)).toNat % 32768) (by omega) (by omega)
  generalize xw % 32768 ^^^ (sip key (3 :: l)).toNat % 32768 = y at *
  generalize xw % 32768 = x2 at *
  generalize (sip key (3 :: l)).toNat % 32768 = s2 at *
  go_enter Try.func124, Try.ntmps124
  go_wp2
  refine wp_rel 11 17 rfl (by kernel_rfl) (by kernel_rfl) (fun i => match i with | 0 => MP.eq (.int .u16 (xw : Int)) | 1 => MP.eq (.int .u16 (x2 : Int)) | 2 => MP.eq (.agg (bcs key).toArray) | 3 => MP.full [3] | 4 => MP.eq (.slice A n c) | 5 => MP.rb (3 :: l) | 6 => MP.eq (.int .u64 ((sip key (3 :: l)).toNat : Int)) | 7 => MP.eq (.int .u64 (s2 : Int)) | 8 => MP.eq (.int .u16 (s2 : Int)) | 9 => MP.eq (.int .u16 (y : Int)) | 10 => MP.eq (.int .u16 (y : Int)) | _ => MP.any) ?_ ?_
  · intro i hi o ho FA x hO hD K hK
    match i, hi, ho, hO, hD, hK with
    | 0, _, ho, hO, hD, hK => 
      obtain rfl := Option.some.inj ho.symm
      clear ho
      have ev2 : FA.eval (.tmp 2) = .int .u16 (xw : Int) := hO 2 (by kernel_rfl)
      have e2 : FA.tmps[2]?.getD undef = .int .u16 (xw : Int) := by simpa [Act.eval] using ev2
      replace ev2 := Lib.hid ev2
      clear hO hD
      go_simp
      exact hK.out _ _ (Ex.refl _) rfl
    | 1, _, ho, hO, hD, hK => 
      obtain rfl := Option.some.inj ho.symm
      clear ho
      have ev7 : FA.eval (.tmp 7) = .int .u16 (xw : Int) := hD 0 7 (by kernel_rfl)
      have e7 : FA.tmps[7]?.getD undef = .int .u16 (xw : Int) := by simpa [Act.eval] using ev7
      replace ev7 := Lib.hid ev7
      clear hO hD
      go_simp
      exact hK.out _ _ (Ex.refl _) rfl
    | 2, _, ho, hO, hD, hK => 
      obtain rfl := Option.some.inj ho.symm
      clear ho
      have ev3 : FA.eval (.tmp 3) = .pointer (some ⟨w.heap.size, 0, none⟩) := hO 3 (by kernel_rfl)
      have e3 : FA.tmps[3]?.getD undef = .pointer (some ⟨w.heap.size, 0, none⟩) := by simpa [Act.eval] using ev3
      replace ev3 := Lib.hid ev3
      clear hO hD
      refine wanted_if rfl ?_
      refine wp_load_mid 49 (.tmp 3) rfl w.heap.size 0 ev3.out (bcs key) _ (Bk.range (hbx.later (below_plus _ _ _))) u1 u2 (szArr key hk) ?_
      exact hK.out _ _ (Ex.refl _) rfl
    | 3, _, ho, hO, hD, hK => 
      obtain rfl := Option.some.inj ho.symm
      clear ho
      clear hO hD
      go_simp
      refine hK.out _ _ (Ex.alloc _ _) ⟨_, _, rfl, ?_⟩
      refine Rb.litW _ [3] ?_ rfl (by decide) rfl
      simp [size_plus]
    | 4, _, ho, hO, hD, hK => 
      obtain rfl := Option.some.inj ho.symm
      clear ho
      have ev1 : FA.eval (.tmp 1) = .slice A n c := hO 1 (by kernel_rfl)
      have e1 : FA.tmps[1]?.getD undef = .slice A n c := by simpa [Act.eval] using ev1
      replace ev1 := Lib.hid ev1
      clear hO hD
      go_simp
      exact hK.out _ _ (Ex.refl _) rfl
    | 5, _, ho, hO, hD, hK => 
      obtain rfl := Option.some.inj ho.symm
      clear ho
      have f10 := hD 3 10 (by kernel_rfl)
      generalize eu10 : FA.eval (.tmp 10) = u10 at f10
      have e10 : FA.tmps[10]?.getD undef = u10 := by rw [← eu10]; simp [Act.eval]
      have ev10 := Lib.hid eu10
      clear eu10
      have ev11 : FA.eval (.tmp 11) = .slice A n c := hD 4 11 (by kernel_rfl)
      have e11 : FA.tmps[11]?.getD undef = .slice A n c := by simpa [Act.eval] using ev11
      replace ev11 := Lib.hid ev11
      clear hO hD
      obtain ⟨A1, n1, rfl, hr1⟩ := f10
      obtain rfl : n1 = 1 := hr1.1.symm
      refine wanted_if rfl ?_
      refine rel_app bt (.tmp 10) (.tmp 11) rfl ev10.out hr1 ev11.out ((h.alloc _).plus_ _ _) (by omega) ?_
      intro A2 n2 c2 w2 hex hr2
      exact hK.out _ _ hex ⟨_, _, _, rfl, hr2⟩
    | 6, _, ho, hO, hD, hK => 
      obtain rfl := Option.some.inj ho.symm
      clear ho
      have ev9 : FA.eval (.tmp 9) = .agg (bcs key).toArray := hD 2 9 (by kernel_rfl)
      have e9 : FA.tmps[9]?.getD undef = .agg (bcs key).toArray := by simpa [Act.eval] using ev9
      replace ev9 := Lib.hid ev9
      have f12 := hD 5 12 (by kernel_rfl)
      generalize eu12 : FA.eval (.tmp 12) = u12 at f12
      have e12 : FA.tmps[12]?.getD undef = u12 := by rw [← eu12]; simp [Act.eval]
      have ev12 := Lib.hid eu12
      clear eu12
      clear hO hD
      obtain ⟨A1, n1, c1, rfl, hr1⟩ := f12
      have hn1 : n1 ≤ 2000 := by rw [← hr1.1]; simp [h.1]; omega
      go_simp
      refine (refSum_any key hk A1 n1 c1 _ _ hr1 (by omega)).mono ?_
      rintro e w1 ⟨bs2, d2, rfl, rfl⟩
      exact hK.out _ _ (Ex.plus_ _ _ _) rfl
    | 7, _, ho, hO, hD, hK => 
      obtain rfl := Option.some.inj ho.symm
      clear ho
      have ev13 : FA.eval (.tmp 13) = .int .u64 ((sip key (3 :: l)).toNat : Int) := hD 6 13 (by kernel_rfl)
      have e13 : FA.tmps[13]?.getD undef = .int .u64 ((sip key (3 :: l)).toNat : Int) := by simpa [Act.eval] using ev13
      replace ev13 := Lib.hid ev13
      clear hO hD
      go_simp
      exact hK.out _ _ (Ex.refl _) rfl
    | 8, _, ho, hO, hD, hK => 
      obtain rfl := Option.some.inj ho.symm
      clear ho
      have ev14 : FA.eval (.tmp 14) = .int .u64 (s2 : Int) := hD 7 14 (by kernel_rfl)
      have e14 : FA.tmps[14]?.getD undef = .int .u64 (s2 : Int) := by simpa [Act.eval] using ev14
      replace ev14 := Lib.hid ev14
      clear hO hD
      go_simp
      exact hK.out _ _ (Ex.refl _) rfl
    | 9, _, ho, hO, hD, hK => 
      obtain rfl := Option.some.inj ho.symm
      clear ho
      have ev8 : FA.eval (.tmp 8) = .int .u16 (x2 : Int) := hD 1 8 (by kernel_rfl)
      have e8 : FA.tmps[8]?.getD undef = .int .u16 (x2 : Int) := by simpa [Act.eval] using ev8
      replace ev8 := Lib.hid ev8
      have ev15 : FA.eval (.tmp 15) = .int .u16 (s2 : Int) := hD 8 15 (by kernel_rfl)
      have e15 : FA.tmps[15]?.getD undef = .int .u16 (s2 : Int) := by simpa [Act.eval] using ev15
      replace ev15 := Lib.hid ev15
      clear hO hD
      go_simp
      exact hK.out _ _ (Ex.refl _) rfl
    | 10, _, ho, hO, hD, hK => 
      obtain rfl := Option.some.inj ho.symm
      clear ho
      have ev16 : FA.eval (.tmp 16) = .int .u16 (y : Int) := hD 9 16 (by kernel_rfl)
      have e16 : FA.tmps[16]?.getD undef = .int .u16 (y : Int) := by simpa [Act.eval] using ev16
      replace ev16 := Lib.hid ev16
      clear hO hD
      go_simp
      exact hK.out _ _ (Ex.refl _) rfl
    | (k + 11), hi, _, _, _, _ => exact absurd hi (by omega)
  intro vs x hp
  have p0 : vs 0 = .int .u16 (xw : Int) := hp 0 (by omega)
  have p1 : vs 1 = .int .u16 (x2 : Int) := hp 1 (by omega)
  have p2 : vs 2 = .agg (bcs key).toArray := hp 2 (by omega)
  have p3 := hp 3 (by omega)
  have p4 : vs 4 = .slice A n c := hp 4 (by omega)
  have p5 := hp 5 (by omega)
  have p6 : vs 6 = .int .u64 ((sip key (3 :: l)).toNat : Int) := hp 6 (by omega)
  have p7 : vs 7 = .int .u64 (s2 : Int) := hp 7 (by omega)
  have p8 : vs 8 = .int .u16 (s2 : Int) := hp 8 (by omega)
  have p9 : vs 9 = .int .u16 (y : Int) := hp 9 (by omega)
  have p10 : vs 10 = .int .u16 (y : Int) := hp 10 (by omega)
  clear hp
  simp only [List.take_succ_cons, List.take_zero, List.drop_succ_cons, List.drop_zero, putAll, Nat.zero_add, Nat.reduceAdd, Act.put, List.setIfInBounds_toArray, List.set_cons_zero, List.set_cons_succ, p0, p1, p2, p4, p6, p7, p8, p9, p10]
  clear p0 p1 p2 p4 p6 p7 p8 p9 p10
  generalize vs 3 = y3 at *
  generalize vs 5 = y5 at *
  clear vs
  go_wp2
  go_ret
  exact RetV.mk (belowP (Below.allocS (Below.refl _ _) _) _ _)

set_option maxHeartbeats 1000000 in
set_option maxRecDepth 100000 in
theorem refCid_short (key : List UInt8) (hk : K16 key) (n : Nat) (A : Option Addr) (m c : Nat) (w : World) (hm : m ≠ 12) (hmm : m ≤ 1099511627776) : Calls Try.prog 93 #[.agg (ringC key n).toArray, .slice A m c] w (RetV w (.tuple #[.int .i64 0, .int .i64 0, .int .u64 0, .int .i64 20])) := by
  obtain ⟨dk, u1, u2, u3⟩ := row16
  obtain ⟨dr, v1, v2, v3⟩ : ∃ d, Try.prog.underlying 52 = some d ∧ d.isRow = true ∧ (Try.prog.info? 52).map (·.size) = some 17 := ⟨_, Try.underlying52, rfl, by kernel_rfl⟩
  have v4 : (Try.prog.info? 52).map (·.size) = some (ringC key n).length := by rw [ringC_length key hk n]; exact v3
  have b0 : Bk (w.alloc (.cells (ringC key n).toArray 52)) w.heap.size 52 (ringC key n) := Bk.new w 52 (ringC key n).toArray
  have be : Below w.heap.size w (w.alloc (.cells (ringC key n).toArray 52)) := Below.allocS (Below.refl _ _) _
  have t1 : ((m : Int) != 12) = true := by rw [bne_iff_ne]; omega
  clear hm
  go_enter Try.func93, Try.ntmps93
  go_wp2
  refine bodyPost_ret (v := .tuple #[.int .i64 0, .int .i64 0, .int .u64 0, .int .i64 20]) (by simp [results, Try.results93, go_sem]) rfl (RetV.mk ?_)
  exact be

theorem Rb.grownO {w w' : World} {A : Option Addr} {n c g : Nat} {l : List UInt8} (h : Rb w A n c l) (hg : w.grownBy w' (some g)) (hb : ∀ a, A = some a → a.block ≠ g) : Rb w' A n c l := by
  refine ⟨h.1, h.2.1, ?_⟩
  rcases h.2.2 with h' | ⟨b, off, hA, hbl, hc⟩
  · exact .inl h'
  · have hbb := hb _ hA
    refine .inr ⟨b, off, hA, Nat.lt_of_lt_of_le hbl hg.size, fun i u hu => ?_⟩
    exact (World.cell?_of_block (hg.block b hbl (fun e => by injection e with e; exact hbb e))).trans (hc i u hu)

set_option maxHeartbeats 2000000 in
set_option maxRecDepth 100000 in
theorem refCid_none (key : List UInt8) (hk : K16 key) (n : Nat) (A : Option Addr) (c : Nat) (l : List UInt8) (kk : List UInt8) (hkk : K16 kk) (w : World) (h : Rb w A 12 c l) (HAT : ∀ w, Calls Try.prog 123 #[.agg (ringC key n).toArray, .int .i64 ((num ((l.drop 5).take 2) : Int) / 32768)] w (RetV w (.tuple #[.agg (bcs kk).toArray, .bool false]))) : Calls Try.prog 93 #[.agg (ringC key n).toArray, .slice A 12 c] w (RetV w (.tuple #[.int .i64 0, .int .i64 0, .int .u64 0, .int .i64 26])) := by
  have hld : (bcs kk).length = (bcs key0).length := by rw [bcs_length, show kk.length = 16 from hkk]; rfl
  obtain ⟨dk, u1, u2, u3⟩ := row16
  obtain ⟨dr, v1, v2, v3⟩ : ∃ d, Try.prog.underlying 52 = some d ∧ d.isRow = true ∧ (Try.prog.info? 52).map (·.size) = some 17 := ⟨_, Try.underlying52, rfl, by kernel_rfl⟩
  have v4 : (Try.prog.info? 52).map (·.size) = some (ringC key n).length := by rw [ringC_length key hk n]; exact v3
  have b0 : Bk (w.alloc (.cells (ringC key n).toArray 52)) w.heap.size 52 (ringC key n) := Bk.new w 52 (ringC key n).toArray
  have be : Below w.heap.size w (w.alloc (.cells (ringC key n).toArray 52)) := Below.allocS (Below.refl _ _) _
  have hl12 : l.length = 12 := h.1
  have hc12 := h.2.1
  have k7 : (7 : Int) ≤ c := by omega
  have k5 : (5 : Int) ≤ c := by omega
  have HG := Lib.hid (fun W (h : Rb W A 12 c l) => refGet_any A 12 c l 5 2 W h (by omega) (by omega) (by omega))
  have hlt0 : num ((l.drop 0).take 5) < 1099511627776 := num_small _ 5 _ (by decide)
  have hlt1 : num ((l.drop 5).take 2) < 65536 := num_small _ 2 _ (by decide)
  generalize ho : num ((l.drop 0).take 5) = once at *
  generalize hw : num ((l.drop 5).take 2) = wd at *
  replace ho := Lib.hid ho
  replace hw := Lib.hid hw
  have hl12' : l.length ≤ 12 := by omega
  have hl12'' : 12 ≤ l.length := by omega
  replace hl12 := Lib.hid hl12
  replace HAT := Lib.hid HAT
  obtain ⟨b, off, rfl, hbl, hcell⟩ := h.2.2.at_ (by rw [bcs_length, hl12.out]; omega)
  clear hcell
  replace h := h.alloc (.cells (ringC key n).toArray 52)
  go_enter Try.func93, Try.ntmps93
  go_wp2_with fail
  generalize w.alloc (.cells (ringC key n).toArray 52) = W at *
  refine (HG.out _ h).mono ?_
  rintro e w1 ⟨rfl, rfl⟩
  go_upto_region 5 with (first
    | (refine at_op (.load 52 (.tmp 2)) rfl ?_; refine wpList_ldA (t := 52) 52 (.tmp 2) rfl rfl (ringC key n) rfl b0 (ringC_whole key n) v1 v2 v4 ?_)
    | (go_at_call 123; refine (HAT.out _).mono ?_; rintro e w1 ⟨bs3, d3, rfl, rfl⟩)
    | (refine at_op (.store 49 (.tmp 9) (.tmp 24)) rfl ?_; refine wpList_stA (t := 49) 49 (.tmp 9) (.tmp 24) rfl rfl (bcs kk) (bcs key0) hld (bcs_one _) rfl rfl ?_ (szArr _ hkk) ?_; (· refine Bk.newK _ _ _ ?_ rfl; simp [size_plus]); intro W3 hK3 hg3))
  have hlb := hbl
  replace hbl : b < W.heap.size + bs3.length := by have := be.size; omega
  have h3 : Rb W3 (some ⟨b, off, none⟩) 12 c l := by
    refine Rb.grownO ((h.plus_ bs3 d3).alloc _) hg3 (fun a ha => ?_)
    injection ha with ha
    subst ha
    show b ≠ _
    omega
  have zb := be.size
  replace be := below_grown (Below.allocS (belowP be bs3 d3) _) hg3 (by omega)
  generalize W.heap.size + bs3.length = gk at *
  clear hg3 b0 zb h
  go_wp2
  refine wp_plus (by kernel_rfl) (by kernel_rfl) ?_
  repeat (go_big_quiet_step (fail))
  refine wpQuiet_nil ?_
  rintro _ ⟨x, rfl⟩
  go_wp2
  refine bodyPost_ret (v := .tuple #[.int .i64 0, .int .i64 0, .int .u64 0, .int .i64 26]) (by simp [results, Try.results93, go_sem]) rfl (RetV.mk ?_)
  exact belowP be _ _

set_option maxHeartbeats 2000000 in
set_option maxRecDepth 100000 in
theorem refCid_bad (key : List UInt8) (hk : K16 key) (n : Nat) (A : Option Addr) (c : Nat) (l : List UInt8) (kk : List UInt8) (hkk : K16 kk) (w : World) (h : Rb w A 12 c l) (hne : l.drop 7 ≠ dig (sip kk (4 :: l.take 7)).toNat 5) (HAT : ∀ w, Calls Try.prog 123 #[.agg (ringC key n).toArray, .int .i64 ((num ((l.drop 5).take 2) : Int) / 32768)] w (RetV w (.tuple #[.agg (bcs kk).toArray, .bool true]))) : Calls Try.prog 93 #[.agg (ringC key n).toArray, .slice A 12 c] w (RetV w (.tuple #[.int .i64 0, .int .i64 0, .int .u64 0, .int .i64 26])) := by
  have hld : (bcs kk).length = (bcs key0).length := by rw [bcs_length, show kk.length = 16 from hkk]; rfl
  obtain ⟨dk, u1, u2, u3⟩ := row16
  obtain ⟨dr, v1, v2, v3⟩ : ∃ d, Try.prog.underlying 52 = some d ∧ d.isRow = true ∧ (Try.prog.info? 52).map (·.size) = some 17 := ⟨_, Try.underlying52, rfl, by kernel_rfl⟩
  have v4 : (Try.prog.info? 52).map (·.size) = some (ringC key n).length := by rw [ringC_length key hk n]; exact v3
  have b0 : Bk (w.alloc (.cells (ringC key n).toArray 52)) w.heap.size 52 (ringC key n) := Bk.new w 52 (ringC key n).toArray
  have be : Below w.heap.size w (w.alloc (.cells (ringC key n).toArray 52)) := Below.allocS (Below.refl _ _) _
  have hl12 : l.length = 12 := h.1
  have hc12 := h.2.1
  have k7 : (7 : Int) ≤ c := by omega
  have k5 : (5 : Int) ≤ c := by omega
  have HG := Lib.hid (fun W (h : Rb W A 12 c l) => refGet_any A 12 c l 5 2 W h (by omega) (by omega) (by omega))
  have hlt0 : num ((l.drop 0).take 5) < 1099511627776 := num_small _ 5 _ (by decide)
  have hlt1 : num ((l.drop 5).take 2) < 65536 := num_small _ 2 _ (by decide)
  generalize ho : num ((l.drop 0).take 5) = once at *
  generalize hw : num ((l.drop 5).take 2) = wd at *
  replace ho := Lib.hid ho
  replace hw := Lib.hid hw
  have hl12' : l.length ≤ 12 := by omega
  have hl12'' : 12 ≤ l.length := by omega
  replace hl12 := Lib.hid hl12
  replace HAT := Lib.hid HAT
  obtain ⟨b, off, rfl, hbl, hcell⟩ := h.2.2.at_ (by rw [bcs_length, hl12.out]; omega)
  clear hcell
  replace h := h.alloc (.cells (ringC key n).toArray 52)
  go_enter Try.func93, Try.ntmps93
  go_wp2_with fail
  generalize w.alloc (.cells (ringC key n).toArray 52) = W at *
  refine (HG.out _ h).mono ?_
  rintro e w1 ⟨rfl, rfl⟩
  go_upto_region 5 with (first
    | (refine at_op (.load 52 (.tmp 2)) rfl ?_; refine wpList_ldA (t := 52) 52 (.tmp 2) rfl rfl (ringC key n) rfl b0 (ringC_whole key n) v1 v2 v4 ?_)
    | (go_at_call 123; refine (HAT.out _).mono ?_; rintro e w1 ⟨bs3, d3, rfl, rfl⟩)
    | (refine at_op (.store 49 (.tmp 9) (.tmp 24)) rfl ?_; refine wpList_stA (t := 49) 49 (.tmp 9) (.tmp 24) rfl rfl (bcs kk) (bcs key0) hld (bcs_one _) rfl rfl ?_ (szArr _ hkk) ?_; (· refine Bk.newK _ _ _ ?_ rfl; simp [size_plus]); intro W3 hK3 hg3))
  have hlb := hbl
  replace hbl : b < W.heap.size + bs3.length := by have := be.size; omega
  have h3 : Rb W3 (some ⟨b, off, none⟩) 12 c l := by
    refine Rb.grownO ((h.plus_ bs3 d3).alloc _) hg3 (fun a ha => ?_)
    injection ha with ha
    subst ha
    show b ≠ _
    omega
  have zb := be.size
  replace be := below_grown (Below.allocS (belowP be bs3 d3) _) hg3 (by omega)
  generalize W.heap.size + bs3.length = gk at *
  clear hg3 b0 zb h
  have hr7 := h3.cut (k := 7) (by omega)
  have hnT : ¬ dig (sip kk (4 :: l.take 7)).toNat 5 = l.drop 7 := fun e => hne e.symm
  go_wp2
  refine wp_rel 13 52 rfl (by kernel_rfl) (by kernel_rfl) (fun i => match i with | 0 => MP.eq (.bool true) | 1 => MP.eq (.bool false) | 2 => MP.eq (.bool false) | 3 => MP.eq (.agg (bcs kk).toArray) | 4 => MP.eq (.slice (some ⟨b, off, none⟩) 12 c) | 5 => MP.eq (.slice (some ⟨b, off, none⟩) 7 c) | 6 => MP.ob W3.heap.size (dig (sip kk (4 :: l.take 7)).toNat 5) | 7 => MP.eq (.string ⟨(dig (sip kk (4 :: l.take 7)).toNat 5).toArray⟩) | 8 => MP.eq (.slice (some ⟨b, off, none⟩) 12 c) | 9 => MP.eq (.slice (cutA (some ⟨b, off, none⟩) c 7 1) 5 (c - 7)) | 10 => MP.eq (.string ⟨(l.drop 7).toArray⟩) | 11 => MP.eq (.bool true) | 12 => MP.eq (.bool true) | _ => MP.any) ?_ ?_
  · intro i hi o ho FA x hO hD K hK
    match i, hi, ho, hO, hD, hK with
    | 0, _, ho, hO, hD, hK => 
      obtain rfl := Option.some.inj ho.symm
      clear ho
      have ev10 : FA.eval (.tmp 10) = .bool true := hO 10 (by kernel_rfl)
      have e10 : FA.tmps[10]?.getD undef = .bool true := by simpa [Act.eval] using ev10
      replace ev10 := Lib.hid ev10
      clear hO hD
      go_simp
      exact hK.out _ _ (Ex.refl _) rfl
    | 1, _, ho, hO, hD, hK => 
      obtain rfl := Option.some.inj ho.symm
      clear ho
      have ev26 : FA.eval (.tmp 26) = .bool true := hD 0 26 (by kernel_rfl)
      have e26 : FA.tmps[26]?.getD undef = .bool true := by simpa [Act.eval] using ev26
      replace ev26 := Lib.hid ev26
      clear hO hD
      go_simp
      exact hK.out _ _ (Ex.refl _) rfl
    | 2, _, ho, hO, hD, hK => 
      obtain rfl := Option.some.inj ho.symm
      clear ho
      have ev27 : FA.eval (.tmp 27) = .bool false := hD 1 27 (by kernel_rfl)
      have e27 : FA.tmps[27]?.getD undef = .bool false := by simpa [Act.eval] using ev27
      replace ev27 := Lib.hid ev27
      clear hO hD
      go_simp
      exact hK.out _ _ (Ex.refl _) rfl
    | 3, _, ho, hO, hD, hK => 
      obtain rfl := Option.some.inj ho.symm
      clear ho
      have ev9 : FA.eval (.tmp 9) = .pointer (some ⟨gk, 0, none⟩) := hO 9 (by kernel_rfl)
      have e9 : FA.tmps[9]?.getD undef = .pointer (some ⟨gk, 0, none⟩) := by simpa [Act.eval] using ev9
      replace ev9 := Lib.hid ev9
      have ev28 : FA.eval (.tmp 28) = .bool false := hD 2 28 (by kernel_rfl)
      have e28 : FA.tmps[28]?.getD undef = .bool false := by simpa [Act.eval] using ev28
      replace ev28 := Lib.hid ev28
      have ge28 := slot_of e28
      clear hO hD
      refine wanted_ifG (by go_simp) ?_
      refine wp_load_mid 49 (.tmp 9) rfl gk 0 ev9.out (bcs kk) dk (Bk.range (hK3.later (below_plus _ _ _))) u1 u2 (szArr _ hkk) ?_
      exact hK.out _ _ (Ex.refl _) rfl
    | 4, _, ho, hO, hD, hK => 
      obtain rfl := Option.some.inj ho.symm
      clear ho
      have ev1 : FA.eval (.tmp 1) = .slice (some ⟨b, off, none⟩) 12 c := hO 1 (by kernel_rfl)
      have e1 : FA.tmps[1]?.getD undef = .slice (some ⟨b, off, none⟩) 12 c := by simpa [Act.eval] using ev1
      replace ev1 := Lib.hid ev1
      have ev28 : FA.eval (.tmp 28) = .bool false := hD 2 28 (by kernel_rfl)
      have e28 : FA.tmps[28]?.getD undef = .bool false := by simpa [Act.eval] using ev28
      replace ev28 := Lib.hid ev28
      have ge28 := slot_of e28
      clear hO hD
      go_simp
      exact hK.out _ _ (Ex.refl _) rfl
    | 5, _, ho, hO, hD, hK => 
      obtain rfl := Option.some.inj ho.symm
      clear ho
      have ev30 : FA.eval (.tmp 30) = .slice (some ⟨b, off, none⟩) 12 c := hD 4 30 (by kernel_rfl)
      have e30 : FA.tmps[30]?.getD undef = .slice (some ⟨b, off, none⟩) 12 c := by simpa [Act.eval] using ev30
      replace ev30 := Lib.hid ev30
      have ev28 : FA.eval (.tmp 28) = .bool false := hD 2 28 (by kernel_rfl)
      have e28 : FA.tmps[28]?.getD undef = .bool false := by simpa [Act.eval] using ev28
      replace ev28 := Lib.hid ev28
      have ge28 := slot_of e28
      clear hO hD
      go_simp
      exact hK.out _ _ (Ex.refl _) rfl
    | 6, _, ho, hO, hD, hK => 
      obtain rfl := Option.some.inj ho.symm
      clear ho
      have ev29 : FA.eval (.tmp 29) = .agg (bcs kk).toArray := hD 3 29 (by kernel_rfl)
      have e29 : FA.tmps[29]?.getD undef = .agg (bcs kk).toArray := by simpa [Act.eval] using ev29
      replace ev29 := Lib.hid ev29
      have ev31 : FA.eval (.tmp 31) = .slice (some ⟨b, off, none⟩) 7 c := hD 5 31 (by kernel_rfl)
      have e31 : FA.tmps[31]?.getD undef = .slice (some ⟨b, off, none⟩) 7 c := by simpa [Act.eval] using ev31
      replace ev31 := Lib.hid ev31
      have ev28 : FA.eval (.tmp 28) = .bool false := hD 2 28 (by kernel_rfl)
      have e28 : FA.tmps[28]?.getD undef = .bool false := by simpa [Act.eval] using ev28
      replace ev28 := Lib.hid ev28
      have ge28 := slot_of e28
      clear hO hD
      go_simp
      refine (refTag_any kk hkk _ 7 c (l.take 7) _ ((h3.take (k := 7) (by omega)).plus_ _ _) (by omega)).mono ?_
      rintro e w1 ⟨A2, n2, c2, bs2, d2, rfl, rfl, ho2⟩
      exact hK.out _ _ (Ex.plus_ _ _ _) ⟨_, _, _, rfl, ho2.mono (by simp [size_plus])⟩
    | 7, _, ho, hO, hD, hK => 
      obtain rfl := Option.some.inj ho.symm
      clear ho
      have f32 := hD 6 32 (by kernel_rfl)
      generalize eu32 : FA.eval (.tmp 32) = u32 at f32
      have e32 : FA.tmps[32]?.getD undef = u32 := by rw [← eu32]; simp [Act.eval]
      have ev32 := Lib.hid eu32
      clear eu32
      have ev28 : FA.eval (.tmp 28) = .bool false := hD 2 28 (by kernel_rfl)
      have e28 : FA.tmps[28]?.getD undef = .bool false := by simpa [Act.eval] using ev28
      replace ev28 := Lib.hid ev28
      have ge28 := slot_of e28
      clear hO hD
      obtain ⟨A1, n1, c1, rfl, h1⟩ := f32
      have e33 := run_str bt Try.underlying9 h1.rb
      go_simp
      exact hK.out _ _ (Ex.refl _) rfl
    | 8, _, ho, hO, hD, hK => 
      obtain rfl := Option.some.inj ho.symm
      clear ho
      have ev1 : FA.eval (.tmp 1) = .slice (some ⟨b, off, none⟩) 12 c := hO 1 (by kernel_rfl)
      have e1 : FA.tmps[1]?.getD undef = .slice (some ⟨b, off, none⟩) 12 c := by simpa [Act.eval] using ev1
      replace ev1 := Lib.hid ev1
      have ev28 : FA.eval (.tmp 28) = .bool false := hD 2 28 (by kernel_rfl)
      have e28 : FA.tmps[28]?.getD undef = .bool false := by simpa [Act.eval] using ev28
      replace ev28 := Lib.hid ev28
      have ge28 := slot_of e28
      clear hO hD
      go_simp
      exact hK.out _ _ (Ex.refl _) rfl
    | 9, _, ho, hO, hD, hK => 
      obtain rfl := Option.some.inj ho.symm
      clear ho
      have ev34 : FA.eval (.tmp 34) = .slice (some ⟨b, off, none⟩) 12 c := hD 8 34 (by kernel_rfl)
      have e34 : FA.tmps[34]?.getD undef = .slice (some ⟨b, off, none⟩) 12 c := by simpa [Act.eval] using ev34
      replace ev34 := Lib.hid ev34
      have ev28 : FA.eval (.tmp 28) = .bool false := hD 2 28 (by kernel_rfl)
      have e28 : FA.tmps[28]?.getD undef = .bool false := by simpa [Act.eval] using ev28
      replace ev28 := Lib.hid ev28
      have ge28 := slot_of e28
      clear hO hD
      go_simp
      exact hK.out _ _ (Ex.refl _) rfl
    | 10, _, ho, hO, hD, hK => 
      obtain rfl := Option.some.inj ho.symm
      clear ho
      have ev35 : FA.eval (.tmp 35) = .slice (cutA (some ⟨b, off, none⟩) c 7 1) 5 (c - 7) := hD 9 35 (by kernel_rfl)
      have e35 : FA.tmps[35]?.getD undef = .slice (cutA (some ⟨b, off, none⟩) c 7 1) 5 (c - 7) := by simpa [Act.eval] using ev35
      replace ev35 := Lib.hid ev35
      have ev28 : FA.eval (.tmp 28) = .bool false := hD 2 28 (by kernel_rfl)
      have e28 : FA.tmps[28]?.getD undef = .bool false := by simpa [Act.eval] using ev28
      replace ev28 := Lib.hid ev28
      have ge28 := slot_of e28
      clear hO hD
      have e36 := run_str bt Try.underlying9 (hr7.plus_ x.bs x.d)
      go_simp
      exact hK.out _ _ (Ex.refl _) rfl
    | 11, _, ho, hO, hD, hK => 
      obtain rfl := Option.some.inj ho.symm
      clear ho
      have ev33 : FA.eval (.tmp 33) = .string ⟨(dig (sip kk (4 :: l.take 7)).toNat 5).toArray⟩ := hD 7 33 (by kernel_rfl)
      have e33 : FA.tmps[33]?.getD undef = .string ⟨(dig (sip kk (4 :: l.take 7)).toNat 5).toArray⟩ := by simpa [Act.eval] using ev33
      replace ev33 := Lib.hid ev33
      have ev36 : FA.eval (.tmp 36) = .string ⟨(l.drop 7).toArray⟩ := hD 10 36 (by kernel_rfl)
      have e36 : FA.tmps[36]?.getD undef = .string ⟨(l.drop 7).toArray⟩ := by simpa [Act.eval] using ev36
      replace ev36 := Lib.hid ev36
      have ev28 : FA.eval (.tmp 28) = .bool false := hD 2 28 (by kernel_rfl)
      have e28 : FA.tmps[28]?.getD undef = .bool false := by simpa [Act.eval] using ev28
      replace ev28 := Lib.hid ev28
      have ge28 := slot_of e28
      clear hO hD
      go_simp
      refine hK.out _ _ (Ex.refl _) ?_
      show Value.bool _ = Value.bool true
      simpa using hnT
    | 12, _, ho, hO, hD, hK => 
      obtain rfl := Option.some.inj ho.symm
      clear ho
      have ev28 : FA.eval (.tmp 28) = .bool false := hD 2 28 (by kernel_rfl)
      have e28 : FA.tmps[28]?.getD undef = .bool false := by simpa [Act.eval] using ev28
      replace ev28 := Lib.hid ev28
      have ev37 : FA.eval (.tmp 37) = .bool true := hD 11 37 (by kernel_rfl)
      have e37 : FA.tmps[37]?.getD undef = .bool true := by simpa [Act.eval] using ev37
      replace ev37 := Lib.hid ev37
      clear hO hD
      go_simp
      exact hK.out _ _ (Ex.refl _) rfl
    | (k + 13), hi, _, _, _, _ => exact absurd hi (by omega)
  intro vs x hp
  have p0 : vs 0 = .bool true := hp 0 (by omega)
  have p1 : vs 1 = .bool false := hp 1 (by omega)
  have p2 : vs 2 = .bool false := hp 2 (by omega)
  have p3 : vs 3 = .agg (bcs kk).toArray := hp 3 (by omega)
  have p4 : vs 4 = .slice (some ⟨b, off, none⟩) 12 c := hp 4 (by omega)
  have p5 : vs 5 = .slice (some ⟨b, off, none⟩) 7 c := hp 5 (by omega)
  have p6 := hp 6 (by omega)
  have p7 : vs 7 = .string ⟨(dig (sip kk (4 :: l.take 7)).toNat 5).toArray⟩ := hp 7 (by omega)
  have p8 : vs 8 = .slice (some ⟨b, off, none⟩) 12 c := hp 8 (by omega)
  have p9 : vs 9 = .slice (cutA (some ⟨b, off, none⟩) c 7 1) 5 (c - 7) := hp 9 (by omega)
  have p10 : vs 10 = .string ⟨(l.drop 7).toArray⟩ := hp 10 (by omega)
  have p11 : vs 11 = .bool true := hp 11 (by omega)
  have p12 : vs 12 = .bool true := hp 12 (by omega)
  clear hp
  simp only [List.take_succ_cons, List.take_zero, List.drop_succ_cons, List.drop_zero, putAll, Nat.zero_add, Nat.reduceAdd, Act.put, List.setIfInBounds_toArray, List.set_cons_zero, List.set_cons_succ, p0, p1, p2, p3, p4, p5, p7, p8, p9, p10, p11, p12]
  clear p0 p1 p2 p3 p4 p5 p7 p8 p9 p10 p11 p12
  generalize vs 6 = y6 at *
  clear vs
  go_wp2
  refine bodyPost_ret (v := .tuple #[.int .i64 0, .int .i64 0, .int .u64 0, .int .i64 26]) (by simp [results, Try.results93, go_sem]) rfl (RetV.mk ?_)
  exact belowP be _ _

set_option maxHeartbeats 2000000 in
set_option maxRecDepth 100000 in
theorem refCid_ok (key : List UInt8) (hk : K16 key) (n : Nat) (A : Option Addr) (c : Nat) (l : List UInt8) (kk : List UInt8) (hkk : K16 kk) (w : World) (h : Rb w A 12 c l) (hne : l.drop 7 = dig (sip kk (4 :: l.take 7)).toNat 5) (HAT : ∀ w, Calls Try.prog 123 #[.agg (ringC key n).toArray, .int .i64 ((num ((l.drop 5).take 2) : Int) / 32768)] w (RetV w (.tuple #[.agg (bcs kk).toArray, .bool true]))) : Calls Try.prog 93 #[.agg (ringC key n).toArray, .slice A 12 c] w (RetV w (.tuple #[.int .i64 (((num ((l.drop 5).take 2) % 32768 ^^^ (sip kk (3 :: l.take 5)).toNat % 32768) / 4096 : Nat) : Int), .int .i64 (((num ((l.drop 5).take 2) % 32768 ^^^ (sip kk (3 :: l.take 5)).toNat % 32768) % 4096 : Nat) : Int), .int .u64 (num ((l.drop 0).take 5) : Nat), .int .i64 0])) := by
  have hld : (bcs kk).length = (bcs key0).length := by rw [bcs_length, show kk.length = 16 from hkk]; rfl
  obtain ⟨dk, u1, u2, u3⟩ := row16
  obtain ⟨dr, v1, v2, v3⟩ : ∃ d, Try.prog.underlying 52 = some d ∧ d.isRow = true ∧ (Try.prog.info? 52).map (·.size) = some 17 := ⟨_, Try.underlying52, rfl, by kernel_rfl⟩
  have v4 : (Try.prog.info? 52).map (·.size) = some (ringC key n).length := by rw [ringC_length key hk n]; exact v3
  have b0 : Bk (w.alloc (.cells (ringC key n).toArray 52)) w.heap.size 52 (ringC key n) := Bk.new w 52 (ringC key n).toArray
  have be : Below w.heap.size w (w.alloc (.cells (ringC key n).toArray 52)) := Below.allocS (Below.refl _ _) _
  have hl12 : l.length = 12 := h.1
  have hc12 := h.2.1
  have k7 : (7 : Int) ≤ c := by omega
  have k5 : (5 : Int) ≤ c := by omega
  have HG := Lib.hid (fun W (h : Rb W A 12 c l) => refGet_any A 12 c l 5 2 W h (by omega) (by omega) (by omega))
  have hlt0 : num ((l.drop 0).take 5) < 1099511627776 := num_small _ 5 _ (by decide)
  have hlt1 : num ((l.drop 5).take 2) < 65536 := num_small _ 2 _ (by decide)
  generalize ho : num ((l.drop 0).take 5) = once at *
  generalize hw : num ((l.drop 5).take 2) = wd at *
  replace ho := Lib.hid ho
  replace hw := Lib.hid hw
  have hl12' : l.length ≤ 12 := by omega
  have hl12'' : 12 ≤ l.length := by omega
  replace hl12 := Lib.hid hl12
  replace HAT := Lib.hid HAT
  obtain ⟨b, off, rfl, hbl, hcell⟩ := h.2.2.at_ (by rw [bcs_length, hl12.out]; omega)
  clear hcell
  replace h := h.alloc (.cells (ringC key n).toArray 52)
  go_enter Try.func93, Try.ntmps93
  go_wp2_with fail
  generalize w.alloc (.cells (ringC key n).toArray 52) = W at *
  refine (HG.out _ h).mono ?_
  rintro e w1 ⟨rfl, rfl⟩
  go_upto_region 5 with (first
    | (refine at_op (.load 52 (.tmp 2)) rfl ?_; refine wpList_ldA (t := 52) 52 (.tmp 2) rfl rfl (ringC key n) rfl b0 (ringC_whole key n) v1 v2 v4 ?_)
    | (go_at_call 123; refine (HAT.out _).mono ?_; rintro e w1 ⟨bs3, d3, rfl, rfl⟩)
    | (refine at_op (.store 49 (.tmp 9) (.tmp 24)) rfl ?_; refine wpList_stA (t := 49) 49 (.tmp 9) (.tmp 24) rfl rfl (bcs kk) (bcs key0) hld (bcs_one _) rfl rfl ?_ (szArr _ hkk) ?_; (· refine Bk.newK _ _ _ ?_ rfl; simp [size_plus]); intro W3 hK3 hg3))
  have hlb := hbl
  replace hbl : b < W.heap.size + bs3.length := by have := be.size; omega
  have h3 : Rb W3 (some ⟨b, off, none⟩) 12 c l := by
    refine Rb.grownO ((h.plus_ bs3 d3).alloc _) hg3 (fun a ha => ?_)
    injection ha with ha
    subst ha
    show b ≠ _
    omega
  have zb := be.size
  replace be := below_grown (Below.allocS (belowP be bs3 d3) _) hg3 (by omega)
  generalize W.heap.size + bs3.length = gk at *
  clear hg3 b0 zb h
  have hr7 := h3.cut (k := 7) (by omega)
  rw [hne] at hr7
  replace hne := Lib.hid hne
  go_wp2
  refine wp_rel 13 52 rfl (by kernel_rfl) (by kernel_rfl) (fun i => match i with | 0 => MP.eq (.bool true) | 1 => MP.eq (.bool false) | 2 => MP.eq (.bool false) | 3 => MP.eq (.agg (bcs kk).toArray) | 4 => MP.eq (.slice (some ⟨b, off, none⟩) 12 c) | 5 => MP.eq (.slice (some ⟨b, off, none⟩) 7 c) | 6 => MP.ob W3.heap.size (dig (sip kk (4 :: l.take 7)).toNat 5) | 7 => MP.eq (.string ⟨(dig (sip kk (4 :: l.take 7)).toNat 5).toArray⟩) | 8 => MP.eq (.slice (some ⟨b, off, none⟩) 12 c) | 9 => MP.eq (.slice (cutA (some ⟨b, off, none⟩) c 7 1) 5 (c - 7)) | 10 => MP.eq (.string ⟨(dig (sip kk (4 :: l.take 7)).toNat 5).toArray⟩) | 11 => MP.eq (.bool false) | 12 => MP.eq (.bool false) | _ => MP.any) ?_ ?_
  · intro i hi o ho FA x hO hD K hK
    match i, hi, ho, hO, hD, hK with
    | 0, _, ho, hO, hD, hK => 
      obtain rfl := Option.some.inj ho.symm
      clear ho
      have ev10 : FA.eval (.tmp 10) = .bool true := hO 10 (by kernel_rfl)
      have e10 : FA.tmps[10]?.getD undef = .bool true := by simpa [Act.eval] using ev10
      replace ev10 := Lib.hid ev10
      clear hO hD
      go_simp
      exact hK.out _ _ (Ex.refl _) rfl
    | 1, _, ho, hO, hD, hK => 
      obtain rfl := Option.some.inj ho.symm
      clear ho
      have ev26 : FA.eval (.tmp 26) = .bool true := hD 0 26 (by kernel_rfl)
      have e26 : FA.tmps[26]?.getD undef = .bool true := by simpa [Act.eval] using ev26
      replace ev26 := Lib.hid ev26
      clear hO hD
      go_simp
      exact hK.out _ _ (Ex.refl _) rfl
    | 2, _, ho, hO, hD, hK => 
      obtain rfl := Option.some.inj ho.symm
      clear ho
      have ev27 : FA.eval (.tmp 27) = .bool false := hD 1 27 (by kernel_rfl)
      have e27 : FA.tmps[27]?.getD undef = .bool false := by simpa [Act.eval] using ev27
      replace ev27 := Lib.hid ev27
      clear hO hD
      go_simp
      exact hK.out _ _ (Ex.refl _) rfl
    | 3, _, ho, hO, hD, hK => 
      obtain rfl := Option.some.inj ho.symm
      clear ho
      have ev9 : FA.eval (.tmp 9) = .pointer (some ⟨gk, 0, none⟩) := hO 9 (by kernel_rfl)
      have e9 : FA.tmps[9]?.getD undef = .pointer (some ⟨gk, 0, none⟩) := by simpa [Act.eval] using ev9
      replace ev9 := Lib.hid ev9
      have ev28 : FA.eval (.tmp 28) = .bool false := hD 2 28 (by kernel_rfl)
      have e28 : FA.tmps[28]?.getD undef = .bool false := by simpa [Act.eval] using ev28
      replace ev28 := Lib.hid ev28
      have ge28 := slot_of e28
      clear hO hD
      refine wanted_ifG (by go_simp) ?_
      refine wp_load_mid 49 (.tmp 9) rfl gk 0 ev9.out (bcs kk) dk (Bk.range (hK3.later (below_plus _ _ _))) u1 u2 (szArr _ hkk) ?_
      exact hK.out _ _ (Ex.refl _) rfl
    | 4, _, ho, hO, hD, hK => 
      obtain rfl := Option.some.inj ho.symm
      clear ho
      have ev1 : FA.eval (.tmp 1) = .slice (some ⟨b, off, none⟩) 12 c := hO 1 (by kernel_rfl)
      have e1 : FA.tmps[1]?.getD undef = .slice (some ⟨b, off, none⟩) 12 c := by simpa [Act.eval] using ev1
      replace ev1 := Lib.hid ev1
      have ev28 : FA.eval (.tmp 28) = .bool false := hD 2 28 (by kernel_rfl)
      have e28 : FA.tmps[28]?.getD undef = .bool false := by simpa [Act.eval] using ev28
      replace ev28 := Lib.hid ev28
      have ge28 := slot_of e28
      clear hO hD
      go_simp
      exact hK.out _ _ (Ex.refl _) rfl
    | 5, _, ho, hO, hD, hK => 
      obtain rfl := Option.some.inj ho.symm
      clear ho
      have ev30 : FA.eval (.tmp 30) = .slice (some ⟨b, off, none⟩) 12 c := hD 4 30 (by kernel_rfl)
      have e30 : FA.tmps[30]?.getD undef = .slice (some ⟨b, off, none⟩) 12 c := by simpa [Act.eval] using ev30
      replace ev30 := Lib.hid ev30
      have ev28 : FA.eval (.tmp 28) = .bool false := hD 2 28 (by kernel_rfl)
      have e28 : FA.tmps[28]?.getD undef = .bool false := by simpa [Act.eval] using ev28
      replace ev28 := Lib.hid ev28
      have ge28 := slot_of e28
      clear hO hD
      go_simp
      exact hK.out _ _ (Ex.refl _) rfl
    | 6, _, ho, hO, hD, hK => 
      obtain rfl := Option.some.inj ho.symm
      clear ho
      have ev29 : FA.eval (.tmp 29) = .agg (bcs kk).toArray := hD 3 29 (by kernel_rfl)
      have e29 : FA.tmps[29]?.getD undef = .agg (bcs kk).toArray := by simpa [Act.eval] using ev29
      replace ev29 := Lib.hid ev29
      have ev31 : FA.eval (.tmp 31) = .slice (some ⟨b, off, none⟩) 7 c := hD 5 31 (by kernel_rfl)
      have e31 : FA.tmps[31]?.getD undef = .slice (some ⟨b, off, none⟩) 7 c := by simpa [Act.eval] using ev31
      replace ev31 := Lib.hid ev31
      have ev28 : FA.eval (.tmp 28) = .bool false := hD 2 28 (by kernel_rfl)
      have e28 : FA.tmps[28]?.getD undef = .bool false := by simpa [Act.eval] using ev28
      replace ev28 := Lib.hid ev28
      have ge28 := slot_of e28
      clear hO hD
      go_simp
      refine (refTag_any kk hkk _ 7 c (l.take 7) _ ((h3.take (k := 7) (by omega)).plus_ _ _) (by omega)).mono ?_
      rintro e w1 ⟨A2, n2, c2, bs2, d2, rfl, rfl, ho2⟩
      exact hK.out _ _ (Ex.plus_ _ _ _) ⟨_, _, _, rfl, ho2.mono (by simp [size_plus])⟩
    | 7, _, ho, hO, hD, hK => 
      obtain rfl := Option.some.inj ho.symm
      clear ho
      have f32 := hD 6 32 (by kernel_rfl)
      generalize eu32 : FA.eval (.tmp 32) = u32 at f32
      have e32 : FA.tmps[32]?.getD undef = u32 := by rw [← eu32]; simp [Act.eval]
      have ev32 := Lib.hid eu32
      clear eu32
      have ev28 : FA.eval (.tmp 28) = .bool false := hD 2 28 (by kernel_rfl)
      have e28 : FA.tmps[28]?.getD undef = .bool false := by simpa [Act.eval] using ev28
      replace ev28 := Lib.hid ev28
      have ge28 := slot_of e28
      clear hO hD
      obtain ⟨A1, n1, c1, rfl, h1⟩ := f32
      have e33 := run_str bt Try.underlying9 h1.rb
      go_simp
      exact hK.out _ _ (Ex.refl _) rfl
    | 8, _, ho, hO, hD, hK => 
      obtain rfl := Option.some.inj ho.symm
      clear ho
      have ev1 : FA.eval (.tmp 1) = .slice (some ⟨b, off, none⟩) 12 c := hO 1 (by kernel_rfl)
      have e1 : FA.tmps[1]?.getD undef = .slice (some ⟨b, off, none⟩) 12 c := by simpa [Act.eval] using ev1
      replace ev1 := Lib.hid ev1
      have ev28 : FA.eval (.tmp 28) = .bool false := hD 2 28 (by kernel_rfl)
      have e28 : FA.tmps[28]?.getD undef = .bool false := by simpa [Act.eval] using ev28
      replace ev28 := Lib.hid ev28
      have ge28 := slot_of e28
      clear hO hD
      go_simp
      exact hK.out _ _ (Ex.refl _) rfl
    | 9, _, ho, hO, hD, hK => 
      obtain rfl := Option.some.inj ho.symm
      clear ho
      have ev34 : FA.eval (.tmp 34) = .slice (some ⟨b, off, none⟩) 12 c := hD 8 34 (by kernel_rfl)
      have e34 : FA.tmps[34]?.getD undef = .slice (some ⟨b, off, none⟩) 12 c := by simpa [Act.eval] using ev34
      replace ev34 := Lib.hid ev34
      have ev28 : FA.eval (.tmp 28) = .bool false := hD 2 28 (by kernel_rfl)
      have e28 : FA.tmps[28]?.getD undef = .bool false := by simpa [Act.eval] using ev28
      replace ev28 := Lib.hid ev28
      have ge28 := slot_of e28
      clear hO hD
      go_simp
      exact hK.out _ _ (Ex.refl _) rfl
    | 10, _, ho, hO, hD, hK => 
      obtain rfl := Option.some.inj ho.symm
      clear ho
      have ev35 : FA.eval (.tmp 35) = .slice (cutA (some ⟨b, off, none⟩) c 7 1) 5 (c - 7) := hD 9 35 (by kernel_rfl)
      have e35 : FA.tmps[35]?.getD undef = .slice (cutA (some ⟨b, off, none⟩) c 7 1) 5 (c - 7) := by simpa [Act.eval] using ev35
      replace ev35 := Lib.hid ev35
      have ev28 : FA.eval (.tmp 28) = .bool false := hD 2 28 (by kernel_rfl)
      have e28 : FA.tmps[28]?.getD undef = .bool false := by simpa [Act.eval] using ev28
      replace ev28 := Lib.hid ev28
      have ge28 := slot_of e28
      clear hO hD
      have e36 := run_str bt Try.underlying9 (hr7.plus_ x.bs x.d)
      go_simp
      exact hK.out _ _ (Ex.refl _) rfl
    | 11, _, ho, hO, hD, hK => 
      obtain rfl := Option.some.inj ho.symm
      clear ho
      have ev33 : FA.eval (.tmp 33) = .string ⟨(dig (sip kk (4 :: l.take 7)).toNat 5).toArray⟩ := hD 7 33 (by kernel_rfl)
      have e33 : FA.tmps[33]?.getD undef = .string ⟨(dig (sip kk (4 :: l.take 7)).toNat 5).toArray⟩ := by simpa [Act.eval] using ev33
      replace ev33 := Lib.hid ev33
      have ev36 : FA.eval (.tmp 36) = .string ⟨(dig (sip kk (4 :: l.take 7)).toNat 5).toArray⟩ := hD 10 36 (by kernel_rfl)
      have e36 : FA.tmps[36]?.getD undef = .string ⟨(dig (sip kk (4 :: l.take 7)).toNat 5).toArray⟩ := by simpa [Act.eval] using ev36
      replace ev36 := Lib.hid ev36
      have ev28 : FA.eval (.tmp 28) = .bool false := hD 2 28 (by kernel_rfl)
      have e28 : FA.tmps[28]?.getD undef = .bool false := by simpa [Act.eval] using ev28
      replace ev28 := Lib.hid ev28
      have ge28 := slot_of e28
      clear hO hD
      go_simp
      exact hK.out _ _ (Ex.refl _) rfl
    | 12, _, ho, hO, hD, hK => 
      obtain rfl := Option.some.inj ho.symm
      clear ho
      have ev28 : FA.eval (.tmp 28) = .bool false := hD 2 28 (by kernel_rfl)
      have e28 : FA.tmps[28]?.getD undef = .bool false := by simpa [Act.eval] using ev28
      replace ev28 := Lib.hid ev28
      have ev37 : FA.eval (.tmp 37) = .bool false := hD 11 37 (by kernel_rfl)
      have e37 : FA.tmps[37]?.getD undef = .bool false := by simpa [Act.eval] using ev37
      replace ev37 := Lib.hid ev37
      clear hO hD
      go_simp
      exact hK.out _ _ (Ex.refl _) rfl
    | (k + 13), hi, _, _, _, _ => exact absurd hi (by omega)
  intro vs x hp
  have p0 : vs 0 = .bool true := hp 0 (by omega)
  have p1 : vs 1 = .bool false := hp 1 (by omega)
  have p2 : vs 2 = .bool false := hp 2 (by omega)
  have p3 : vs 3 = .agg (bcs kk).toArray := hp 3 (by omega)
  have p4 : vs 4 = .slice (some ⟨b, off, none⟩) 12 c := hp 4 (by omega)
  have p5 : vs 5 = .slice (some ⟨b, off, none⟩) 7 c := hp 5 (by omega)
  have p6 := hp 6 (by omega)
  have p7 : vs 7 = .string ⟨(dig (sip kk (4 :: l.take 7)).toNat 5).toArray⟩ := hp 7 (by omega)
  have p8 : vs 8 = .slice (some ⟨b, off, none⟩) 12 c := hp 8 (by omega)
  have p9 : vs 9 = .slice (cutA (some ⟨b, off, none⟩) c 7 1) 5 (c - 7) := hp 9 (by omega)
  have p10 : vs 10 = .string ⟨(dig (sip kk (4 :: l.take 7)).toNat 5).toArray⟩ := hp 10 (by omega)
  have p11 : vs 11 = .bool false := hp 11 (by omega)
  have p12 : vs 12 = .bool false := hp 12 (by omega)
  clear hp
  simp only [List.take_succ_cons, List.take_zero, List.drop_succ_cons, List.drop_zero, putAll, Nat.zero_add, Nat.reduceAdd, Act.put, List.setIfInBounds_toArray, List.set_cons_zero, List.set_cons_succ, p0, p1, p2, p3, p4, p5, p7, p8, p9, p10, p11, p12]
  clear p0 p1 p2 p3 p4 p5 p7 p8 p9 p10 p11 p12
  generalize vs 6 = y6 at *
  clear vs
  replace h3 := h3.plus_ x.bs x.d
  replace hK3 := hK3.later (below_plus _ x.bs x.d)
  replace be := belowP be x.bs x.d
  generalize plus W3 x.bs x.d = W4 at *
  have h5 := h3.take (k := 5) (by omega)
  have HH := Lib.hid (fun bs d => refHidden_any kk hkk _ 5 c (l.take 5) wd (plus W4 bs d) (h5.plus_ bs d) (by omega) hlt1)
  have hyl : wd % 32768 ^^^ (sip kk (3 :: l.take 5)).toNat % 32768 < 2 ^ 15 := Nat.xor_lt_two_pow (Nat.mod_lt _ (by decide)) (Nat.mod_lt _ (by decide))
  generalize wd % 32768 ^^^ (sip kk (3 :: l.take 5)).toNat % 32768 = y at *
  have HN := Lib.hid (fun bs d => refNum_any _ 5 c (l.take 5) (plus W4 bs d) (h5.plus_ bs d) (by omega))
  rw [List.drop_zero] at ho
  rw [ho.out] at HN
  go_wp2
  refine wp_plus (by kernel_rfl) (by kernel_rfl) ?_
  repeat (first
    | (go_big_quiet_want; refine at_opQ (.load 49 (.tmp 9)) rfl ?_; refine quiet_ldA (t := 49) 49 (.tmp 9) rfl (bcs kk) rfl (fun w' hw' => by obtain ⟨x, rfl⟩ := hw'; exact hK3.later (below_plus _ _ _)) (bcs_whole _) u1 u2 (szArr _ hkk) ?_; simp only [Act.put, List.setIfInBounds_toArray, List.set_cons_zero, List.set_cons_succ]; go_big_quiet_on)
    | go_big_quiet_step ((go_at_call 124; exact callP (HH.out _ _))))
  refine wpQuiet_nil ?_
  rintro _ ⟨x, rfl⟩
  go_wp2_with (go_at_call 110; refine (HN.out _ _).mono ?_; rintro e w1 ⟨rfl, rfl⟩)
  refine bodyPost_ret (v := .tuple #[.int .i64 ((y / 4096 : Nat) : Int), .int .i64 ((y % 4096 : Nat) : Int), .int .u64 (once : Int), .int .i64 0]) (by simp [results, Try.results93, go_sem]) rfl (RetV.mk ?_)
  exact belowP be _ _
end Go.Proofs.Yticlohlpccollaa
