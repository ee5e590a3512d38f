/- The law Ip4Long (chapter 4). -/
import Derived.Test.YtldecdeiibfekaaIp4K
import Derived.Test.YtldecdeiibfekaaIp4Q
import Derived.Test.YtldecdeiibfekaaMk
namespace Go.Proofs.Ytldecdeiibfekaa
open Go.RowKit
set_option linter.unusedVariables false
set_option linter.unusedSimpArgs false
attribute [local go_sem ↓] sliced_cut
attribute [local go_sem] cutA_zero

/-- bytes and an error, as a word -/
def MP.be (l : List UInt8) (E : Int) : MP := ⟨fun v w => ∃ A n c, v = .tuple #[.slice A n c, .int .i64 E] ∧ Rb w A n c l, fun _ _ _ ⟨A, n, c, h1, h2⟩ h => ⟨A, n, c, h1, h2.later h.below⟩⟩
set_option maxHeartbeats 4000000 in
set_option maxRecDepth 100000 in
theorem ip4Long_walk (w : World) (q r : Nat) (hq : q < 256) (hr : r < 256) : Calls Try.prog 6 #[.int .u8 (q : Int), .int .u8 (r : Int)] w fun e w' => e = .returned (.bool true) ∧ Below w.heap.size w w' := by
  have HAW := Lib.hid awake4
  obtain ⟨du, u1, u2⟩ := rowH4
  obtain ⟨r1, hr1⟩ : ∃ x : Nat, x = r % 11 := ⟨_, rfl⟩
  obtain ⟨n, hn⟩ : ∃ x : Nat, x = 4 * r1 := ⟨_, rfl⟩
  have e1 : (r : Int) % 11 = (r1 : Int) := by omega
  have e1' : (r : Int).tmod 11 = (r1 : Int) := by rw [Int.tmod_eq_emod_of_nonneg (by omega)]; omega
  have e2 : IntKind.i64.wrap (r1 : Int) = (r1 : Int) := IntWalk.i64_in _ (by omega)
  have e3 : IntKind.i64.wrap ((r1 : Int) * 4) = (n : Int) := by rw [IntWalk.i64_in _ (by omega)]; omega
  have hn40 : n ≤ 40 := by omega
  have hn4 : n % 4 = 0 := by omega
  obtain ⟨z, hz⟩ : ∃ z : Nat, z = 20 + n := ⟨_, rfl⟩
  obtain ⟨m, hm⟩ : ∃ x : Nat, x = 65535 - z := ⟨_, rfl⟩
  have e4 : IntKind.i64.wrap (65535 - (z : Int)) = (m : Int) := by rw [IntWalk.i64_in _ (by omega)]; omega
  obtain ⟨m1, hm1⟩ : ∃ x : Nat, x = m + 1 := ⟨_, rfl⟩
  obtain ⟨m2, hm2⟩ : ∃ x : Nat, x = m1 + q := ⟨_, rfl⟩
  have e5 : IntKind.i64.wrap ((m : Int) + 1) = (m1 : Int) := by rw [IntWalk.i64_in _ (by omega)]; omega
  have e6 : IntKind.i64.wrap (q : Int) = (q : Int) := IntWalk.i64_in _ (by omega)
  have e7 : IntKind.i64.wrap ((m1 : Int) + (q : Int)) = (m2 : Int) := by rw [IntWalk.i64_in _ (by omega)]; omega
  have hmb : m ≤ 65535 := by omega
  have hm2b : m2 ≤ 66000 := by omega
  have HS0 := fun A w => size4 0 0 0 false false 0 9 17 0 false 0 0 false 0 0 A n n w (by omega)
  rw [← hz] at HS0
  have HP0 := fun A2 c2 w (h : Rb w A2 m c2 (List.replicate m 0)) A (hr : Rb w A n n (List.replicate n 0)) => packet4_ok 0 0 0 false false 0 9 17 0 0 0 A n n (List.replicate n 0) A2 m c2 (List.replicate m 0) w hr h (by decide) (by decide) (by decide) (by decide) (by decide) (by decide) hn40 hn4 (by omega) (by decide)
  have HQ0 := fun A2 c2 w A => packet4_long 0 0 0 false false 0 9 17 0 false 0 0 false 0 0 A n n A2 m2 c2 w (by omega) (by omega) (by omega)
  have HS := Lib.hid HS0
  have hLl : (ip4B 0 (20 + n + m) 0 (pl4 false false 0) 9 17 (ip4K 0 (20 + n + m) 0 (pl4 false false 0) 9 17 0 0 (List.replicate n 0)) 0 0 (List.replicate n 0) ++ List.replicate m 0).length = 65535 := by rw [List.length_append, ip4B_length, List.length_replicate, List.length_replicate]; omega
  generalize ip4B 0 (20 + n + m) 0 (pl4 false false 0) 9 17 (ip4K 0 (20 + n + m) 0 (pl4 false false 0) 9 17 0 0 (List.replicate n 0)) 0 0 (List.replicate n 0) ++ List.replicate m 0 = L at *
  have HPP := Lib.hid HP0
  have HQQ := Lib.hid HQ0
  replace hLl := Lib.hid hLl
  clear HS0 HP0 HQ0 hr1 hn hz hm hm1 hm2 hn4
  go_enter Try.func6, Try.ntmps6
  go_upto_region 2 with (at_make; refine wpList_mk bt rfl (.tmp 14) rfl _ n rfl rfl (by omega) ?_; intro w1 hb1 hbe1 hs1)
  have hX : Bk (w1.alloc (.cells #[.int .u8 0, .int .i64 0, .int .u16 0, .bool false, .bool false, .int .i64 0, .int .u8 9, .int .u8 17, .int .u16 0, .bool false, .int .u64 0, .int .u64 0, .bool false, .int .u64 0, .int .u64 0, .slice (some ⟨w.heap.size, 0, none⟩) n n] 77)) w1.heap.size 77 (h4C 0 0 0 false false 0 9 17 0 false 0 0 false 0 0 (some ⟨w.heap.size, 0, none⟩) n n) := Bk.new w1 77 #[.int .u8 0, .int .i64 0, .int .u16 0, .bool false, .bool false, .int .i64 0, .int .u8 9, .int .u8 17, .int .u16 0, .bool false, .int .u64 0, .int .u64 0, .bool false, .int .u64 0, .int .u64 0, .slice (some ⟨w.heap.size, 0, none⟩) n n]
  have hro : Rb (w1.alloc (.cells #[.int .u8 0, .int .i64 0, .int .u16 0, .bool false, .bool false, .int .i64 0, .int .u8 9, .int .u8 17, .int .u16 0, .bool false, .int .u64 0, .int .u64 0, .bool false, .int .u64 0, .int .u64 0, .slice (some ⟨w.heap.size, 0, none⟩) n n] 77)) (some ⟨w.heap.size, 0, none⟩) n n (List.replicate n 0) := ((Ob.of_bk (base := w.heap.size) (by rw [bcs_zeros]; exact hb1) (Nat.le_refl _) (by simp) (by simp [maxLen]; omega)).rb).alloc _
  have be : Below w.heap.size w (w1.alloc (.cells #[.int .u8 0, .int .i64 0, .int .u16 0, .bool false, .bool false, .int .i64 0, .int .u8 9, .int .u8 17, .int .u16 0, .bool false, .int .u64 0, .int .u64 0, .bool false, .int .u64 0, .int .u64 0, .slice (some ⟨w.heap.size, 0, none⟩) n n] 77)) := Below.allocS hbe1 _
  generalize w1.alloc (.cells #[.int .u8 0, .int .i64 0, .int .u16 0, .bool false, .bool false, .int .i64 0, .int .u8 9, .int .u8 17, .int .u16 0, .bool false, .int .u64 0, .int .u64 0, .bool false, .int .u64 0, .int .u64 0, .slice (some ⟨w.heap.size, 0, none⟩) n n] 77) = W at *
  generalize w1.heap.size = g5 at *
  clear hb1 hbe1
  go_wp2_with (refine at_op (.load 77 (.tmp 5)) rfl ?_; refine wpList_ldA (t := 77) 77 (.tmp 5) rfl rfl (h4C 0 0 0 false false 0 9 17 0 false 0 0 false 0 0 (some ⟨w.heap.size, 0, none⟩) n n) rfl (by with_reducible repeat (first | exact hX | refine Bk.later ?_ (below_plus _ _ _) | refine Bk.alloc ?_ _)) (whole_ _) u1 u2 (szH4 _ _ _ _ _ _ _ _ _ _ _ _ _ _ _ _ _ _) ?_)
  refine (HS.out _ _).mono ?_
  rintro e w2 ⟨bs0, m0, rfl, rfl⟩
  go_upto_region 3 with (fail)
  replace hX := hX.later (below_plus _ bs0 m0)
  replace hro := hro.plus_ bs0 m0
  replace be := belowP be bs0 m0
  generalize plus W bs0 m0 = V at *
  have HP := Lib.hid (fun w' (h : Rb w' (some ⟨w.heap.size, 0, none⟩) n n (List.replicate n 0)) A2 c2 (h2 : Rb w' A2 m c2 (List.replicate m 0)) => HPP.out A2 c2 w' h2 (some ⟨w.heap.size, 0, none⟩) h)
  have HQ := Lib.hid (fun w' A2 c2 => HQQ.out A2 c2 w' (some ⟨w.heap.size, 0, none⟩))
  have zb := be.size
  go_wp2
  refine wp_rel 9 57 rfl (by kernel_rfl) (by kernel_rfl) (fun i => match i with | 0 => MP.eq (.agg (h4C 0 0 0 false false 0 9 17 0 false 0 0 false 0 0 (some ⟨w.heap.size, 0, none⟩) n n).toArray) | 1 => MP.eq (.int .i64 (m : Int)) | 2 => MP.ob w.heap.size (List.replicate m 0) | 3 => MP.be L 0 | 4 => MP.be L 0 | 5 => MP.rb L | 6 => MP.eq (.int .i64 0) | 7 => MP.rb L | 8 => MP.eq (.int .i64 0) | _ => MP.any) ?_ ?_
  · intro i hi o ho FA x hO hD K hK
    match i, hi, ho, hO, hD, hK with
    | 0, _, ho, hO, hD, hK => 
      obtain rfl := Option.some.inj ho.symm
      clear ho
      have ev5 : FA.eval (.tmp 5) = .pointer (some ⟨g5, 0, none⟩) := hO 5 (by kernel_rfl)
      have e5 : FA.tmps[5]?.getD undef = .pointer (some ⟨g5, 0, none⟩) := by simpa [Act.eval] using ev5
      replace ev5 := Lib.hid ev5
      clear hO hD
      refine wanted_ifG (by go_simp) ?_
      refine wp_load_mid 77 (.tmp 5) rfl (g5) 0 ev5.out (h4C 0 0 0 false false 0 9 17 0 false 0 0 false 0 0 (some ⟨w.heap.size, 0, none⟩) n n) _ (Bk.range (hX.later (below_plus _ _ _))) u1 u2 (szH4 _ _ _ _ _ _ _ _ _ _ _ _ _ _ _ _ _ _) ?_
      exact hK.out _ _ (Ex.refl _) rfl
    | 1, _, ho, hO, hD, hK => 
      obtain rfl := Option.some.inj ho.symm
      clear ho
      have ev6 : FA.eval (.tmp 6) = .int .i64 (m : Int) := hO 6 (by kernel_rfl)
      have e6 : FA.tmps[6]?.getD undef = .int .i64 (m : Int) := by simpa [Act.eval] using ev6
      replace ev6 := Lib.hid ev6
      clear hO hD
      go_simp
      exact hK.out _ _ (Ex.refl _) rfl
    | 2, _, ho, hO, hD, hK => 
      obtain rfl := Option.some.inj ho.symm
      clear ho
      have ev22 : FA.eval (.tmp 22) = .int .i64 (m : Int) := hD 1 22 (by kernel_rfl)
      have e22 : FA.tmps[22]?.getD undef = .int .i64 (m : Int) := by simpa [Act.eval] using ev22
      replace ev22 := Lib.hid ev22
      clear hO hD
      refine wanted_if rfl ?_
      refine rel_mk bt (.tmp 22) rfl _ (m) ev22.out (by simp) (by omega) ?_
      intro w'' hex hob
      exact hK.out _ _ hex ⟨_, _, _, rfl, hob.mono (by simp [size_plus]; omega)⟩
    | 3, _, ho, hO, hD, hK => 
      obtain rfl := Option.some.inj ho.symm
      clear ho
      have ev21 : FA.eval (.tmp 21) = .agg (h4C 0 0 0 false false 0 9 17 0 false 0 0 false 0 0 (some ⟨w.heap.size, 0, none⟩) n n).toArray := hD 0 21 (by kernel_rfl)
      have e21 : FA.tmps[21]?.getD undef = .agg (h4C 0 0 0 false false 0 9 17 0 false 0 0 false 0 0 (some ⟨w.heap.size, 0, none⟩) n n).toArray := by simpa [Act.eval] using ev21
      replace ev21 := Lib.hid ev21
      have f23 := hD 2 23 (by kernel_rfl)
      generalize eu23 : FA.eval (.tmp 23) = u23 at f23
      have e23 : FA.tmps[23]?.getD undef = u23 := by rw [← eu23]; simp [Act.eval]
      have ev23 := Lib.hid eu23
      clear eu23
      clear hO hD
      obtain ⟨A1, n1, c1, rfl, hr1⟩ := f23
      obtain rfl : m = n1 := by rw [← hr1.1, List.length_replicate]
      go_simp
      refine (HP.out _ (hro.plus_ x.bs x.d) _ _ hr1.rb).mono ?_
      rintro e w1 ⟨A3, n3, c3, bs2, d2, rfl, rfl, ho2⟩
      exact hK.out _ _ (Ex.plus_ _ _ _) ⟨_, _, _, rfl, ho2⟩
    | 4, _, ho, hO, hD, hK => 
      obtain rfl := Option.some.inj ho.symm
      clear ho
      have f24 := hD 3 24 (by kernel_rfl)
      generalize eu24 : FA.eval (.tmp 24) = u24 at f24
      have e24 : FA.tmps[24]?.getD undef = u24 := by rw [← eu24]; simp [Act.eval]
      have ev24 := Lib.hid eu24
      clear eu24
      clear hO hD
      go_simp
      exact hK.out _ _ (Ex.refl _) f24
    | 5, _, ho, hO, hD, hK => 
      obtain rfl := Option.some.inj ho.symm
      clear ho
      have f20 := hD 4 20 (by kernel_rfl)
      generalize eu20 : FA.eval (.tmp 20) = u20 at f20
      have e20 : FA.tmps[20]?.getD undef = u20 := by rw [← eu20]; simp [Act.eval]
      have ev20 := Lib.hid eu20
      clear eu20
      clear hO hD
      obtain ⟨A1, n1, c1, rfl, hr1⟩ := f20
      go_simp
      exact hK.out _ _ (Ex.refl _) ⟨_, _, _, rfl, hr1⟩
    | 6, _, ho, hO, hD, hK => 
      obtain rfl := Option.some.inj ho.symm
      clear ho
      have f20 := hD 4 20 (by kernel_rfl)
      generalize eu20 : FA.eval (.tmp 20) = u20 at f20
      have e20 : FA.tmps[20]?.getD undef = u20 := by rw [← eu20]; simp [Act.eval]
      have ev20 := Lib.hid eu20
      clear eu20
      clear hO hD
      obtain ⟨A1, n1, c1, rfl, hr1⟩ := f20
      go_simp
      exact hK.out _ _ (Ex.refl _) rfl
    | 7, _, ho, hO, hD, hK => 
      obtain rfl := Option.some.inj ho.symm
      clear ho
      have f25 := hD 5 25 (by kernel_rfl)
      generalize eu25 : FA.eval (.tmp 25) = u25 at f25
      have e25 : FA.tmps[25]?.getD undef = u25 := by rw [← eu25]; simp [Act.eval]
      have ev25 := Lib.hid eu25
      clear eu25
      clear hO hD
      go_simp
      exact hK.out _ _ (Ex.refl _) f25
    | 8, _, ho, hO, hD, hK => 
      obtain rfl := Option.some.inj ho.symm
      clear ho
      have ev26 : FA.eval (.tmp 26) = .int .i64 0 := hD 6 26 (by kernel_rfl)
      have e26 : FA.tmps[26]?.getD undef = .int .i64 0 := by simpa [Act.eval] using ev26
      replace ev26 := Lib.hid ev26
      clear hO hD
      go_simp
      exact hK.out _ _ (Ex.refl _) rfl
    | (k + 9), hi, _, _, _, _ => exact absurd hi (by omega)
  intro vs x hp
  have p0 : vs 0 = .agg (h4C 0 0 0 false false 0 9 17 0 false 0 0 false 0 0 (some ⟨w.heap.size, 0, none⟩) n n).toArray := hp 0 (by omega)
  have p1 : vs 1 = .int .i64 (m : Int) := hp 1 (by omega)
  have p2 := hp 2 (by omega)
  have p3 := hp 3 (by omega)
  have p4 := hp 4 (by omega)
  have p5 := hp 5 (by omega)
  have p6 : vs 6 = .int .i64 0 := hp 6 (by omega)
  have p7 := hp 7 (by omega)
  have p8 : vs 8 = .int .i64 0 := hp 8 (by omega)
  clear hp
  simp only [List.take_succ_cons, List.take_zero, List.drop_succ_cons, List.drop_zero, putAll, Nat.zero_add, Nat.reduceAdd, Act.put, List.setIfInBounds_toArray, List.set_cons_zero, List.set_cons_succ, p0, p1, p6, p8]
  clear p0 p1 p6 p8
  generalize vs 2 = y2 at *
  generalize vs 3 = y3 at *
  generalize vs 4 = y4 at *
  generalize vs 5 = y5 at *
  generalize vs 7 = y7 at *
  clear vs
  clear p3 p4 p5
  obtain ⟨A7, n7, c7, rfl, h7⟩ := p7
  replace hX := hX.later (below_plus _ x.bs x.d)
  replace hro := hro.plus_ x.bs x.d
  replace be := belowP be x.bs x.d
  generalize plus V x.bs x.d = V1 at *
  obtain rfl : n7 = 65535 := by rw [← h7.1]; exact hLl.out
  replace zb := be.size
  go_upto_region 4 with (fail)
  go_wp2
  refine wp_rel 13 57 rfl (by kernel_rfl) (by kernel_rfl) (fun i => match i with | 0 => MP.eq (.agg (h4C 0 0 0 false false 0 9 17 0 false 0 0 false 0 0 (some ⟨w.heap.size, 0, none⟩) n n).toArray) | 1 => MP.eq (.int .i64 (m : Int)) | 2 => MP.eq (.int .i64 (m1 : Int)) | 3 => MP.eq (.int .u8 (q : Int)) | 4 => MP.eq (.int .i64 (q : Int)) | 5 => MP.eq (.int .i64 (m2 : Int)) | 6 => MP.ob w.heap.size (List.replicate m2 0) | 7 => MP.be [] 30 | 8 => MP.be [] 30 | 9 => MP.rb [] | 10 => MP.eq (.int .i64 30) | 11 => MP.rb [] | 12 => MP.eq (.int .i64 30) | _ => MP.any) ?_ ?_
  · intro i hi o ho FA x hO hD K hK
    match i, hi, ho, hO, hD, hK with
    | 0, _, ho, hO, hD, hK => 
      obtain rfl := Option.some.inj ho.symm
      clear ho
      have ev5 : FA.eval (.tmp 5) = .pointer (some ⟨g5, 0, none⟩) := hO 5 (by kernel_rfl)
      have e5 : FA.tmps[5]?.getD undef = .pointer (some ⟨g5, 0, none⟩) := by simpa [Act.eval] using ev5
      replace ev5 := Lib.hid ev5
      clear hO hD
      refine wanted_ifG (by go_simp) ?_
      refine wp_load_mid 77 (.tmp 5) rfl (g5) 0 ev5.out (h4C 0 0 0 false false 0 9 17 0 false 0 0 false 0 0 (some ⟨w.heap.size, 0, none⟩) n n) _ (Bk.range (hX.later (below_plus _ _ _))) u1 u2 (szH4 _ _ _ _ _ _ _ _ _ _ _ _ _ _ _ _ _ _) ?_
      exact hK.out _ _ (Ex.refl _) rfl
    | 1, _, ho, hO, hD, hK => 
      obtain rfl := Option.some.inj ho.symm
      clear ho
      have ev6 : FA.eval (.tmp 6) = .int .i64 (m : Int) := hO 6 (by kernel_rfl)
      have e6 : FA.tmps[6]?.getD undef = .int .i64 (m : Int) := by simpa [Act.eval] using ev6
      replace ev6 := Lib.hid ev6
      clear hO hD
      go_simp
      exact hK.out _ _ (Ex.refl _) rfl
    | 2, _, ho, hO, hD, hK => 
      obtain rfl := Option.some.inj ho.symm
      clear ho
      have ev29 : FA.eval (.tmp 29) = .int .i64 (m : Int) := hD 1 29 (by kernel_rfl)
      have e29 : FA.tmps[29]?.getD undef = .int .i64 (m : Int) := by simpa [Act.eval] using ev29
      replace ev29 := Lib.hid ev29
      clear hO hD
      go_simp
      exact hK.out _ _ (Ex.refl _) rfl
    | 3, _, ho, hO, hD, hK => 
      obtain rfl := Option.some.inj ho.symm
      clear ho
      have ev0 : FA.eval (.tmp 0) = .int .u8 (q : Int) := hO 0 (by kernel_rfl)
      have e0 : FA.tmps[0]?.getD undef = .int .u8 (q : Int) := by simpa [Act.eval] using ev0
      replace ev0 := Lib.hid ev0
      clear hO hD
      go_simp
      exact hK.out _ _ (Ex.refl _) rfl
    | 4, _, ho, hO, hD, hK => 
      obtain rfl := Option.some.inj ho.symm
      clear ho
      have ev31 : FA.eval (.tmp 31) = .int .u8 (q : Int) := hD 3 31 (by kernel_rfl)
      have e31 : FA.tmps[31]?.getD undef = .int .u8 (q : Int) := by simpa [Act.eval] using ev31
      replace ev31 := Lib.hid ev31
      clear hO hD
      go_simp
      exact hK.out _ _ (Ex.refl _) rfl
    | 5, _, ho, hO, hD, hK => 
      obtain rfl := Option.some.inj ho.symm
      clear ho
      have ev30 : FA.eval (.tmp 30) = .int .i64 (m1 : Int) := hD 2 30 (by kernel_rfl)
      have e30 : FA.tmps[30]?.getD undef = .int .i64 (m1 : Int) := by simpa [Act.eval] using ev30
      replace ev30 := Lib.hid ev30
      have ev32 : FA.eval (.tmp 32) = .int .i64 (q : Int) := hD 4 32 (by kernel_rfl)
      have e32 : FA.tmps[32]?.getD undef = .int .i64 (q : Int) := by simpa [Act.eval] using ev32
      replace ev32 := Lib.hid ev32
      clear hO hD
      go_simp
      exact hK.out _ _ (Ex.refl _) rfl
    | 6, _, ho, hO, hD, hK => 
      obtain rfl := Option.some.inj ho.symm
      clear ho
      have ev33 : FA.eval (.tmp 33) = .int .i64 (m2 : Int) := hD 5 33 (by kernel_rfl)
      have e33 : FA.tmps[33]?.getD undef = .int .i64 (m2 : Int) := by simpa [Act.eval] using ev33
      replace ev33 := Lib.hid ev33
      clear hO hD
      refine wanted_if rfl ?_
      refine rel_mk bt (.tmp 33) rfl _ (m2) ev33.out (by simp) (by omega) ?_
      intro w'' hex hob
      exact hK.out _ _ hex ⟨_, _, _, rfl, hob.mono (by simp [size_plus]; omega)⟩
    | 7, _, ho, hO, hD, hK => 
      obtain rfl := Option.some.inj ho.symm
      clear ho
      have ev28 : FA.eval (.tmp 28) = .agg (h4C 0 0 0 false false 0 9 17 0 false 0 0 false 0 0 (some ⟨w.heap.size, 0, none⟩) n n).toArray := hD 0 28 (by kernel_rfl)
      have e28 : FA.tmps[28]?.getD undef = .agg (h4C 0 0 0 false false 0 9 17 0 false 0 0 false 0 0 (some ⟨w.heap.size, 0, none⟩) n n).toArray := by simpa [Act.eval] using ev28
      replace ev28 := Lib.hid ev28
      have f34 := hD 6 34 (by kernel_rfl)
      generalize eu34 : FA.eval (.tmp 34) = u34 at f34
      have e34 : FA.tmps[34]?.getD undef = u34 := by rw [← eu34]; simp [Act.eval]
      have ev34 := Lib.hid eu34
      clear eu34
      clear hO hD
      obtain ⟨A1, n1, c1, rfl, hr1⟩ := f34
      obtain rfl : m2 = n1 := by rw [← hr1.1, List.length_replicate]
      go_simp
      refine (HQ.out _ _ _).mono ?_
      rintro e w1 ⟨A3, n3, c3, bs2, d2, rfl, rfl, ho2⟩
      exact hK.out _ _ (Ex.plus_ _ _ _) ⟨_, _, _, rfl, ho2⟩
    | 8, _, ho, hO, hD, hK => 
      obtain rfl := Option.some.inj ho.symm
      clear ho
      have f35 := hD 7 35 (by kernel_rfl)
      generalize eu35 : FA.eval (.tmp 35) = u35 at f35
      have e35 : FA.tmps[35]?.getD undef = u35 := by rw [← eu35]; simp [Act.eval]
      have ev35 := Lib.hid eu35
      clear eu35
      clear hO hD
      go_simp
      exact hK.out _ _ (Ex.refl _) f35
    | 9, _, ho, hO, hD, hK => 
      obtain rfl := Option.some.inj ho.symm
      clear ho
      have f27 := hD 8 27 (by kernel_rfl)
      generalize eu27 : FA.eval (.tmp 27) = u27 at f27
      have e27 : FA.tmps[27]?.getD undef = u27 := by rw [← eu27]; simp [Act.eval]
      have ev27 := Lib.hid eu27
      clear eu27
      clear hO hD
      obtain ⟨A1, n1, c1, rfl, hr1⟩ := f27
      go_simp
      exact hK.out _ _ (Ex.refl _) ⟨_, _, _, rfl, hr1⟩
    | 10, _, ho, hO, hD, hK => 
      obtain rfl := Option.some.inj ho.symm
      clear ho
      have f27 := hD 8 27 (by kernel_rfl)
      generalize eu27 : FA.eval (.tmp 27) = u27 at f27
      have e27 : FA.tmps[27]?.getD undef = u27 := by rw [← eu27]; simp [Act.eval]
      have ev27 := Lib.hid eu27
      clear eu27
      clear hO hD
      obtain ⟨A1, n1, c1, rfl, hr1⟩ := f27
      go_simp
      exact hK.out _ _ (Ex.refl _) rfl
    | 11, _, ho, hO, hD, hK => 
      obtain rfl := Option.some.inj ho.symm
      clear ho
      have f36 := hD 9 36 (by kernel_rfl)
      generalize eu36 : FA.eval (.tmp 36) = u36 at f36
      have e36 : FA.tmps[36]?.getD undef = u36 := by rw [← eu36]; simp [Act.eval]
      have ev36 := Lib.hid eu36
      clear eu36
      clear hO hD
      go_simp
      exact hK.out _ _ (Ex.refl _) f36
    | 12, _, ho, hO, hD, hK => 
      obtain rfl := Option.some.inj ho.symm
      clear ho
      have ev37 : FA.eval (.tmp 37) = .int .i64 30 := hD 10 37 (by kernel_rfl)
      have e37 : FA.tmps[37]?.getD undef = .int .i64 30 := by simpa [Act.eval] using ev37
      replace ev37 := Lib.hid ev37
      clear hO hD
      go_simp
      exact hK.out _ _ (Ex.refl _) rfl
    | (k + 13), hi, _, _, _, _ => exact absurd hi (by omega)
  intro vs x hp
  have p0 : vs 0 = .agg (h4C 0 0 0 false false 0 9 17 0 false 0 0 false 0 0 (some ⟨w.heap.size, 0, none⟩) n n).toArray := hp 0 (by omega)
  have p1 : vs 1 = .int .i64 (m : Int) := hp 1 (by omega)
  have p2 : vs 2 = .int .i64 (m1 : Int) := hp 2 (by omega)
  have p3 : vs 3 = .int .u8 (q : Int) := hp 3 (by omega)
  have p4 : vs 4 = .int .i64 (q : Int) := hp 4 (by omega)
  have p5 : vs 5 = .int .i64 (m2 : Int) := hp 5 (by omega)
  have p6 := hp 6 (by omega)
  have p7 := hp 7 (by omega)
  have p8 := hp 8 (by omega)
  have p9 := hp 9 (by omega)
  have p10 : vs 10 = .int .i64 30 := hp 10 (by omega)
  have p11 := hp 11 (by omega)
  have p12 : vs 12 = .int .i64 30 := hp 12 (by omega)
  clear hp
  simp only [List.take_succ_cons, List.take_zero, List.drop_succ_cons, List.drop_zero, putAll, Nat.zero_add, Nat.reduceAdd, Act.put, List.setIfInBounds_toArray, List.set_cons_zero, List.set_cons_succ, p0, p1, p2, p3, p4, p5, p10, p12]
  clear p0 p1 p2 p3 p4 p5 p10 p12
  generalize vs 6 = y6 at *
  generalize vs 7 = y7 at *
  generalize vs 8 = y8 at *
  generalize vs 9 = y9 at *
  generalize vs 11 = y11 at *
  clear vs
  clear p7 p8 p9
  obtain ⟨A9, n9, c9, rfl, h9⟩ := p11
  obtain rfl : n9 = 0 := h9.1.symm
  replace be := belowP be x.bs x.d
  generalize plus V1 x.bs x.d = V2 at *
  go_wp2_with (go_at_call 43; refine (HAW.out _).mono ?_; rintro e w1 ⟨bs3, d3, rfl, rfl⟩)
  go_ret
  exact ⟨rfl, belowP be _ _⟩
end Go.Proofs.Ytldecdeiibfekaa
