/- siphash.Derive and its reference. -/
import Derived.Test.YtldecdeiibfekaaSipO
import Derived.Test.YtldecdeiibfekaaRel
import Derived.Stop.BytesEq
namespace Go.Proofs.Ytldecdeiibfekaa
open Go.RowKit
set_option linter.unusedVariables false
set_option linter.unusedSimpArgs false
attribute [local go_sem ↓] sliced_cut
attribute [local go_sem] cutA_zero

noncomputable def derK (key : List UInt8) (use : Nat) : List UInt8 := ofK (sip key ([1] ++ dig use 8)).toNat (sip key ([2] ++ dig use 8)).toNat

set_option maxHeartbeats 2000000 in
set_option maxRecDepth 100000 in
theorem derive_any (key : List UInt8) (hk : K16 key) (use : Nat) (w : World) (hu : use < 18446744073709551616) : Calls Try.prog 157 #[.agg (bcs key).toArray, .int .u64 use] w (RetV w (.agg (bcs (derK key use)).toArray)) := by
  obtain ⟨dk, u1, u2, u3⟩ := rowKey
  go_enter Try.func157, Try.ntmps157
  go_wp2
  have hbx := (Bk.new w 54 (bcs key).toArray).alloc (.cells #[.int .u8 0, .int .u8 0, .int .u8 0, .int .u8 0, .int .u8 0, .int .u8 0, .int .u8 0, .int .u8 0, .int .u8 0, .int .u8 0, .int .u8 0, .int .u8 0, .int .u8 0, .int .u8 0, .int .u8 0, .int .u8 0] 54)
  refine wp_rel 11 16 rfl (by kernel_rfl) (by kernel_rfl) (fun i => match i with | 0 => MP.eq (.agg (bcs key).toArray) | 1 => MP.rb [1] | 2 => MP.eq (.int .u64 (use : Int)) | 3 => MP.rb ([1] ++ dig use 8) | 4 => MP.eq (.int .u64 ((sip key ([1] ++ dig use 8)).toNat : Int)) | 5 => MP.eq (.agg (bcs key).toArray) | 6 => MP.rb [2] | 7 => MP.eq (.int .u64 (use : Int)) | 8 => MP.rb ([2] ++ dig use 8) | 9 => MP.eq (.int .u64 ((sip key ([2] ++ dig use 8)).toNat : Int)) | 10 => MP.eq (.agg (bcs (derK key use)).toArray) | _ => MP.any) ?_ ?_
  · intro i hi o ho A x hO hD K hK
    match i, hi, ho, hO, hD, hK with
    | 0, _, ho, hO, hD, hK => 
      obtain rfl := Option.some.inj ho.symm
      clear ho
      have ev2 : A.eval (.tmp 2) = .pointer (some ⟨w.heap.size, 0, none⟩) := hO 2 (by kernel_rfl)
      have e2 : A.tmps[2]?.getD undef = .pointer (some ⟨w.heap.size, 0, none⟩) := by simpa [Act.eval] using ev2
      replace ev2 := Lib.hid ev2
      clear hO hD
      refine wanted_if rfl ?_
      refine wp_load_mid 54 (.tmp 2) rfl w.heap.size 0 ev2.out (bcs key) dk (Bk.range (hbx.later (below_plus _ _ _))) u1 u2 (by rw [bcs_length, show key.length = 16 from hk]; exact u3) ?_
      exact hK.out _ _ (Ex.refl _) rfl
    | 1, _, ho, hO, hD, hK => 
      obtain rfl := Option.some.inj ho.symm
      clear ho
      clear hO hD
      go_simp
      refine hK.out _ _ (Ex.alloc _ _) ⟨_, _, _, rfl, ?_⟩
      refine Rb.litW _ [1] ?_ rfl (by decide) rfl
      simp [size_plus]
    | 2, _, ho, hO, hD, hK => 
      obtain rfl := Option.some.inj ho.symm
      clear ho
      have ev1 : A.eval (.tmp 1) = .int .u64 (use : Int) := hO 1 (by kernel_rfl)
      have e1 : A.tmps[1]?.getD undef = .int .u64 (use : Int) := by simpa [Act.eval] using ev1
      replace ev1 := Lib.hid ev1
      clear hO hD
      go_simp
      exact hK.out _ _ (Ex.refl _) rfl
    | 3, _, ho, hO, hD, hK => 
      obtain rfl := Option.some.inj ho.symm
      clear ho
      have f6 := hD 1 6 (by kernel_rfl)
      generalize eu6 : A.eval (.tmp 6) = u6 at f6
      have e6 : A.tmps[6]?.getD undef = u6 := by rw [← eu6]; simp [Act.eval]
      clear eu6
      have ev7 : A.eval (.tmp 7) = .int .u64 (use : Int) := hD 2 7 (by kernel_rfl)
      have e7 : A.tmps[7]?.getD undef = .int .u64 (use : Int) := by simpa [Act.eval] using ev7
      replace ev7 := Lib.hid ev7
      clear hO hD
      obtain ⟨A1, n1, c1, rfl, hr1⟩ := f6
      obtain rfl : n1 = 1 := hr1.1.symm
      go_simp
      refine (put_any A1 1 c1 [1] use 8 _ hr1 (by omega) hu (by omega) (by omega)).mono ?_
      rintro e w1 ⟨A2, n2, c2, bs2, d2, rfl, rfl, ho2⟩
      exact hK.out _ _ (Ex.plus_ _ _ _) ⟨_, _, _, rfl, ho2.rb⟩
    | 4, _, ho, hO, hD, hK => 
      obtain rfl := Option.some.inj ho.symm
      clear ho
      have ev5 : A.eval (.tmp 5) = .agg (bcs key).toArray := hD 0 5 (by kernel_rfl)
      have e5 : A.tmps[5]?.getD undef = .agg (bcs key).toArray := by simpa [Act.eval] using ev5
      replace ev5 := Lib.hid ev5
      have f8 := hD 3 8 (by kernel_rfl)
      generalize eu8 : A.eval (.tmp 8) = u8 at f8
      have e8 : A.tmps[8]?.getD undef = u8 := by rw [← eu8]; simp [Act.eval]
      clear eu8
      clear hO hD
      obtain ⟨A1, n1, c1, rfl, hr1⟩ := f8
      have hn1 : n1 ≤ 100 := by rw [← hr1.1]; simp [dig_length]
      go_simp
      refine (sum_any key hk A1 n1 c1 _ _ hr1 (by omega)).mono ?_
      rintro e w1 ⟨bs2, d2, rfl, rfl⟩
      exact hK.out _ _ (Ex.plus_ _ _ _) rfl
    | 5, _, ho, hO, hD, hK => 
      obtain rfl := Option.some.inj ho.symm
      clear ho
      have ev2 : A.eval (.tmp 2) = .pointer (some ⟨w.heap.size, 0, none⟩) := hO 2 (by kernel_rfl)
      have e2 : A.tmps[2]?.getD undef = .pointer (some ⟨w.heap.size, 0, none⟩) := by simpa [Act.eval] using ev2
      replace ev2 := Lib.hid ev2
      clear hO hD
      refine wanted_if rfl ?_
      refine wp_load_mid 54 (.tmp 2) rfl w.heap.size 0 ev2.out (bcs key) dk (Bk.range (hbx.later (below_plus _ _ _))) u1 u2 (by rw [bcs_length, show key.length = 16 from hk]; exact u3) ?_
      exact hK.out _ _ (Ex.refl _) rfl
    | 6, _, ho, hO, hD, hK => 
      obtain rfl := Option.some.inj ho.symm
      clear ho
      clear hO hD
      go_simp
      refine hK.out _ _ (Ex.alloc _ _) ⟨_, _, _, rfl, ?_⟩
      refine Rb.litW _ [2] ?_ rfl (by decide) rfl
      simp [size_plus]
    | 7, _, ho, hO, hD, hK => 
      obtain rfl := Option.some.inj ho.symm
      clear ho
      have ev1 : A.eval (.tmp 1) = .int .u64 (use : Int) := hO 1 (by kernel_rfl)
      have e1 : A.tmps[1]?.getD undef = .int .u64 (use : Int) := by simpa [Act.eval] using ev1
      replace ev1 := Lib.hid ev1
      clear hO hD
      go_simp
      exact hK.out _ _ (Ex.refl _) rfl
    | 8, _, ho, hO, hD, hK => 
      obtain rfl := Option.some.inj ho.symm
      clear ho
      have f11 := hD 6 11 (by kernel_rfl)
      generalize eu11 : A.eval (.tmp 11) = u11 at f11
      have e11 : A.tmps[11]?.getD undef = u11 := by rw [← eu11]; simp [Act.eval]
      clear eu11
      have ev12 : A.eval (.tmp 12) = .int .u64 (use : Int) := hD 7 12 (by kernel_rfl)
      have e12 : A.tmps[12]?.getD undef = .int .u64 (use : Int) := by simpa [Act.eval] using ev12
      replace ev12 := Lib.hid ev12
      clear hO hD
      obtain ⟨A1, n1, c1, rfl, hr1⟩ := f11
      obtain rfl : n1 = 1 := hr1.1.symm
      go_simp
      refine (put_any A1 1 c1 [2] use 8 _ hr1 (by omega) hu (by omega) (by omega)).mono ?_
      rintro e w1 ⟨A2, n2, c2, bs2, d2, rfl, rfl, ho2⟩
      exact hK.out _ _ (Ex.plus_ _ _ _) ⟨_, _, _, rfl, ho2.rb⟩
    | 9, _, ho, hO, hD, hK => 
      obtain rfl := Option.some.inj ho.symm
      clear ho
      have ev10 : A.eval (.tmp 10) = .agg (bcs key).toArray := hD 5 10 (by kernel_rfl)
      have e10 : A.tmps[10]?.getD undef = .agg (bcs key).toArray := by simpa [Act.eval] using ev10
      replace ev10 := Lib.hid ev10
      have f13 := hD 8 13 (by kernel_rfl)
      generalize eu13 : A.eval (.tmp 13) = u13 at f13
      have e13 : A.tmps[13]?.getD undef = u13 := by rw [← eu13]; simp [Act.eval]
      clear eu13
      clear hO hD
      obtain ⟨A1, n1, c1, rfl, hr1⟩ := f13
      have hn1 : n1 ≤ 100 := by rw [← hr1.1]; simp [dig_length]
      go_simp
      refine (sum_any key hk A1 n1 c1 _ _ hr1 (by omega)).mono ?_
      rintro e w1 ⟨bs2, d2, rfl, rfl⟩
      exact hK.out _ _ (Ex.plus_ _ _ _) rfl
    | 10, _, ho, hO, hD, hK => 
      obtain rfl := Option.some.inj ho.symm
      clear ho
      have ev9 : A.eval (.tmp 9) = .int .u64 ((sip key ([1] ++ dig use 8)).toNat : Int) := hD 4 9 (by kernel_rfl)
      have e9 : A.tmps[9]?.getD undef = .int .u64 ((sip key ([1] ++ dig use 8)).toNat : Int) := by simpa [Act.eval] using ev9
      replace ev9 := Lib.hid ev9
      have ev14 : A.eval (.tmp 14) = .int .u64 ((sip key ([2] ++ dig use 8)).toNat : Int) := hD 9 14 (by kernel_rfl)
      have e14 : A.tmps[14]?.getD undef = .int .u64 ((sip key ([2] ++ dig use 8)).toNat : Int) := by simpa [Act.eval] using ev14
      replace ev14 := Lib.hid ev14
      clear hO hD
      go_simp
      refine (of_any _ _ _ (UInt64.toNat_lt _) (UInt64.toNat_lt _)).mono ?_
      rintro e w1 ⟨bs2, d2, rfl, rfl⟩
      exact hK.out _ _ (Ex.plus_ _ _ _) rfl
    | (k + 11), hi, _, _, _, _ => exact absurd hi (by omega)
  intro vs x hp
  have p0 : vs 0 = .agg (bcs key).toArray := hp 0 (by omega)
  have p1 := hp 1 (by omega)
  have p2 : vs 2 = .int .u64 (use : Int) := hp 2 (by omega)
  have p3 := hp 3 (by omega)
  have p4 : vs 4 = .int .u64 ((sip key ([1] ++ dig use 8)).toNat : Int) := hp 4 (by omega)
  have p5 : vs 5 = .agg (bcs key).toArray := hp 5 (by omega)
  have p6 := hp 6 (by omega)
  have p7 : vs 7 = .int .u64 (use : Int) := hp 7 (by omega)
  have p8 := hp 8 (by omega)
  have p9 : vs 9 = .int .u64 ((sip key ([2] ++ dig use 8)).toNat : Int) := hp 9 (by omega)
  have p10 : vs 10 = .agg (bcs (derK key use)).toArray := hp 10 (by omega)
  clear hp
  simp only [List.take_succ_cons, List.take_zero, List.drop_succ_cons, List.drop_zero, putAll, Nat.zero_add, Nat.reduceAdd, Act.put, List.setIfInBounds_toArray, List.set_cons_zero, List.set_cons_succ, p0, p2, p4, p5, p7, p9, p10]
  clear p0 p2 p4 p5 p7 p9 p10
  generalize vs 1 = y1 at *
  generalize vs 3 = y3 at *
  generalize vs 6 = y6 at *
  generalize vs 8 = y8 at *
  clear vs
  have hk2 : K16 (derK key use) := K16_of _ _
  have hb1 := Bk.new (w.alloc (.cells (bcs key).toArray 54)) 54 #[.int .u8 0, .int .u8 0, .int .u8 0, .int .u8 0, .int .u8 0, .int .u8 0, .int .u8 0, .int .u8 0, .int .u8 0, .int .u8 0, .int .u8 0, .int .u8 0, .int .u8 0, .int .u8 0, .int .u8 0, .int .u8 0]
  rw [World.size_alloc] at hb1
  have hb2 := hb1.later (below_plus _ x.bs x.d)
  go_wp2_with (refine wpList_stKey 54 (.tmp 4) (.tmp 15) rfl rfl rowKey hk2 (old := List.replicate 16 0) rfl rfl rfl hb2 ?_)
  have hb3 := Bk.setCells (bcs (derK key use)) _ 0 hb2 (by rw [bcs_length, show (derK key use).length = 16 from hk2]; rfl)
  refine bodyPost_agg Try.results157 rfl (Bk.range hb3) u1 u2 (by simp only [List.take_zero, List.nil_append]; rw [bcs_length, show (derK key use).length = 16 from hk2]; exact u3) rfl (RetV.mk ?_)
  refine Below.setCells (Nat.le_succ _) _ _ _ (belowP ?_ _ _)
  repeat (first | exact Below.refl _ _ | refine Below.alloc ?_ (by simp) _)

set_option maxHeartbeats 2000000 in
set_option maxRecDepth 100000 in
theorem refDerive_any (key : List UInt8) (hk : K16 key) (use : Nat) (w : World) (hu : use < 18446744073709551616) : Calls Try.prog 160 #[.agg (bcs key).toArray, .int .u64 use] w (RetV w (.agg (bcs (derK key use)).toArray)) := by
  obtain ⟨dk, u1, u2, u3⟩ := row16
  go_enter Try.func160, Try.ntmps160
  go_wp2_with fail
  have hbx0 := (Bk.new w 49 (bcs key).toArray).alloc (.cells #[.int .u8 0, .int .u8 0, .int .u8 0, .int .u8 0, .int .u8 0, .int .u8 0, .int .u8 0, .int .u8 0, .int .u8 0, .int .u8 0, .int .u8 0, .int .u8 0, .int .u8 0, .int .u8 0, .int .u8 0, .int .u8 0] 49)
  have hb1 := Bk.new (w.alloc (.cells (bcs key).toArray 49)) 49 #[.int .u8 0, .int .u8 0, .int .u8 0, .int .u8 0, .int .u8 0, .int .u8 0, .int .u8 0, .int .u8 0, .int .u8 0, .int .u8 0, .int .u8 0, .int .u8 0, .int .u8 0, .int .u8 0, .int .u8 0, .int .u8 0]
  have he := (((Below.refl w.heap.size w).alloc (Nat.le_refl _) (.cells (bcs key).toArray 49)).alloc (by simp) (.cells #[.int .u8 0, .int .u8 0, .int .u8 0, .int .u8 0, .int .u8 0, .int .u8 0, .int .u8 0, .int .u8 0, .int .u8 0, .int .u8 0, .int .u8 0, .int .u8 0, .int .u8 0, .int .u8 0, .int .u8 0, .int .u8 0] 49))
  rw [World.size_alloc] at hb1
  have HE := Lib.hid he
  clear he
  generalize (w.alloc (.cells (bcs key).toArray 49)).alloc (.cells #[.int .u8 0, .int .u8 0, .int .u8 0, .int .u8 0, .int .u8 0, .int .u8 0, .int .u8 0, .int .u8 0, .int .u8 0, .int .u8 0, .int .u8 0, .int .u8 0, .int .u8 0, .int .u8 0, .int .u8 0, .int .u8 0] 49) = W0 at *
  refine (refBytes_any use 8 _ hu (by omega)).mono ?_
  rintro e w1 ⟨A5, n5, c5, bs5, d5, rfl, rfl, ho5⟩
  obtain rfl : n5 = 8 := by rw [← ho5.1]; simp [dig_length]
  have hx5 := ho5.rb
  have hbx := hbx0.later (below_plus _ bs5 d5)
  clear hbx0
  go_wp2
  refine wp_rel 11 19 rfl (by kernel_rfl) (by kernel_rfl) (fun i => match i with | 0 => MP.eq (.agg (bcs key).toArray) | 1 => MP.full [1] | 2 => MP.eq (.slice A5 8 c5) | 3 => MP.rb ([1] ++ dig use 8) | 4 => MP.eq (.int .u64 ((sip key ([1] ++ dig use 8)).toNat : Int)) | 5 => MP.eq (.agg (bcs key).toArray) | 6 => MP.full [2] | 7 => MP.eq (.slice A5 8 c5) | 8 => MP.rb ([2] ++ dig use 8) | 9 => MP.eq (.int .u64 ((sip key ([2] ++ dig use 8)).toNat : Int)) | 10 => MP.eq (.agg (bcs (derK key use)).toArray) | _ => MP.any) ?_ ?_
  · intro i hi o ho A x hO hD K hK
    match i, hi, ho, hO, hD, hK with
    | 0, _, ho, hO, hD, hK => 
      obtain rfl := Option.some.inj ho.symm
      clear ho
      have ev2 : A.eval (.tmp 2) = .pointer (some ⟨w.heap.size, 0, none⟩) := hO 2 (by kernel_rfl)
      have e2 : A.tmps[2]?.getD undef = .pointer (some ⟨w.heap.size, 0, none⟩) := by simpa [Act.eval] using ev2
      replace ev2 := Lib.hid ev2
      clear hO hD
      refine wanted_if rfl ?_
      refine wp_load_mid 49 (.tmp 2) rfl w.heap.size 0 ev2.out (bcs key) dk (Bk.range (hbx.later (below_plus _ _ _))) u1 u2 (by rw [bcs_length, show key.length = 16 from hk]; exact u3) ?_
      exact hK.out _ _ (Ex.refl _) rfl
    | 1, _, ho, hO, hD, hK => 
      obtain rfl := Option.some.inj ho.symm
      clear ho
      clear hO hD
      go_simp
      refine hK.out _ _ (Ex.alloc _ _) ⟨_, _, rfl, ?_⟩
      refine Rb.litW _ [1] ?_ rfl (by decide) rfl
      simp [size_plus]
    | 2, _, ho, hO, hD, hK => 
      obtain rfl := Option.some.inj ho.symm
      clear ho
      have ev5 : A.eval (.tmp 5) = .slice A5 8 c5 := hO 5 (by kernel_rfl)
      have e5 : A.tmps[5]?.getD undef = .slice A5 8 c5 := by simpa [Act.eval] using ev5
      replace ev5 := Lib.hid ev5
      clear hO hD
      go_simp
      exact hK.out _ _ (Ex.refl _) rfl
    | 3, _, ho, hO, hD, hK => 
      obtain rfl := Option.some.inj ho.symm
      clear ho
      have f9 := hD 1 9 (by kernel_rfl)
      generalize eu9 : A.eval (.tmp 9) = u9 at f9
      have e9 : A.tmps[9]?.getD undef = u9 := by rw [← eu9]; simp [Act.eval]
      clear eu9
      have ev10 : A.eval (.tmp 10) = .slice A5 8 c5 := hD 2 10 (by kernel_rfl)
      have e10 : A.tmps[10]?.getD undef = .slice A5 8 c5 := by simpa [Act.eval] using ev10
      replace ev10 := Lib.hid ev10
      clear hO hD
      obtain ⟨A1, n1, rfl, hr1⟩ := f9
      obtain rfl : n1 = 1 := hr1.1.symm
      refine wanted_if rfl ?_
      refine rel_app bt (.tmp 9) (.tmp 10) rfl (by simpa [Act.eval] using e9) hr1 ev10.out (hx5.plus_ _ _) (by omega) ?_
      intro A2 n2 c2 w2 hex hr2
      exact hK.out _ _ hex ⟨_, _, _, rfl, hr2⟩
    | 4, _, ho, hO, hD, hK => 
      obtain rfl := Option.some.inj ho.symm
      clear ho
      have ev8 : A.eval (.tmp 8) = .agg (bcs key).toArray := hD 0 8 (by kernel_rfl)
      have e8 : A.tmps[8]?.getD undef = .agg (bcs key).toArray := by simpa [Act.eval] using ev8
      replace ev8 := Lib.hid ev8
      have f11 := hD 3 11 (by kernel_rfl)
      generalize eu11 : A.eval (.tmp 11) = u11 at f11
      have e11 : A.tmps[11]?.getD undef = u11 := by rw [← eu11]; simp [Act.eval]
      clear eu11
      clear hO hD
      obtain ⟨A1, n1, c1, rfl, hr1⟩ := f11
      have hn1 : n1 ≤ 100 := by rw [← hr1.1]; simp [dig_length]
      go_simp
      refine (refSum_any key hk A1 n1 c1 _ _ hr1 (by omega)).mono ?_
      rintro e w1 ⟨bs2, d2, rfl, rfl⟩
      exact hK.out _ _ (Ex.plus_ _ _ _) rfl
    | 5, _, ho, hO, hD, hK => 
      obtain rfl := Option.some.inj ho.symm
      clear ho
      have ev2 : A.eval (.tmp 2) = .pointer (some ⟨w.heap.size, 0, none⟩) := hO 2 (by kernel_rfl)
      have e2 : A.tmps[2]?.getD undef = .pointer (some ⟨w.heap.size, 0, none⟩) := by simpa [Act.eval] using ev2
      replace ev2 := Lib.hid ev2
      clear hO hD
      refine wanted_if rfl ?_
      refine wp_load_mid 49 (.tmp 2) rfl w.heap.size 0 ev2.out (bcs key) dk (Bk.range (hbx.later (below_plus _ _ _))) u1 u2 (by rw [bcs_length, show key.length = 16 from hk]; exact u3) ?_
      exact hK.out _ _ (Ex.refl _) rfl
    | 6, _, ho, hO, hD, hK => 
      obtain rfl := Option.some.inj ho.symm
      clear ho
      clear hO hD
      go_simp
      refine hK.out _ _ (Ex.alloc _ _) ⟨_, _, rfl, ?_⟩
      refine Rb.litW _ [2] ?_ rfl (by decide) rfl
      simp [size_plus]
    | 7, _, ho, hO, hD, hK => 
      obtain rfl := Option.some.inj ho.symm
      clear ho
      have ev5 : A.eval (.tmp 5) = .slice A5 8 c5 := hO 5 (by kernel_rfl)
      have e5 : A.tmps[5]?.getD undef = .slice A5 8 c5 := by simpa [Act.eval] using ev5
      replace ev5 := Lib.hid ev5
      clear hO hD
      go_simp
      exact hK.out _ _ (Ex.refl _) rfl
    | 8, _, ho, hO, hD, hK => 
      obtain rfl := Option.some.inj ho.symm
      clear ho
      have f14 := hD 6 14 (by kernel_rfl)
      generalize eu14 : A.eval (.tmp 14) = u14 at f14
      have e14 : A.tmps[14]?.getD undef = u14 := by rw [← eu14]; simp [Act.eval]
      clear eu14
      have ev15 : A.eval (.tmp 15) = .slice A5 8 c5 := hD 7 15 (by kernel_rfl)
      have e15 : A.tmps[15]?.getD undef = .slice A5 8 c5 := by simpa [Act.eval] using ev15
      replace ev15 := Lib.hid ev15
      clear hO hD
      obtain ⟨A1, n1, rfl, hr1⟩ := f14
      obtain rfl : n1 = 1 := hr1.1.symm
      refine wanted_if rfl ?_
      refine rel_app bt (.tmp 14) (.tmp 15) rfl (by simpa [Act.eval] using e14) hr1 ev15.out (hx5.plus_ _ _) (by omega) ?_
      intro A2 n2 c2 w2 hex hr2
      exact hK.out _ _ hex ⟨_, _, _, rfl, hr2⟩
    | 9, _, ho, hO, hD, hK => 
      obtain rfl := Option.some.inj ho.symm
      clear ho
      have ev13 : A.eval (.tmp 13) = .agg (bcs key).toArray := hD 5 13 (by kernel_rfl)
      have e13 : A.tmps[13]?.getD undef = .agg (bcs key).toArray := by simpa [Act.eval] using ev13
      replace ev13 := Lib.hid ev13
      have f16 := hD 8 16 (by kernel_rfl)
      generalize eu16 : A.eval (.tmp 16) = u16 at f16
      have e16 : A.tmps[16]?.getD undef = u16 := by rw [← eu16]; simp [Act.eval]
      clear eu16
      clear hO hD
      obtain ⟨A1, n1, c1, rfl, hr1⟩ := f16
      have hn1 : n1 ≤ 100 := by rw [← hr1.1]; simp [dig_length]
      go_simp
      refine (refSum_any key hk A1 n1 c1 _ _ hr1 (by omega)).mono ?_
      rintro e w1 ⟨bs2, d2, rfl, rfl⟩
      exact hK.out _ _ (Ex.plus_ _ _ _) rfl
    | 10, _, ho, hO, hD, hK => 
      obtain rfl := Option.some.inj ho.symm
      clear ho
      have ev12 : A.eval (.tmp 12) = .int .u64 ((sip key ([1] ++ dig use 8)).toNat : Int) := hD 4 12 (by kernel_rfl)
      have e12 : A.tmps[12]?.getD undef = .int .u64 ((sip key ([1] ++ dig use 8)).toNat : Int) := by simpa [Act.eval] using ev12
      replace ev12 := Lib.hid ev12
      have ev17 : A.eval (.tmp 17) = .int .u64 ((sip key ([2] ++ dig use 8)).toNat : Int) := hD 9 17 (by kernel_rfl)
      have e17 : A.tmps[17]?.getD undef = .int .u64 ((sip key ([2] ++ dig use 8)).toNat : Int) := by simpa [Act.eval] using ev17
      replace ev17 := Lib.hid ev17
      clear hO hD
      go_simp
      refine (refOf_any _ _ _ (UInt64.toNat_lt _) (UInt64.toNat_lt _)).mono ?_
      rintro e w1 ⟨bs2, d2, rfl, rfl⟩
      exact hK.out _ _ (Ex.plus_ _ _ _) rfl
    | (k + 11), hi, _, _, _, _ => exact absurd hi (by omega)
  intro vs x hp
  have p0 : vs 0 = .agg (bcs key).toArray := hp 0 (by omega)
  have p1 := hp 1 (by omega)
  have p2 : vs 2 = .slice A5 8 c5 := hp 2 (by omega)
  have p3 := hp 3 (by omega)
  have p4 : vs 4 = .int .u64 ((sip key ([1] ++ dig use 8)).toNat : Int) := hp 4 (by omega)
  have p5 : vs 5 = .agg (bcs key).toArray := hp 5 (by omega)
  have p6 := hp 6 (by omega)
  have p7 : vs 7 = .slice A5 8 c5 := hp 7 (by omega)
  have p8 := hp 8 (by omega)
  have p9 : vs 9 = .int .u64 ((sip key ([2] ++ dig use 8)).toNat : Int) := hp 9 (by omega)
  have p10 : vs 10 = .agg (bcs (derK key use)).toArray := hp 10 (by omega)
  clear hp
  simp only [List.take_succ_cons, List.take_zero, List.drop_succ_cons, List.drop_zero, putAll, Nat.zero_add, Nat.reduceAdd, Act.put, List.setIfInBounds_toArray, List.set_cons_zero, List.set_cons_succ, p0, p2, p4, p5, p7, p9, p10]
  clear p0 p2 p4 p5 p7 p9 p10
  generalize vs 1 = y1 at *
  generalize vs 3 = y3 at *
  generalize vs 6 = y6 at *
  generalize vs 8 = y8 at *
  clear vs
  have hk2 : K16 (derK key use) := K16_of _ _
  have hb2 := (hb1.later (below_plus _ bs5 d5)).later (below_plus _ x.bs x.d)
  go_wp2_with (refine wpList_stKey 49 (.tmp 4) (.tmp 18) rfl rfl row16 hk2 (old := List.replicate 16 0) rfl rfl rfl hb2 ?_)
  have hb3 := Bk.setCells (bcs (derK key use)) _ 0 hb2 (by rw [bcs_length, show (derK key use).length = 16 from hk2]; rfl)
  refine bodyPost_agg Try.results160 rfl (Bk.range hb3) u1 u2 (by simp only [List.take_zero, List.nil_append]; rw [bcs_length, show (derK key use).length = 16 from hk2]; exact u3) rfl (RetV.mk ?_)
  exact Below.setCells (Nat.le_succ _) _ _ _ (belowP (belowP HE.out _ _) _ _)

theorem szU8 (w : World) : (sizeOf 5).run Try.prog w = .ok 1 w := by
  obtain ⟨i, hi, hz0, hz1, hz2⟩ := info_parts bt.info
  simp [sizeOf, typeInfo, hi, hz1]
theorem eql_key (w : World) (a b : List UInt8) (ha : K16 a) (hb : K16 b) : (binOp .eql 54 (.agg (bcs a).toArray) (.agg (bcs b).toArray)).run Try.prog w = .ok (.bool (a == b)) w :=
  run_eql_bytes w 54 5 16 Try.underlying54 Try.underlying5 szU8 a b ha hb
theorem eql_key' (w : World) (a b : List UInt8) (ha : K16 a) (hb : K16 b) : (binOp .eql 49 (.agg (bcs a).toArray) (.agg (bcs b).toArray)).run Try.prog w = .ok (.bool (a == b)) w :=
  run_eql_bytes w 49 5 16 Try.underlying49 Try.underlying5 szU8 a b ha hb
attribute [local go_sem ↓] eql_key eql_key'
end Go.Proofs.Ytldecdeiibfekaa
