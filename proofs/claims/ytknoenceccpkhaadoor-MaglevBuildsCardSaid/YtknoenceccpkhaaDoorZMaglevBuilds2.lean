/- Texts of the law MaglevBuilds, part 2. -/
import Derived.Test.YtknoenceccpkhaaDoorZMaglevBuilds1
/- The walks of the laws on siphash (chapter 10). -/
namespace Go.Proofs.YtknoenceccpkhaaDoor
open Go.RowKit
set_option linter.unusedVariables false
attribute [local go_sem ↓] sliced_cut

attribute [local go_sem] cutA_zero

open Go.ChangeShapes Go.WideShapes in
/-- An array of bytes that came in. -/
theorem open_arr {H : Type} {enc : TypeId × Value → H} {P : Program} {W : World} {base n : Nat} {t e : TypeId} {v : Value} {d : DataW H} {p : List MemPlace}
    (ht : P.underlying t = some (.array n e)) (he : P.underlying e = some (.int .u8)) (hC : P.cellsOf e = 1) (hCt : P.cellsOf t = n) (hv : Value.okWide P W .any base t v)
    (h : DataW.Trod enc P W 0 (fun _ => true) true t v d p) : ∃ l : List UInt8, v = .agg (bcs l).toArray ∧ l.length = n := by
  obtain ⟨cs, rfl, hsz⟩ : ∃ cs, v = .agg cs ∧ cs.size = P.cellsOf t := by
    simp only [Value.okWide, ht] at hv
    obtain ⟨cs, h1, h2, _⟩ := hv
    exact ⟨cs, h1, h2⟩
  obtain ⟨fuel, hf⟩ := h
  obtain ⟨xs, m, _, _, hl, hlen, hg⟩ := DataW.trod_array ht hf
  have hcs : cs.size = n := by omega
  have each : ∀ i, i < n → ∃ b : UInt8, cs[i]? = some (.int .u8 (b.toNat : Int)) := by
    intro i hi
    have h1 := hg i hi
    rw [hC, Nat.mul_one] at h1
    have hxi : xs[i]? = some (xs[i]'(by omega)) := List.getElem?_eq_getElem (by omega)
    rw [hxi] at h1
    obtain ⟨z, hz, _, hw⟩ := DataW.trod_int he h1
    have hb := bounds_u8 hw
    refine ⟨UInt8.ofNat z.toNat, ?_⟩
    have hic : i < cs.toList.length := by simp [hcs, hi]
    simp only [Value.cells, List.drop_eq_getElem_cons hic, List.take_succ_cons, List.take_zero, List.cons.injEq, and_true] at hz
    have hz2 : cs[i]? = some (.int .u8 z) := by
      rw [Array.getElem?_eq_getElem (by simpa using hic), ← hz]
      simp
    rw [hz2]
    simp
    omega
  refine ⟨(List.range n).map fun i => match cs[i]? with | some (Value.int _ z) => UInt8.ofNat z.toNat | _ => 0, ?_, by simp⟩
  congr 1
  apply Array.ext
  · simp [bcs, hcs]
  · intro i h1 h2
    obtain ⟨b, hb⟩ := each i (by omega)
    have hb2 : cs[i] = .int .u8 (b.toNat : Int) := by rw [Array.getElem?_eq_getElem h1] at hb; exact Option.some.inj hb
    simp [bcs, hb2, hb]
set_option maxRecDepth 100000 in
theorem open_key {H : Type} {enc : TypeId × Value → H} {W : World} {base : Nat} {v : Value} {d : DataW H} {p : List MemPlace} (hv : Value.okWide Tryd.prog W .any base 22 v)
    (h : DataW.Trod enc Tryd.prog W 0 (fun _ => true) true 22 v d p) : ∃ l : List UInt8, v = .agg (bcs l).toArray ∧ K16 l := open_arr Tryd.underlying22 Tryd.underlying5 (by kernel_rfl) (by kernel_rfl) hv h
end Go.Proofs.YtknoenceccpkhaaDoor

/- siphash.Of, Derive and their references. -/
namespace Go.Proofs.YtknoenceccpkhaaDoor
open Go.RowKit
set_option linter.unusedVariables false
attribute [local go_sem ↓] sliced_cut

attribute [local go_sem] cutA_zero

theorem rowKey : ∃ d, Tryd.prog.underlying 41 = some d ∧ d.isRow = true ∧ (Tryd.prog.info? 41).map (·.size) = some 16 := ⟨_, Tryd.underlying41, rfl, by kernel_rfl⟩
end Go.Proofs.YtknoenceccpkhaaDoor

/- siphash.Derive and its reference. -/
namespace Go.Proofs.YtknoenceccpkhaaDoor
open Go.RowKit
set_option linter.unusedVariables false
set_option linter.unusedSimpArgs false
attribute [local go_sem ↓] sliced_cut

attribute [local go_sem] cutA_zero

theorem szU8 (w : World) : (sizeOf 5).run Tryd.prog w = .ok 1 w := by
  obtain ⟨i, hi, hz0, hz1, hz2⟩ := info_parts bt.info
  simp [sizeOf, typeInfo, hi, hz1]
theorem eql_key (w : World) (a b : List UInt8) (ha : K16 a) (hb : K16 b) : (binOp .eql 41 (.agg (bcs a).toArray) (.agg (bcs b).toArray)).run Tryd.prog w = .ok (.bool (a == b)) w :=
  run_eql_bytes w 41 5 16 Tryd.underlying41 Tryd.underlying5 szU8 a b ha hb
theorem eql_key' (w : World) (a b : List UInt8) (ha : K16 a) (hb : K16 b) : (binOp .eql 22 (.agg (bcs a).toArray) (.agg (bcs b).toArray)).run Tryd.prog w = .ok (.bool (a == b)) w :=
  run_eql_bytes w 22 5 16 Tryd.underlying22 Tryd.underlying5 szU8 a b ha hb
attribute [local go_sem ↓] eql_key eql_key'

end Go.Proofs.YtknoenceccpkhaaDoor

/- Contracts of the package ring and of its reference. -/
namespace Go.Proofs.YtknoenceccpkhaaDoor
open Go.RowKit
set_option linter.unusedVariables false
set_option linter.unusedSimpArgs false
attribute [local go_sem ↓] sliced_cut

attribute [local go_sem] cutA_zero

theorem szKey (key : List UInt8) (hk : K16 key) : (Tryd.prog.info? 41).map (·.size) = some (bcs key).length := by rw [bcs_length, show key.length = 16 from hk]; kernel_rfl
end Go.Proofs.YtknoenceccpkhaaDoor

/- maglev.Of and its reference (chapter 42). -/
namespace Go.Proofs.YtknoenceccpkhaaDoor
open Go.RowKit
set_option linter.unusedVariables false
set_option linter.unusedSimpArgs false
attribute [local go_sem ↓] sliced_cut

attribute [local go_sem] cutA_zero

theorem szK16a (key : List UInt8) (hk : K16 key) : (Tryd.prog.info? 22).map (·.size) = some (bcs key).length := by rw [bcs_length, show key.length = 16 from hk]; kernel_rfl
theorem rowK16a : ∃ d, Tryd.prog.underlying 22 = some d ∧ d.isRow = true := ⟨_, Tryd.underlying22, rfl⟩
noncomputable def magF (key : List UInt8) (p m : Nat) : Nat := (sip key ([6] ++ dig m 4)).toNat % p
noncomputable def magS (key : List UInt8) (p m : Nat) : Nat := (sip key ([7] ++ dig m 4)).toNat % (p - 1) + 1
theorem magF_lt (key : List UInt8) (p m : Nat) (h : 2 ≤ p) : magF key p m < p := Nat.mod_lt _ (by omega)
theorem magS_ok (key : List UInt8) (p m : Nat) (h : 2 ≤ p) : 0 < magS key p m ∧ magS key p m < p := by
  have := Nat.mod_lt (sip key ([7] ++ dig m 4)).toNat (show 0 < p - 1 by omega)
  unfold magS
  omega
set_option maxHeartbeats 4000000 in
set_option maxRecDepth 100000 in
theorem magOf_any (key : List UInt8) (hk0 : K16 key) (m p : Nat) (w : World) (hm : m ≤ 64) (hp : 2 ≤ p) (hp2 : p ≤ 2048) : Calls Tryd.prog 15 #[.agg (bcs key).toArray, .int .i64 (m : Int), .int .i64 (p : Int)] w (RetV w (.agg (ordC ((magF key p m : Nat) : Int) ((magS key p m : Nat) : Int)).toArray)) := by
  obtain ⟨dk, u1, u2, u3⟩ := rowKey
  obtain ⟨dz, o1, o2⟩ := rowOr
  unfold magF magS
  have HS6 := Lib.hid (fun A n c w (hr : Rb w A n c ([6] ++ dig m 4)) => sum_any key hk0 A n c ([6] ++ dig m 4) w hr (by have := hr.1; simp [dig_length] at this; omega))
  have HS7 := Lib.hid (fun A n c w (hr : Rb w A n c ([7] ++ dig m 4)) => sum_any key hk0 A n c ([7] ++ dig m 4) w hr (by have := hr.1; simp [dig_length] at this; omega))
  generalize sip key ([6] ++ dig m 4) = Y6 at *
  generalize sip key ([7] ++ dig m 4) = Y7 at *
  have hY6 := UInt64.toNat_lt Y6
  have hY7 := UInt64.toNat_lt Y7
  generalize Y6.toNat = X6 at *
  generalize Y7.toNat = X7 at *
  have wm : IntKind.u64.wrap (m : Int) = (m : Int) := IntWalk.u64_in _ (by omega)
  have wp_ : IntKind.u64.wrap (p : Int) = (p : Int) := IntWalk.u64_in _ (by omega)
  obtain ⟨r, hr⟩ : ∃ r, p - 1 = r := ⟨_, rfl⟩
  rw [hr]
  have w3 : IntKind.i64.wrap ((p : Int) - 1) = (r : Int) := by rw [IntWalk.i64_in _ (by omega)]; omega
  have e3 : (p : Int) - 1 = (r : Int) := by omega
  have hr0 : 1 ≤ r := by omega
  have hr2 : r ≤ 2048 := by omega
  clear hr
  have w4 : IntKind.u64.wrap (r : Int) = (r : Int) := IntWalk.u64_in _ (by omega)
  have t1 : Int.tmod (X6 : Int) (p : Int) = ((X6 % p : Nat) : Int) := rfl
  have t2 : (X6 : Int) % (p : Int) = ((X6 % p : Nat) : Int) := rfl
  have t3 : Int.tmod (X7 : Int) (r : Int) = ((X7 % r : Nat) : Int) := rfl
  have t4 : (X7 : Int) % (r : Int) = ((X7 % r : Nat) : Int) := rfl
  have ha : X6 % p < p := Nat.mod_lt _ (by omega)
  have hb : X7 % r < r := Nat.mod_lt _ (by omega)
  generalize X6 % p = a at *
  generalize X7 % r = b at *
  have z0 : ¬ (p : Int) = 0 := by omega
  have z1 : ((p : Int) == 0) = false := by simp; omega
  have z2 : ¬ (r : Int) = 0 := by omega
  have z3 : ((r : Int) == 0) = false := by simp; omega
  have w8 : IntKind.i64.wrap (r : Int) = (r : Int) := IntWalk.i64_in _ (by omega)
  have z5 : ¬ p = 0 := by omega
  have z6 : ¬ r = 0 := by omega
  have w5 : IntKind.i64.wrap (a : Int) = (a : Int) := IntWalk.i64_in _ (by omega)
  have w6 : IntKind.i64.wrap (b : Int) = (b : Int) := IntWalk.i64_in _ (by omega)
  have w7 : IntKind.i64.wrap ((b : Int) + 1) = (b : Int) + 1 := IntWalk.i64_in _ (by omega)
  have i1 : ¬ (p : Int) < 2 := by omega
  have eb : (((b + 1 : Nat) : Int)) = (b : Int) + 1 := by omega
  rw [eb]
  clear eb
  have hk : Bk ((w.alloc (.cells (bcs key).toArray 41)).alloc (.cells ([.int .i64 0, .int .i64 0]).toArray 44)) w.heap.size 41 (bcs key) := (Bk.new w 41 (bcs key).toArray).alloc _
  have hR : Bk ((w.alloc (.cells (bcs key).toArray 41)).alloc (.cells ([.int .i64 0, .int .i64 0]).toArray 44)) (w.heap.size + 1) 44 ([.int .i64 0, .int .i64 0]) := Bk.newK _ _ _ (by simp) rfl
  have be : Below w.heap.size w ((w.alloc (.cells (bcs key).toArray 41)).alloc (.cells ([.int .i64 0, .int .i64 0]).toArray 44)) := Below.allocS (Below.allocS (Below.refl _ _) _) _
  have zV : w.heap.size + 2 ≤ ((w.alloc (.cells (bcs key).toArray 41)).alloc (.cells ([.int .i64 0, .int .i64 0]).toArray 44)).heap.size := by simp
  go_enter Tryd.func15, Tryd.ntmps15
  go_upto_region 1 with (fail)
  generalize (w.alloc (.cells (bcs key).toArray 41)).alloc (.cells ([.int .i64 0, .int .i64 0]).toArray 44) = V at *
  go_upto_region 3 with (fail)
  go_wp2
  refine wp_relS 7 37 rfl (by kernel_rfl) (by kernel_rfl) ?_
  apply Steps.one (MP.eq _) 1 rfl
  · intro o ho FA x hO hD K hK
    obtain rfl := Option.some.inj ho.symm
    clear ho
    have e3 := hO 3 (by kernel_rfl)
    simp only [eval_tmp, List.getElem?_toArray, List.getElem?_cons_succ, List.getElem?_cons_zero, Option.getD_some] at e3
    have ev3 := Lib.hid ((eval_tmp FA 3).trans e3)
    clear hO hD
    refine wanted_if rfl ?_
    refine wp_ldA 41 (.tmp 3) rfl (bcs key) ev3.out (hk.later (below_plus _ _ _)) (whole_ _) u1 u2 (szKey key hk0) ?_
    exact hK.out _ _ (Ex.refl _) rfl
  apply Steps.one (MP.rb [6]) 2 rfl
  · intro o ho FA x hO hD K hK
    obtain rfl := Option.some.inj ho.symm
    clear ho
    clear hO hD
    go_simp
    refine hK.out _ _ (Ex.alloc _ _) ⟨_, _, _, rfl, ?_⟩
    refine Rb.litW _ [6] ?_ rfl (by decide) rfl
    simp [size_plus]
  apply Steps.one (MP.eq _) 3 rfl
  · intro o ho FA x hO hD K hK
    obtain rfl := Option.some.inj ho.symm
    clear ho
    have e1 := hO 1 (by kernel_rfl)
    simp only [eval_tmp, List.getElem?_toArray, List.getElem?_cons_succ, List.getElem?_cons_zero, Option.getD_some] at e1
    have ev1 := Lib.hid ((eval_tmp FA 1).trans e1)
    clear hO hD
    go_simp
    exact hK.out _ _ (Ex.refl _) rfl
  apply Steps.one (MP.eq _) 4 rfl
  · intro o ho FA x hO hD K hK
    obtain rfl := Option.some.inj ho.symm
    clear ho
    have ev14 : FA.eval (.tmp 14) = _ := hD 2 14 (by kernel_rfl)
    have e14 := (eval_tmp FA 14).symm.trans ev14
    replace ev14 := Lib.hid ev14
    clear hO hD
    go_simp
    exact hK.out _ _ (Ex.refl _) rfl
  apply Steps.one (MP.rb ([6] ++ dig m 4)) 5 rfl
  · intro o ho FA x hO hD K hK
    obtain rfl := Option.some.inj ho.symm
    clear ho
    have f13 := hD 1 13 (by kernel_rfl)
    generalize eu13 : FA.eval (.tmp 13) = u13 at f13
    have e13 := (eval_tmp FA 13).symm.trans eu13
    have ev13 := Lib.hid eu13
    clear eu13
    have ev15 : FA.eval (.tmp 15) = _ := hD 3 15 (by kernel_rfl)
    have e15 := (eval_tmp FA 15).symm.trans ev15
    replace ev15 := Lib.hid ev15
    clear hO hD
    obtain ⟨A1, n1, c1, rfl, hr1⟩ := f13
    obtain rfl : n1 = 1 := hr1.1.symm
    go_simp
    refine (put_any A1 1 c1 [6] m 4 _ hr1 (by omega) (by omega) (by omega) (by omega)).mono ?_
    rintro e w1 ⟨A2, n2, c2, bs2, d2, rfl, rfl, ho2⟩
    exact hK.out _ _ (Ex.plus_ _ _ _) ⟨_, _, _, rfl, ho2.rb⟩
  apply Steps.one (MP.eq _) 6 rfl
  · intro o ho FA x hO hD K hK
    obtain rfl := Option.some.inj ho.symm
    clear ho
    have ev12 : FA.eval (.tmp 12) = _ := hD 0 12 (by kernel_rfl)
    have e12 := (eval_tmp FA 12).symm.trans ev12
    replace ev12 := Lib.hid ev12
    have f16 := hD 4 16 (by kernel_rfl)
    generalize eu16 : FA.eval (.tmp 16) = u16 at f16
    have e16 := (eval_tmp FA 16).symm.trans eu16
    have ev16 := Lib.hid eu16
    clear eu16
    clear hO hD
    obtain ⟨A1, n1, c1, rfl, hr1⟩ := f16
    go_simp
    refine (HS6.out A1 n1 c1 _ hr1).mono ?_
    rintro e w1 ⟨bs2, d2, rfl, rfl⟩
    exact hK.out _ _ (Ex.plus_ _ _ _) rfl
  apply Steps.one (MP.eq _) 7 rfl
  · intro o ho FA x hO hD K hK
    obtain rfl := Option.some.inj ho.symm
    clear ho
    have ev17 : FA.eval (.tmp 17) = _ := hD 5 17 (by kernel_rfl)
    have e17 := (eval_tmp FA 17).symm.trans ev17
    replace ev17 := Lib.hid ev17
    clear hO hD
    go_simp
    exact hK.out _ _ (Ex.refl _) rfl
  refine Steps.fin_ (fun vs x hp => ?_)
  have p0 : vs 0 = _ := hp 0 (by omega)
  have p1 := hp 1 (by omega)
  have p2 : vs 2 = _ := hp 2 (by omega)
  have p3 : vs 3 = _ := hp 3 (by omega)
  have p4 := hp 4 (by omega)
  have p5 : vs 5 = _ := hp 5 (by omega)
  have p6 : vs 6 = _ := hp 6 (by omega)
  clear hp
  simp only [List.take_succ_cons, List.take_zero, List.drop_succ_cons, List.drop_zero, putAll, Nat.zero_add, Nat.reduceAdd, Act.put, List.setIfInBounds_toArray, List.set_cons_zero, List.set_cons_succ, p0, p2, p3, p5, p6]
  clear p0 p2 p3 p5 p6
  generalize vs 1 = y1 at *
  generalize vs 4 = y4 at *
  clear vs
  replace hk := hk.later (below_plus _ x.bs x.d)
  replace hR := hR.later (below_plus _ x.bs x.d)
  replace be := belowP be x.bs x.d
  clear HS6
  generalize plus V x.bs x.d = V2 at *
  go_upto_region 4 with (fail)
  go_wp2
  refine wp_relS 7 37 rfl (by kernel_rfl) (by kernel_rfl) ?_
  apply Steps.one (MP.eq _) 1 rfl
  · intro o ho FA x hO hD K hK
    obtain rfl := Option.some.inj ho.symm
    clear ho
    have e3 := hO 3 (by kernel_rfl)
    simp only [eval_tmp, List.getElem?_toArray, List.getElem?_cons_succ, List.getElem?_cons_zero, Option.getD_some] at e3
    have ev3 := Lib.hid ((eval_tmp FA 3).trans e3)
    clear hO hD
    refine wanted_if rfl ?_
    refine wp_ldA 41 (.tmp 3) rfl (bcs key) ev3.out (hk.later (below_plus _ _ _)) (whole_ _) u1 u2 (szKey key hk0) ?_
    exact hK.out _ _ (Ex.refl _) rfl
  apply Steps.one (MP.rb [7]) 2 rfl
  · intro o ho FA x hO hD K hK
    obtain rfl := Option.some.inj ho.symm
    clear ho
    clear hO hD
    go_simp
    refine hK.out _ _ (Ex.alloc _ _) ⟨_, _, _, rfl, ?_⟩
    refine Rb.litW _ [7] ?_ rfl (by decide) rfl
    simp [size_plus]
  apply Steps.one (MP.eq _) 3 rfl
  · intro o ho FA x hO hD K hK
    obtain rfl := Option.some.inj ho.symm
    clear ho
    have e1 := hO 1 (by kernel_rfl)
    simp only [eval_tmp, List.getElem?_toArray, List.getElem?_cons_succ, List.getElem?_cons_zero, Option.getD_some] at e1
    have ev1 := Lib.hid ((eval_tmp FA 1).trans e1)
    clear hO hD
    go_simp
    exact hK.out _ _ (Ex.refl _) rfl
  apply Steps.one (MP.eq _) 4 rfl
  · intro o ho FA x hO hD K hK
    obtain rfl := Option.some.inj ho.symm
    clear ho
    have ev20 : FA.eval (.tmp 20) = _ := hD 2 20 (by kernel_rfl)
    have e20 := (eval_tmp FA 20).symm.trans ev20
    replace ev20 := Lib.hid ev20
    clear hO hD
    go_simp
    exact hK.out _ _ (Ex.refl _) rfl
  apply Steps.one (MP.rb ([7] ++ dig m 4)) 5 rfl
  · intro o ho FA x hO hD K hK
    obtain rfl := Option.some.inj ho.symm
    clear ho
    have f19 := hD 1 19 (by kernel_rfl)
    generalize eu19 : FA.eval (.tmp 19) = u19 at f19
    have e19 := (eval_tmp FA 19).symm.trans eu19
    have ev19 := Lib.hid eu19
    clear eu19
    have ev21 : FA.eval (.tmp 21) = _ := hD 3 21 (by kernel_rfl)
    have e21 := (eval_tmp FA 21).symm.trans ev21
    replace ev21 := Lib.hid ev21
    clear hO hD
    obtain ⟨A1, n1, c1, rfl, hr1⟩ := f19
    obtain rfl : n1 = 1 := hr1.1.symm
    go_simp
    refine (put_any A1 1 c1 [7] m 4 _ hr1 (by omega) (by omega) (by omega) (by omega)).mono ?_
    rintro e w1 ⟨A2, n2, c2, bs2, d2, rfl, rfl, ho2⟩
    exact hK.out _ _ (Ex.plus_ _ _ _) ⟨_, _, _, rfl, ho2.rb⟩
  apply Steps.one (MP.eq _) 6 rfl
  · intro o ho FA x hO hD K hK
    obtain rfl := Option.some.inj ho.symm
    clear ho
    have ev18 : FA.eval (.tmp 18) = _ := hD 0 18 (by kernel_rfl)
    have e18 := (eval_tmp FA 18).symm.trans ev18
    replace ev18 := Lib.hid ev18
    have f22 := hD 4 22 (by kernel_rfl)
    generalize eu22 : FA.eval (.tmp 22) = u22 at f22
    have e22 := (eval_tmp FA 22).symm.trans eu22
    have ev22 := Lib.hid eu22
    clear eu22
    clear hO hD
    obtain ⟨A1, n1, c1, rfl, hr1⟩ := f22
    go_simp
    refine (HS7.out A1 n1 c1 _ hr1).mono ?_
    rintro e w1 ⟨bs2, d2, rfl, rfl⟩
    exact hK.out _ _ (Ex.plus_ _ _ _) rfl
  apply Steps.one (MP.eq _) 7 rfl
  · intro o ho FA x hO hD K hK
    obtain rfl := Option.some.inj ho.symm
    clear ho
    have ev23 : FA.eval (.tmp 23) = _ := hD 5 23 (by kernel_rfl)
    have e23 := (eval_tmp FA 23).symm.trans ev23
    replace ev23 := Lib.hid ev23
    clear hO hD
    go_simp
    exact hK.out _ _ (Ex.refl _) rfl
  refine Steps.fin_ (fun vs x hp => ?_)
  have p0 : vs 0 = _ := hp 0 (by omega)
  have p1 := hp 1 (by omega)
  have p2 : vs 2 = _ := hp 2 (by omega)
  have p3 : vs 3 = _ := hp 3 (by omega)
  have p4 := hp 4 (by omega)
  have p5 : vs 5 = _ := hp 5 (by omega)
  have p6 : vs 6 = _ := hp 6 (by omega)
  clear hp
  simp only [List.take_succ_cons, List.take_zero, List.drop_succ_cons, List.drop_zero, putAll, Nat.zero_add, Nat.reduceAdd, Act.put, List.setIfInBounds_toArray, List.set_cons_zero, List.set_cons_succ, p0, p2, p3, p5, p6]
  clear p0 p2 p3 p5 p6
  generalize vs 1 = y1 at *
  generalize vs 4 = y4 at *
  clear vs
  replace hR := hR.later (below_plus _ x.bs x.d)
  replace be := belowP be x.bs x.d
  clear HS7 hk
  generalize plus V2 x.bs x.d = V3 at *
  go_upto_region 5 with (fail)
  go_wp2
  refine wp_relS 13 37 rfl (by kernel_rfl) (by kernel_rfl) ?_
  apply Steps.one (MP.eq _) 1 rfl
  · intro o ho FA x hO hD K hK
    obtain rfl := Option.some.inj ho.symm
    clear ho
    have e7 := hO 7 (by kernel_rfl)
    simp only [eval_tmp, List.getElem?_toArray, List.getElem?_cons_succ, List.getElem?_cons_zero, Option.getD_some] at e7
    have ev7 := Lib.hid ((eval_tmp FA 7).trans e7)
    clear hO hD
    go_simp
    exact hK.out _ _ (Ex.refl _) rfl
  apply Steps.one (MP.eq _) 2 rfl
  · intro o ho FA x hO hD K hK
    obtain rfl := Option.some.inj ho.symm
    clear ho
    have e2 := hO 2 (by kernel_rfl)
    simp only [eval_tmp, List.getElem?_toArray, List.getElem?_cons_succ, List.getElem?_cons_zero, Option.getD_some] at e2
    have ev2 := Lib.hid ((eval_tmp FA 2).trans e2)
    clear hO hD
    go_simp
    exact hK.out _ _ (Ex.refl _) rfl
  apply Steps.one (MP.eq _) 3 rfl
  · intro o ho FA x hO hD K hK
    obtain rfl := Option.some.inj ho.symm
    clear ho
    have ev25 : FA.eval (.tmp 25) = _ := hD 1 25 (by kernel_rfl)
    have e25 := (eval_tmp FA 25).symm.trans ev25
    replace ev25 := Lib.hid ev25
    clear hO hD
    go_simp
    exact hK.out _ _ (Ex.refl _) rfl
  apply Steps.one (MP.eq _) 4 rfl
  · intro o ho FA x hO hD K hK
    obtain rfl := Option.some.inj ho.symm
    clear ho
    have ev24 : FA.eval (.tmp 24) = _ := hD 0 24 (by kernel_rfl)
    have e24 := (eval_tmp FA 24).symm.trans ev24
    replace ev24 := Lib.hid ev24
    have ev26 : FA.eval (.tmp 26) = _ := hD 2 26 (by kernel_rfl)
    have e26 := (eval_tmp FA 26).symm.trans ev26
    replace ev26 := Lib.hid ev26
    clear hO hD
    go_simp
    exact hK.out _ _ (Ex.refl _) rfl
  apply Steps.one (MP.eq _) 5 rfl
  · intro o ho FA x hO hD K hK
    obtain rfl := Option.some.inj ho.symm
    clear ho
    have ev27 : FA.eval (.tmp 27) = _ := hD 3 27 (by kernel_rfl)
    have e27 := (eval_tmp FA 27).symm.trans ev27
    replace ev27 := Lib.hid ev27
    clear hO hD
    go_simp
    exact hK.out _ _ (Ex.refl _) rfl
  apply Steps.one (MP.eq _) 6 rfl
  · intro o ho FA x hO hD K hK
    obtain rfl := Option.some.inj ho.symm
    clear ho
    have e8 := hO 8 (by kernel_rfl)
    simp only [eval_tmp, List.getElem?_toArray, List.getElem?_cons_succ, List.getElem?_cons_zero, Option.getD_some] at e8
    have ev8 := Lib.hid ((eval_tmp FA 8).trans e8)
    clear hO hD
    go_simp
    exact hK.out _ _ (Ex.refl _) rfl
  apply Steps.one (MP.eq _) 7 rfl
  · intro o ho FA x hO hD K hK
    obtain rfl := Option.some.inj ho.symm
    clear ho
    have e2 := hO 2 (by kernel_rfl)
    simp only [eval_tmp, List.getElem?_toArray, List.getElem?_cons_succ, List.getElem?_cons_zero, Option.getD_some] at e2
    have ev2 := Lib.hid ((eval_tmp FA 2).trans e2)
    clear hO hD
    go_simp
    exact hK.out _ _ (Ex.refl _) rfl
  apply Steps.one (MP.eq _) 8 rfl
  · intro o ho FA x hO hD K hK
    obtain rfl := Option.some.inj ho.symm
    clear ho
    have ev30 : FA.eval (.tmp 30) = _ := hD 6 30 (by kernel_rfl)
    have e30 := (eval_tmp FA 30).symm.trans ev30
    replace ev30 := Lib.hid ev30
    clear hO hD
    go_simp
    exact hK.out _ _ (Ex.refl _) rfl
  apply Steps.one (MP.eq _) 9 rfl
  · intro o ho FA x hO hD K hK
    obtain rfl := Option.some.inj ho.symm
    clear ho
    have ev31 : FA.eval (.tmp 31) = _ := hD 7 31 (by kernel_rfl)
    have e31 := (eval_tmp FA 31).symm.trans ev31
    replace ev31 := Lib.hid ev31
    clear hO hD
    go_simp
    exact hK.out _ _ (Ex.refl _) rfl
  apply Steps.one (MP.eq _) 10 rfl
  · intro o ho FA x hO hD K hK
    obtain rfl := Option.some.inj ho.symm
    clear ho
    have ev29 : FA.eval (.tmp 29) = _ := hD 5 29 (by kernel_rfl)
    have e29 := (eval_tmp FA 29).symm.trans ev29
    replace ev29 := Lib.hid ev29
    have ev32 : FA.eval (.tmp 32) = _ := hD 8 32 (by kernel_rfl)
    have e32 := (eval_tmp FA 32).symm.trans ev32
    replace ev32 := Lib.hid ev32
    clear hO hD
    go_simp
    exact hK.out _ _ (Ex.refl _) rfl
  apply Steps.one (MP.eq _) 11 rfl
  · intro o ho FA x hO hD K hK
    obtain rfl := Option.some.inj ho.symm
    clear ho
    have ev33 : FA.eval (.tmp 33) = _ := hD 9 33 (by kernel_rfl)
    have e33 := (eval_tmp FA 33).symm.trans ev33
    replace ev33 := Lib.hid ev33
    clear hO hD
    go_simp
    exact hK.out _ _ (Ex.refl _) rfl
  apply Steps.one (MP.eq _) 12 rfl
  · intro o ho FA x hO hD K hK
    obtain rfl := Option.some.inj ho.symm
    clear ho
    have ev34 : FA.eval (.tmp 34) = _ := hD 10 34 (by kernel_rfl)
    have e34 := (eval_tmp FA 34).symm.trans ev34
    replace ev34 := Lib.hid ev34
    clear hO hD
    go_simp
    exact hK.out _ _ (Ex.refl _) rfl
  apply Steps.one (MP.eq _) 13 rfl
  · intro o ho FA x hO hD K hK
    obtain rfl := Option.some.inj ho.symm
    clear ho
    have ev28 : FA.eval (.tmp 28) = _ := hD 4 28 (by kernel_rfl)
    have e28 := (eval_tmp FA 28).symm.trans ev28
    replace ev28 := Lib.hid ev28
    have ev35 : FA.eval (.tmp 35) = _ := hD 11 35 (by kernel_rfl)
    have e35 := (eval_tmp FA 35).symm.trans ev35
    replace ev35 := Lib.hid ev35
    clear hO hD
    go_simp
    exact hK.out _ _ (Ex.refl _) rfl
  refine Steps.fin_ (fun vs x hp => ?_)
  have p0 : vs 0 = _ := hp 0 (by omega)
  have p1 : vs 1 = _ := hp 1 (by omega)
  have p2 : vs 2 = _ := hp 2 (by omega)
  have p3 : vs 3 = _ := hp 3 (by omega)
  have p4 : vs 4 = _ := hp 4 (by omega)
  have p5 : vs 5 = _ := hp 5 (by omega)
  have p6 : vs 6 = _ := hp 6 (by omega)
  have p7 : vs 7 = _ := hp 7 (by omega)
  have p8 : vs 8 = _ := hp 8 (by omega)
  have p9 : vs 9 = _ := hp 9 (by omega)
  have p10 : vs 10 = _ := hp 10 (by omega)
  have p11 : vs 11 = _ := hp 11 (by omega)
  have p12 : vs 12 = _ := hp 12 (by omega)
  clear hp
  simp only [List.take_succ_cons, List.take_zero, List.drop_succ_cons, List.drop_zero, putAll, Nat.zero_add, Nat.reduceAdd, Act.put, List.setIfInBounds_toArray, List.set_cons_zero, List.set_cons_succ, p0, p1, p2, p3, p4, p5, p6, p7, p8, p9, p10, p11, p12]
  clear p0 p1 p2 p3 p4 p5 p6 p7 p8 p9 p10 p11 p12
  clear vs
  replace hR := hR.later (below_plus _ x.bs x.d)
  replace be := belowP be x.bs x.d
  generalize plus V3 x.bs x.d = V4 at *
  refine wpList_stA (t := 44) 44 (.tmp 6) (.tmp 36) rfl rfl (ordC (a : Int) ((b : Int) + 1)) [.int .i64 0, .int .i64 0] rfl (ordC_one _ _) rfl rfl hR (szOr _ _) ?_
  intro W9 h9 g9
  go_wp2
  refine bodyPost_agg Tryd.results15 rfl h9.range o1 o2 (szOr _ _) rfl ?_
  exact RetV.mk (below_grown be g9 (by omega))
set_option maxHeartbeats 4000000 in
set_option maxRecDepth 100000 in
theorem refOf_any42 (key : List UInt8) (hk0 : K16 key) (m p : Nat) (w : World) (hm : m ≤ 64) (hp : 2 ≤ p) (hp2 : p ≤ 2048) : Calls Tryd.prog 19 #[.agg (bcs key).toArray, .int .i64 (m : Int), .int .i64 (p : Int)] w (RetV w (.tuple #[.int .i64 ((magF key p m : Nat) : Int), .int .i64 ((magS key p m : Nat) : Int)])) := by
  obtain ⟨dk, u1, u2⟩ := rowK16a
  unfold magF magS
  have HS6 := Lib.hid (fun A n c w (hr : Rb w A n c ([6] ++ dig m 4)) => refSum_any key hk0 A n c ([6] ++ dig m 4) w hr (by have := hr.1; simp [dig_length] at this; omega))
  have HS7 := Lib.hid (fun A n c w (hr : Rb w A n c ([7] ++ dig m 4)) => refSum_any key hk0 A n c ([7] ++ dig m 4) w hr (by have := hr.1; simp [dig_length] at this; omega))
  generalize sip key ([6] ++ dig m 4) = Y6 at *
  generalize sip key ([7] ++ dig m 4) = Y7 at *
  have hY6 := UInt64.toNat_lt Y6
  have hY7 := UInt64.toNat_lt Y7
  generalize Y6.toNat = X6 at *
  generalize Y7.toNat = X7 at *
  have wm : IntKind.u64.wrap (m : Int) = (m : Int) := IntWalk.u64_in _ (by omega)
  have wp_ : IntKind.u64.wrap (p : Int) = (p : Int) := IntWalk.u64_in _ (by omega)
  obtain ⟨r, hr⟩ : ∃ r, p - 1 = r := ⟨_, rfl⟩
  rw [hr]
  have w3 : IntKind.i64.wrap ((p : Int) - 1) = (r : Int) := by rw [IntWalk.i64_in _ (by omega)]; omega
  have e3 : (p : Int) - 1 = (r : Int) := by omega
  have hr0 : 1 ≤ r := by omega
  have hr2 : r ≤ 2048 := by omega
  clear hr
  have w4 : IntKind.u64.wrap (r : Int) = (r : Int) := IntWalk.u64_in _ (by omega)
  have t1 : Int.tmod (X6 : Int) (p : Int) = ((X6 % p : Nat) : Int) := rfl
  have t2 : (X6 : Int) % (p : Int) = ((X6 % p : Nat) : Int) := rfl
  have t3 : Int.tmod (X7 : Int) (r : Int) = ((X7 % r : Nat) : Int) := rfl
  have t4 : (X7 : Int) % (r : Int) = ((X7 % r : Nat) : Int) := rfl
  have ha : X6 % p < p := Nat.mod_lt _ (by omega)
  have hb : X7 % r < r := Nat.mod_lt _ (by omega)
  generalize X6 % p = a at *
  generalize X7 % r = b at *
  have z0 : ¬ (p : Int) = 0 := by omega
  have z1 : ((p : Int) == 0) = false := by simp; omega
  have z2 : ¬ (r : Int) = 0 := by omega
  have z3 : ((r : Int) == 0) = false := by simp; omega
  have w8 : IntKind.i64.wrap (r : Int) = (r : Int) := IntWalk.i64_in _ (by omega)
  have z5 : ¬ p = 0 := by omega
  have z6 : ¬ r = 0 := by omega
  have w5 : IntKind.i64.wrap (a : Int) = (a : Int) := IntWalk.i64_in _ (by omega)
  have w6 : IntKind.i64.wrap (b : Int) = (b : Int) := IntWalk.i64_in _ (by omega)
  have w7 : IntKind.i64.wrap ((b : Int) + 1) = (b : Int) + 1 := IntWalk.i64_in _ (by omega)
  have i1 : ¬ (p : Int) < 2 := by omega
  have eb : (((b + 1 : Nat) : Int)) = (b : Int) + 1 := by omega
  rw [eb]
  clear eb
  have HB := Lib.hid (fun w => refBytes_any m 4 w (by omega) (by omega))
  have hk : Bk (w.alloc (.cells (bcs key).toArray 22)) w.heap.size 22 (bcs key) := Bk.new w 22 (bcs key).toArray
  have be : Below w.heap.size w (w.alloc (.cells (bcs key).toArray 22)) := Below.allocS (Below.refl _ _) _
  have zV : w.heap.size + 1 ≤ (w.alloc (.cells (bcs key).toArray 22)).heap.size := by simp
  go_enter Tryd.func19, Tryd.ntmps19
  go_upto_region 1 with (fail)
  generalize w.alloc (.cells (bcs key).toArray 22) = V at *
  go_upto_region 2 with (go_at_call 30; refine (HB.out _).mono ?_; rintro e w1 ⟨A8, n8, c8, bs1, d1, rfl, rfl, ho8⟩)
  have hx8 := ho8.rb
  have hn8 : n8 = 4 := by have := hx8.1; rw [dig_length] at this; omega
  subst hn8
  replace hk := hk.later (below_plus _ bs1 d1)
  replace be := belowP be bs1 d1
  clear ho8 HB
  generalize plus V bs1 d1 = V1 at *
  go_wp2
  refine wp_relS 9 36 rfl (by kernel_rfl) (by kernel_rfl) ?_
  apply Steps.one (MP.eq _) 1 rfl
  · intro o ho FA x hO hD K hK
    obtain rfl := Option.some.inj ho.symm
    clear ho
    have e3 := hO 3 (by kernel_rfl)
    simp only [eval_tmp, List.getElem?_toArray, List.getElem?_cons_succ, List.getElem?_cons_zero, Option.getD_some] at e3
    have ev3 := Lib.hid ((eval_tmp FA 3).trans e3)
    clear hO hD
    refine wanted_if rfl ?_
    refine wp_ldA 22 (.tmp 3) rfl (bcs key) ev3.out (hk.later (below_plus _ _ _)) (whole_ _) u1 u2 (szK16a key hk0) ?_
    exact hK.out _ _ (Ex.refl _) rfl
  apply Steps.one (MP.full [6]) 2 rfl
  · intro o ho FA x hO hD K hK
    obtain rfl := Option.some.inj ho.symm
    clear ho
    clear hO hD
    go_simp
    refine hK.out _ _ (Ex.alloc _ _) ⟨_, _, rfl, ?_⟩
    refine Rb.litW _ [6] ?_ rfl (by decide) rfl
    simp [size_plus]
  apply Steps.one (MP.eq _) 3 rfl
  · intro o ho FA x hO hD K hK
    obtain rfl := Option.some.inj ho.symm
    clear ho
    have e8 := hO 8 (by kernel_rfl)
    simp only [eval_tmp, List.getElem?_toArray, List.getElem?_cons_succ, List.getElem?_cons_zero, Option.getD_some] at e8
    have ev8 := Lib.hid ((eval_tmp FA 8).trans e8)
    clear hO hD
    go_simp
    exact hK.out _ _ (Ex.refl _) rfl
  apply Steps.one (MP.rb ([6] ++ dig m 4)) 4 rfl
  · intro o ho FA x hO hD K hK
    obtain rfl := Option.some.inj ho.symm
    clear ho
    have f15 := hD 1 15 (by kernel_rfl)
    generalize eu15 : FA.eval (.tmp 15) = u15 at f15
    have e15 := (eval_tmp FA 15).symm.trans eu15
    have ev15 := Lib.hid eu15
    clear eu15
    have ev16 : FA.eval (.tmp 16) = _ := hD 2 16 (by kernel_rfl)
    have e16 := (eval_tmp FA 16).symm.trans ev16
    replace ev16 := Lib.hid ev16
    clear hO hD
    obtain ⟨A1, n1, rfl, hr1⟩ := f15
    obtain rfl : n1 = 1 := hr1.1.symm
    refine wanted_if rfl ?_
    refine rel_app bt (.tmp 15) (.tmp 16) rfl (by simpa [Act.eval] using e15) hr1 ev16.out (hx8.plus_ _ _) (by omega) ?_
    intro A2 n2 c2 w2 hex hr2
    exact hK.out _ _ hex ⟨_, _, _, rfl, hr2⟩
  apply Steps.one (MP.eq _) 5 rfl
  · intro o ho FA x hO hD K hK
    obtain rfl := Option.some.inj ho.symm
    clear ho
    have ev14 : FA.eval (.tmp 14) = _ := hD 0 14 (by kernel_rfl)
    have e14 := (eval_tmp FA 14).symm.trans ev14
    replace ev14 := Lib.hid ev14
    have f17 := hD 3 17 (by kernel_rfl)
    generalize eu17 : FA.eval (.tmp 17) = u17 at f17
    have e17 := (eval_tmp FA 17).symm.trans eu17
    have ev17 := Lib.hid eu17
    clear eu17
    clear hO hD
    obtain ⟨A1, n1, c1, rfl, hr1⟩ := f17
    go_simp
    refine (HS6.out A1 n1 c1 _ hr1).mono ?_
    rintro e w1 ⟨bs2, d2, rfl, rfl⟩
    exact hK.out _ _ (Ex.plus_ _ _ _) rfl
  apply Steps.one (MP.eq _) 6 rfl
  · intro o ho FA x hO hD K hK
    obtain rfl := Option.some.inj ho.symm
    clear ho
    have e2 := hO 2 (by kernel_rfl)
    simp only [eval_tmp, List.getElem?_toArray, List.getElem?_cons_succ, List.getElem?_cons_zero, Option.getD_some] at e2
    have ev2 := Lib.hid ((eval_tmp FA 2).trans e2)
    clear hO hD
    go_simp
    exact hK.out _ _ (Ex.refl _) rfl
  apply Steps.one (MP.eq _) 7 rfl
  · intro o ho FA x hO hD K hK
    obtain rfl := Option.some.inj ho.symm
    clear ho
    have ev19 : FA.eval (.tmp 19) = _ := hD 5 19 (by kernel_rfl)
    have e19 := (eval_tmp FA 19).symm.trans ev19
    replace ev19 := Lib.hid ev19
    clear hO hD
    go_simp
    exact hK.out _ _ (Ex.refl _) rfl
  apply Steps.one (MP.eq _) 8 rfl
  · intro o ho FA x hO hD K hK
    obtain rfl := Option.some.inj ho.symm
    clear ho
    have ev18 : FA.eval (.tmp 18) = _ := hD 4 18 (by kernel_rfl)
    have e18 := (eval_tmp FA 18).symm.trans ev18
    replace ev18 := Lib.hid ev18
    have ev20 : FA.eval (.tmp 20) = _ := hD 6 20 (by kernel_rfl)
    have e20 := (eval_tmp FA 20).symm.trans ev20
    replace ev20 := Lib.hid ev20
    clear hO hD
    go_simp
    exact hK.out _ _ (Ex.refl _) rfl
  apply Steps.one (MP.eq _) 9 rfl
  · intro o ho FA x hO hD K hK
    obtain rfl := Option.some.inj ho.symm
    clear ho
    have ev21 : FA.eval (.tmp 21) = _ := hD 7 21 (by kernel_rfl)
    have e21 := (eval_tmp FA 21).symm.trans ev21
    replace ev21 := Lib.hid ev21
    clear hO hD
    go_simp
    exact hK.out _ _ (Ex.refl _) rfl
  refine Steps.fin_ (fun vs x hp => ?_)
  have p0 : vs 0 = _ := hp 0 (by omega)
  have p1 := hp 1 (by omega)
  have p2 : vs 2 = _ := hp 2 (by omega)
  have p3 := hp 3 (by omega)
  have p4 : vs 4 = _ := hp 4 (by omega)
  have p5 : vs 5 = _ := hp 5 (by omega)
  have p6 : vs 6 = _ := hp 6 (by omega)
  have p7 : vs 7 = _ := hp 7 (by omega)
  have p8 : vs 8 = _ := hp 8 (by omega)
  clear hp
  simp only [List.take_succ_cons, List.take_zero, List.drop_succ_cons, List.drop_zero, putAll, Nat.zero_add, Nat.reduceAdd, Act.put, List.setIfInBounds_toArray, List.set_cons_zero, List.set_cons_succ, p0, p2, p4, p5, p6, p7, p8]
  clear p0 p2 p4 p5 p6 p7 p8
  generalize vs 1 = y1 at *
  generalize vs 3 = y3 at *
  clear vs
  replace hk := hk.later (below_plus _ x.bs x.d)
  replace hx8 := hx8.later (below_plus _ x.bs x.d)
  replace be := belowP be x.bs x.d
  clear HS6
  generalize plus V1 x.bs x.d = V2 at *
  go_upto_region 3 with (fail)
  go_wp2
  refine wp_relS 10 36 rfl (by kernel_rfl) (by kernel_rfl) ?_
  apply Steps.one (MP.eq _) 1 rfl
  · intro o ho FA x hO hD K hK
    obtain rfl := Option.some.inj ho.symm
    clear ho
    have e3 := hO 3 (by kernel_rfl)
    simp only [eval_tmp, List.getElem?_toArray, List.getElem?_cons_succ, List.getElem?_cons_zero, Option.getD_some] at e3
    have ev3 := Lib.hid ((eval_tmp FA 3).trans e3)
    clear hO hD
    refine wanted_if rfl ?_
    refine wp_ldA 22 (.tmp 3) rfl (bcs key) ev3.out (hk.later (below_plus _ _ _)) (whole_ _) u1 u2 (szK16a key hk0) ?_
    exact hK.out _ _ (Ex.refl _) rfl
  apply Steps.one (MP.full [7]) 2 rfl
  · intro o ho FA x hO hD K hK
    obtain rfl := Option.some.inj ho.symm
    clear ho
    clear hO hD
    go_simp
    refine hK.out _ _ (Ex.alloc _ _) ⟨_, _, rfl, ?_⟩
    refine Rb.litW _ [7] ?_ rfl (by decide) rfl
    simp [size_plus]
  apply Steps.one (MP.eq _) 3 rfl
  · intro o ho FA x hO hD K hK
    obtain rfl := Option.some.inj ho.symm
    clear ho
    have e8 := hO 8 (by kernel_rfl)
    simp only [eval_tmp, List.getElem?_toArray, List.getElem?_cons_succ, List.getElem?_cons_zero, Option.getD_some] at e8
    have ev8 := Lib.hid ((eval_tmp FA 8).trans e8)
    clear hO hD
    go_simp
    exact hK.out _ _ (Ex.refl _) rfl
  apply Steps.one (MP.rb ([7] ++ dig m 4)) 4 rfl
  · intro o ho FA x hO hD K hK
    obtain rfl := Option.some.inj ho.symm
    clear ho
    have f23 := hD 1 23 (by kernel_rfl)
    generalize eu23 : FA.eval (.tmp 23) = u23 at f23
    have e23 := (eval_tmp FA 23).symm.trans eu23
    have ev23 := Lib.hid eu23
    clear eu23
    have ev24 : FA.eval (.tmp 24) = _ := hD 2 24 (by kernel_rfl)
    have e24 := (eval_tmp FA 24).symm.trans ev24
    replace ev24 := Lib.hid ev24
    clear hO hD
    obtain ⟨A1, n1, rfl, hr1⟩ := f23
    obtain rfl : n1 = 1 := hr1.1.symm
    refine wanted_if rfl ?_
    refine rel_app bt (.tmp 23) (.tmp 24) rfl (by simpa [Act.eval] using e23) hr1 ev24.out (hx8.plus_ _ _) (by omega) ?_
    intro A2 n2 c2 w2 hex hr2
    exact hK.out _ _ hex ⟨_, _, _, rfl, hr2⟩
  apply Steps.one (MP.eq _) 5 rfl
  · intro o ho FA x hO hD K hK
    obtain rfl := Option.some.inj ho.symm
    clear ho
    have ev22 : FA.eval (.tmp 22) = _ := hD 0 22 (by kernel_rfl)
    have e22 := (eval_tmp FA 22).symm.trans ev22
    replace ev22 := Lib.hid ev22
    have f25 := hD 3 25 (by kernel_rfl)
    generalize eu25 : FA.eval (.tmp 25) = u25 at f25
    have e25 := (eval_tmp FA 25).symm.trans eu25
    have ev25 := Lib.hid eu25
    clear eu25
    clear hO hD
    obtain ⟨A1, n1, c1, rfl, hr1⟩ := f25
    go_simp
    refine (HS7.out A1 n1 c1 _ hr1).mono ?_
    rintro e w1 ⟨bs2, d2, rfl, rfl⟩
    exact hK.out _ _ (Ex.plus_ _ _ _) rfl
  apply Steps.one (MP.eq _) 6 rfl
  · intro o ho FA x hO hD K hK
    obtain rfl := Option.some.inj ho.symm
    clear ho
    have e2 := hO 2 (by kernel_rfl)
    simp only [eval_tmp, List.getElem?_toArray, List.getElem?_cons_succ, List.getElem?_cons_zero, Option.getD_some] at e2
    have ev2 := Lib.hid ((eval_tmp FA 2).trans e2)
    clear hO hD
    go_simp
    exact hK.out _ _ (Ex.refl _) rfl
  apply Steps.one (MP.eq _) 7 rfl
  · intro o ho FA x hO hD K hK
    obtain rfl := Option.some.inj ho.symm
    clear ho
    have ev27 : FA.eval (.tmp 27) = _ := hD 5 27 (by kernel_rfl)
    have e27 := (eval_tmp FA 27).symm.trans ev27
    replace ev27 := Lib.hid ev27
    clear hO hD
    go_simp
    exact hK.out _ _ (Ex.refl _) rfl
  apply Steps.one (MP.eq _) 8 rfl
  · intro o ho FA x hO hD K hK
    obtain rfl := Option.some.inj ho.symm
    clear ho
    have ev28 : FA.eval (.tmp 28) = _ := hD 6 28 (by kernel_rfl)
    have e28 := (eval_tmp FA 28).symm.trans ev28
    replace ev28 := Lib.hid ev28
    clear hO hD
    go_simp
    exact hK.out _ _ (Ex.refl _) rfl
  apply Steps.one (MP.eq _) 9 rfl
  · intro o ho FA x hO hD K hK
    obtain rfl := Option.some.inj ho.symm
    clear ho
    have ev26 : FA.eval (.tmp 26) = _ := hD 4 26 (by kernel_rfl)
    have e26 := (eval_tmp FA 26).symm.trans ev26
    replace ev26 := Lib.hid ev26
    have ev29 : FA.eval (.tmp 29) = _ := hD 7 29 (by kernel_rfl)
    have e29 := (eval_tmp FA 29).symm.trans ev29
    replace ev29 := Lib.hid ev29
    clear hO hD
    go_simp
    exact hK.out _ _ (Ex.refl _) rfl
  apply Steps.one (MP.eq _) 10 rfl
  · intro o ho FA x hO hD K hK
    obtain rfl := Option.some.inj ho.symm
    clear ho
    have ev30 : FA.eval (.tmp 30) = _ := hD 8 30 (by kernel_rfl)
    have e30 := (eval_tmp FA 30).symm.trans ev30
    replace ev30 := Lib.hid ev30
    clear hO hD
    go_simp
    exact hK.out _ _ (Ex.refl _) rfl
  refine Steps.fin_ (fun vs x hp => ?_)
  have p0 : vs 0 = _ := hp 0 (by omega)
  have p1 := hp 1 (by omega)
  have p2 : vs 2 = _ := hp 2 (by omega)
  have p3 := hp 3 (by omega)
  have p4 : vs 4 = _ := hp 4 (by omega)
  have p5 : vs 5 = _ := hp 5 (by omega)
  have p6 : vs 6 = _ := hp 6 (by omega)
  have p7 : vs 7 = _ := hp 7 (by omega)
  have p8 : vs 8 = _ := hp 8 (by omega)
  have p9 : vs 9 = _ := hp 9 (by omega)
  clear hp
  simp only [List.take_succ_cons, List.take_zero, List.drop_succ_cons, List.drop_zero, putAll, Nat.zero_add, Nat.reduceAdd, Act.put, List.setIfInBounds_toArray, List.set_cons_zero, List.set_cons_succ, p0, p2, p4, p5, p6, p7, p8, p9]
  clear p0 p2 p4 p5 p6 p7 p8 p9
  generalize vs 1 = y1 at *
  generalize vs 3 = y3 at *
  clear vs
  replace be := belowP be x.bs x.d
  generalize plus V2 x.bs x.d = V3 at *
  go_wp2
  go_ret2
  exact RetV.mk be
end Go.Proofs.YtknoenceccpkhaaDoor

/- make of a slice of structs; the reference's Build (chapter 42). -/
namespace Go.Proofs.YtknoenceccpkhaaDoor
open Go.RowKit
set_option linter.unusedVariables false
set_option linter.unusedSimpArgs false
attribute [local go_sem ↓] sliced_cut

attribute [local go_sem] cutA_zero

theorem made_ints (n : Nat) : (madeCells (Value.int .i64 0).cells (n * 1)).toList = its (List.replicate n 0) := by
  apply List.ext_getElem
  · simp [size_madeCells, its]
  · intro i h1 h2
    simp [madeCells, Value.cells, Nat.mod_one, its]
/-- make([]T, n) -/
theorem wpList_mkS {P : Program} {w : World} {ops : Array Oper} {rest : List Oper} {o : Oper} {a : Act} {Q : Exit → Act → World → Prop} {ts e : TypeId} {z : Value} {s by_ : Nat} (et : ET P ts e z s by_) (hgd : o.guard = none) (x : Operand)
    (hop : o.op = Op.makeSlice ts x x) (n : Nat) (hl : a.eval x = .int .i64 (n : Int)) (hm : n ≤ 1000000)
    (h : ∀ w', Bk w' w.heap.size e (madeCells z.cells (n * s)).toList → Below w.heap.size w w' → w.heap.size < w'.heap.size → wpList P ops Q rest (a.put o.dst (.slice (some ⟨w.heap.size, 0, none⟩) n n)) w') : wpList P ops Q (o :: rest) a w := by
  refine wpList_plain hgd fun _ hK => ?_
  obtain ⟨i, hi, hz0, hz1, hz2⟩ := info_parts et.info
  have hr := run_make (P := P) w ts e i z et.sl hi hz0 .i64 .i64 n n (by omega) (by omega) (by rw [hz2]; have := et.small; have h2 : by_ * n ≤ 64 * 1000000 := Nat.mul_le_mul this hm; omega) (by omega)
  simp only [Int.toNat_natCast, hz1] at hr
  unfold Oper.wp execOp
  simp only [hop, hl, hr, Sem.run_bind, Sem.run_pure, Result.andThen_ok]
  refine hK _ _ (h _ ?_ ((Below.refl _ _).alloc (Nat.le_refl _) _) (by simp))
  unfold Bk
  rw [heap_alloc_new]
theorem etInt : ET Tryd.prog 23 3 (.int .i64 0) 1 8 := ⟨Tryd.underlying23, by kernel_rfl, rfl, by decide, by decide⟩
theorem ord_next (f s p i : Nat) : (ordA f s p i + s) % p = ordA f s p (i + 1) := by
  unfold ordA
  rw [Nat.mod_add_mod, Nat.add_assoc, Nat.add_mul, Nat.one_mul]
theorem ordA_lt (f s p i : Nat) (hp : 0 < p) : ordA f s p i < p := Nat.mod_lt _ hp
theorem getD_some {l : List Int} {k : Nat} (h : k < l.length) : l.getD k 0 = l[k] := by rw [List.getD_eq_getElem?_getD, List.getElem?_eq_getElem h, Option.getD_some]
/-- the parts of members' orders -/
noncomputable def magFZ (key : List UInt8) (p : Nat) (m : Int) : Nat := magF key p m.toNat
noncomputable def magSZ (key : List UInt8) (p : Nat) (m : Int) : Nat := magS key p m.toNat
noncomputable def magT (key : List UInt8) (l : List Int) (p n : Nat) : List Int := tabN (magFZ key p) (magSZ key p) l p n
theorem ordA_zero (f s p : Nat) (h : f < p) : ordA f s p 0 = f := by unfold ordA; rw [Nat.zero_mul, Nat.add_zero, Nat.mod_eq_of_lt h]
theorem magT_len (key : List UInt8) (l : List Int) (p n : Nat) : (magT key l p n).length = p := tabN_len _ _ _ _ n
/-- one step -/
theorem mag_step (key : List UInt8) {l : List Int} {p : Nat} (hR : RightL p l) (k : Nat) (hk : k < p) : ∃ mm f s q : Nat, l.getD (k % l.length) 0 = (mm : Int) ∧ 1 ≤ mm ∧ mm ≤ 64 ∧ magF key p mm = f ∧ magS key p mm = s ∧ f < p ∧ 0 < s ∧ s < p ∧
    FirstFree (magT key l p k) f s p q ∧ magT key l p (k + 1) = (magT key l p k).set (ordA f s p q) (mm : Int) := by
  have hp2 := refP_two hR.1
  have hm := hR.2.2.2.2.1 _ (getD_inI (Nat.mod_lt k hR.2.2.1))
  obtain ⟨mm, hmm⟩ := Int.eq_ofNat_of_zero_le (show 0 ≤ l.getD (k % l.length) 0 by omega)
  obtain ⟨q, hq⟩ := tabN_free (F := magFZ key p) (S := magSZ key p) hR (fun m => magF_lt key p _ hp2) (fun m => magS_ok key p _ hp2) k hk (l.getD (k % l.length) 0)
  have e1 : magFZ key p (l.getD (k % l.length) 0) = magF key p mm := by rw [hmm]; rfl
  have e2 : magSZ key p (l.getD (k % l.length) 0) = magS key p mm := by rw [hmm]; rfl
  have h3 := magS_ok key p mm hp2
  rw [e1, e2] at hq
  refine ⟨mm, _, _, q, hmm, by omega, by omega, rfl, rfl, magF_lt key p mm hp2, h3.1, h3.2, hq, ?_⟩
  unfold magT
  rw [tabN, e1, e2, slotF_eq hq, hmm]
set_option maxHeartbeats 4000000 in
set_option maxRecDepth 100000 in
theorem refBuild_any (key : List UInt8) (hk0 : K16 key) (p : Nat) (l : List Int) (A : Option Addr) (n c : Nat) (w : World) (hl : Rs 1 w A n c (its l)) (hR : RightL p l) : Calls Tryd.prog 11 #[.agg (bcs key).toArray, .int .i64 (p : Int), .slice A n c] w (RetRs 1 w (its (magT key l p p))) := by
  obtain ⟨dk, u1, u2⟩ := rowK16a
  have hln : l.length = n := by have := hl.1; rw [its_len] at this; omega
  have hp2 := refP_two hR.1
  have hp3 := hR.2.1
  have hn0 : 0 < n := by have := hR.2.2.1; omega
  have hnp : n ≤ p := by have := hR.2.2.2.1; omega
  have HRL := Lib.hid hR
  clear hR
  have hk : Bk (w.alloc (.cells (bcs key).toArray 22)) w.heap.size 22 (bcs key) := Bk.new w 22 (bcs key).toArray
  have be : Below w.heap.size w (w.alloc (.cells (bcs key).toArray 22)) := Below.allocS (Below.refl _ _) _
  have zV : w.heap.size + 1 ≤ (w.alloc (.cells (bcs key).toArray 22)).heap.size := by simp
  go_enter Tryd.func11, Tryd.ntmps11
  go_upto_region 1 with (fail)
  generalize w.alloc (.cells (bcs key).toArray 22) = V at *
  replace hl := hl.later be
  obtain ⟨bl, ol, rfl, hbl, hat⟩ := hl.ints_ hn0
  go_upto_region 1 with (fail)
  refine wp_region_lit ?_
  refine wpList_plain rfl (fun K hK => ?_); go_simp; with_reducible refine hK _ _ ?_; clear hK K
  refine wpList_mkS etInt rfl (.tmp 13) rfl p rfl (by omega) ?_
  intro V1 hT0 hb1 hz1
  have hT : Bk V1 V.heap.size 3 (its (magT key l p 0)) := by
    have e := made_ints p
    rw [e] at hT0
    exact hT0
  clear hT0
  replace hk := hk.later hb1
  have hat1 : ∀ j (hj : j < l.length), V1.cell? ⟨bl, ol + j, none⟩ = some (.int .i64 l[j]) := fun j hj => hat j hj V1 hb1
  replace be := be.trans (hb1.mono be.size)
  clear hb1 hat
  have hgT : w.heap.size + 1 ≤ V.heap.size := zV
  generalize V.heap.size = gT at *
  go_upto_region 3 with (fail)
  have HAT := Lib.hid hat1
  have HE := Lib.hid be
  have HT := Lib.hid hT
  have HKK := Lib.hid hk
  clear hat1 be hl hT hk
  have hz9 : gT + 1 ≤ V1.heap.size := by omega
  have zT : ¬ (n : Int) = 0 := by omega
  have zT1 : ((n : Int) == 0) = false := by simp; omega
  have zT2 : ¬ n = 0 := by omega
  have zp : ¬ (p : Int) = 0 := by omega
  have zp1 : ((p : Int) == 0) = false := by simp; omega
  have zp2 : ¬ p = 0 := by omega
  go_loopw [8] (fun I wr => ∃ k : Nat, I = .int .i64 (k : Int) ∧ k ≤ p ∧ Bk wr gT 3 (its (magT key l p k)) ∧ Bk wr w.heap.size 22 (bcs key) ∧ (∀ j (hj : j < l.length), wr.cell? ⟨bl, ol + j, none⟩ = some (.int .i64 l[j])) ∧ Below w.heap.size w wr) (fun I _ => p - (intOf I).toNat)
  case atStart => exact ⟨0, rfl, Nat.zero_le _, HT.out, HKK.out, HAT.out, HE.out⟩
  case round =>
    clear HAT HE HT HKK
    obtain ⟨k, rfl, hkp, hT, hk, hat, hE⟩ := hrel
    have HAT := Lib.hid hat
    clear hat
    by_cases hlt : k < p
    · have ik : (k : Int) < (p : Int) := by omega
      obtain ⟨mm, f, s, q, hm, hm1, hm64, hf, hs, hfp, hs0, hsp, hq, hstep⟩ := mag_step key HRL.out k hlt
      have HOF := Lib.hid (fun w => refOf_any42 key hk0 mm p w hm64 hp2 (by omega))
      rw [hf, hs] at HOF
      clear hf hs
      have hlT := magT_len key l p k
      have HST := Lib.hid hstep
      clear hstep
      have hkn : k % n < n := Nat.mod_lt _ hn0
      rw [hln] at hm
      rw [getD_some (by omega)] at hm
      have hcell := HAT.out (k % n) (by omega)
      rw [hm] at hcell
      clear hm
      have t1 : Int.tmod (k : Int) (n : Int) = ((k % n : Nat) : Int) := rfl
      have t2 : (k : Int) % (n : Int) = ((k % n : Nat) : Int) := rfl
      generalize k % n = kn at *
      have ikn : (kn : Int) < (n : Int) := by omega
      generalize magT key l p k = T at *
      go_upto_region 6 with (fail)
      clear t1 t2 hcell
      refine wp_region_lit ?_
      refine wpList_ldA (t := 22) 22 (.tmp 3) rfl rfl (bcs key) rfl (hk) (whole_ _) u1 u2 (szK16a key hk0) ?_
      iterate 2 (refine wpList_plain rfl (fun K hK => ?_); go_simp; with_reducible refine hK _ _ ?_; clear hK K)
      refine wpList_plain rfl (fun K hK => ?_)
      go_simp
      refine (HOF.out _).mono ?_
      rintro e w1 ⟨bs1, d1, rfl, rfl⟩
      with_reducible refine hK _ _ ?_
      clear hK K
      iterate 5 (refine wpList_plain rfl (fun K hK => ?_); go_simp; with_reducible refine hK _ _ ?_; clear hK K)
      replace hT := hT.later (below_plus wr bs1 d1)
      replace hk := hk.later (below_plus wr bs1 d1)
      have hat2 : ∀ j (hj : j < l.length), (plus wr bs1 d1).cell? ⟨bl, ol + j, none⟩ = some (.int .i64 l[j]) := fun j hj => by
        have h9 := HAT.out j hj
        rw [← h9]
        exact (below_plus wr bs1 d1).cell (p := ⟨bl, ol + j, none⟩) (lt_of_cell h9)
      replace HAT := Lib.hid hat2
      clear hat2
      replace hE := belowP hE bs1 d1
      clear HOF
      generalize plus wr bs1 d1 = W1 at *
      go_upto_region 8 with (fail)
      have hz0 := ordA_zero f s p hfp
      have HQ := Lib.hid hq
      clear hq
      go_loopw [10, 12] (fun AT I wr2 => ∃ i : Nat, I = .int .i64 (i : Int) ∧ AT = .int .i64 ((ordA f s p i : Nat) : Int) ∧ i ≤ q ∧ Below W1.heap.size W1 wr2) (fun _ I _ => q - (intOf I).toNat)
      case atStart => exact ⟨0, rfl, by rw [hz0], Nat.zero_le _, Below.refl _ _⟩
      case round =>
        clear hz0
        obtain ⟨i, rfl, rfl, hiq, hE2⟩ := hrel
        have hqp := HQ.out.1
        have iip : (i : Int) < (p : Int) := by omega
        have hap := ordA_lt f s p i (by omega)
        have haT : ordA f s p i < T.length := by omega
        have hT2 := hT.later hE2
        have hcT := (hT2.cell (ordA f s p i)).trans (its_at T _ haT)
        have hv := List.getElem?_eq_getElem haT
        obtain ⟨v, hv2⟩ : ∃ v, T[ordA f s p i] = v := ⟨_, rfl⟩
        rw [hv2] at hcT hv
        clear hv2
        by_cases hlq : i < q
        · have hne : v ≠ 0 := fun e => HQ.out.2.2 i hlq (by rw [hv, e])
          have b1 : (v == 0) = false := by simp [hne]
          have b2 : ¬ v = 0 := hne
          have hnx := ord_next f s p i
          clear hv hne
          generalize ordA f s p i = a at *
          have iap : (a : Int) < (p : Int) := by omega
          have w1 : IntKind.i64.wrap ((a : Int) + (s : Int)) = ((a + s : Nat) : Int) := by rw [IntWalk.i64_in _ (by omega)]; rfl
          have t1 : Int.tmod ((a + s : Nat) : Int) (p : Int) = (((a + s) % p : Nat) : Int) := rfl
          have t2 : ((a + s : Nat) : Int) % (p : Int) = (((a + s) % p : Nat) : Int) := rfl
          have e1 : (a : Int) + (s : Int) = ((a + s : Nat) : Int) := rfl
          rw [hnx] at t1 t2
          clear hnx
          generalize a + s = y at *
          go_wp2
          exact ⟨⟨i + 1, by go_num, rfl, by omega, hE2⟩, by simp [intOf]; omega⟩
        · obtain rfl : i = q := by omega
          obtain rfl : v = 0 := by
            have h9 := HQ.out.2.1
            rw [hv] at h9
            injection h9
          have hset := hT2.set_ (ordA f s p i) (.int .i64 (mm : Int))
          rw [its_set, ← HST.out] at hset
          have HSET := Lib.hid hset
          have hfz := hT2.frozen (ordA f s p i)
          have hk2 := hk.later hE2
          have hk3 : ∀ u, Bk (wr.setCell ⟨gT, ordA f s p i, none⟩ u) w.heap.size 22 (bcs key) := fun u => hk2.far (by simp; omega) u
          have HK3 := Lib.hid hk3
          have HAT3 := Lib.hid (show ∀ u j (hj : j < l.length), (wr.setCell ⟨gT, ordA f s p i, none⟩ u).cell? ⟨bl, ol + j, none⟩ = some (.int .i64 l[j]) from fun u j hj => by
            have h9 := HAT.out j hj
            rw [World.cell?_setCell_other _ _ _ _ (by intro e; injection e with e1 e2; omega)]
            rw [← h9]
            exact hE2.cell (p := ⟨bl, ol + j, none⟩) (lt_of_cell h9))
          have hE3 : ∀ u, Below w.heap.size w (wr.setCell ⟨gT, ordA f s p i, none⟩ u) := fun u => (hE.trans (hE2.mono hE.size)).setCell (by simp; omega) u
          have HE3 := Lib.hid hE3
          clear hset hv hk2 hk3 hE3 hT hk hE2
          generalize ordA f s p i = a at *
          have iap : (a : Int) < (p : Int) := by omega
          go_wp2
          exact ⟨⟨k + 1, by go_num, by omega, HSET.out, HK3.out _, HAT3.out _, HE3.out _⟩, by simp [intOf]; omega⟩
    · obtain rfl : k = p := by omega
      have ik : ¬ (k : Int) < (k : Int) := by omega
      go_wp2
      go_ret
      exact RetRs.mk (Rs.of_bk hT (by rw [its_len]; unfold magT; rw [tabN_len, Nat.mul_one]) (Nat.le_refl _)) hE
end Go.Proofs.YtknoenceccpkhaaDoor

/- maglev.Build (chapter 42). -/
namespace Go.Proofs.YtknoenceccpkhaaDoor
open Go.RowKit
set_option linter.unusedVariables false
set_option linter.unusedSimpArgs false
attribute [local go_sem ↓] sliced_cut

attribute [local go_sem] cutA_zero

theorem splice_get (cs : List Value) (off : Nat) (new : List Value) (h : off + new.length ≤ cs.length) (i : Nat) : (splice cs off new)[i]? = if i < off then cs[i]? else if i < off + new.length then new[i - off]? else cs[i]? := by
  unfold splice
  by_cases h1 : i < off
  · rw [if_pos h1, List.getElem?_append_left (by rw [List.length_take]; omega), List.getElem?_take, if_pos h1]
  · rw [if_neg h1, List.getElem?_append_right (by rw [List.length_take]; omega)]
    have e : (cs.take off).length = off := by rw [List.length_take]; omega
    rw [e]
    by_cases h2 : i < off + new.length
    · rw [if_pos h2, List.getElem?_append_left (by omega)]
    · rw [if_neg h2, List.getElem?_append_right (by omega), List.getElem?_drop]
      congr 1
      omega
theorem splice_len (cs : List Value) (off : Nat) (new : List Value) (h : off + new.length ≤ cs.length) : (splice cs off new).length = cs.length := by
  unfold splice
  simp
  omega
/-- orders stand in a row -/
def OrdOk (key : List UInt8) (p : Nat) (l : List Int) (cs : List Value) (j : Nat) : Prop := cs.length = l.length * 2 ∧ ∀ i, i < j → (hi : i < l.length) → cs[i * 2]? = some (.int .i64 ((magFZ key p l[i] : Nat) : Int)) ∧ cs[i * 2 + 1]? = some (.int .i64 ((magSZ key p l[i] : Nat) : Int))
theorem OrdOk.step {key : List UInt8} {p : Nat} {l : List Int} {cs : List Value} {j : Nat} (h : OrdOk key p l cs j) (hj : j < l.length) : OrdOk key p l (splice cs (j * 2) (ordC ((magFZ key p l[j] : Nat) : Int) ((magSZ key p l[j] : Nat) : Int))) (j + 1) := by
  have hl := h.1
  have hle : j * 2 + (ordC ((magFZ key p l[j] : Nat) : Int) ((magSZ key p l[j] : Nat) : Int)).length ≤ cs.length := by simp [ordC]; omega
  refine ⟨by rw [splice_len _ _ _ hle, hl], fun i hi hiL => ?_⟩
  rw [splice_get _ _ _ hle, splice_get _ _ _ hle]
  by_cases e : i = j
  · subst e
    have e2 : (ordC ((magFZ key p l[i] : Nat) : Int) ((magSZ key p l[i] : Nat) : Int)).length = 2 := rfl
    rw [if_neg (Nat.lt_irrefl _), if_neg (show ¬ i * 2 + 1 < i * 2 by omega), e2, if_pos (show i * 2 < i * 2 + 2 by omega), if_pos (show i * 2 + 1 < i * 2 + 2 by omega), Nat.sub_self, show i * 2 + 1 - i * 2 = 1 by omega]
    exact ⟨rfl, rfl⟩
  · rw [if_pos (by omega), if_pos (by omega)]
    exact h.2 i (by omega) hiL
/-- where each member looks next -/
def NxOk (key : List UInt8) (p : Nat) (l : List Int) (T nx : List Int) : Prop := nx.length = l.length ∧ ∀ t, t < l.length → ∃ c : Nat, nx[t]? = some (c : Int) ∧ c < p ∧ ∀ i, i < c → T[ordA (magFZ key p (l.getD t 0)) (magSZ key p (l.getD t 0)) p i]? ≠ some 0
theorem NxOk.start (key : List UInt8) (p : Nat) (l : List Int) (hp : 0 < p) (T : List Int) : NxOk key p l T (List.replicate l.length 0) := by
  refine ⟨by simp, fun t ht => ⟨0, ?_, hp, fun i h => by omega⟩⟩
  simp [ht]
theorem NxOk.step {key : List UInt8} {p : Nat} {l : List Int} {nx : List Int} (hR : RightL p l) (k : Nat) (h : NxOk key p l (magT key l p k) nx) {q : Nat}
    (hq : FirstFree (magT key l p k) (magFZ key p (l.getD (k % l.length) 0)) (magSZ key p (l.getD (k % l.length) 0)) p q) : NxOk key p l (magT key l p (k + 1)) (nx.set (k % l.length) (q : Int)) := by
  refine ⟨by rw [List.length_set]; exact h.1, fun t ht => ?_⟩
  by_cases e : k % l.length = t
  · subst e
    refine ⟨q, by rw [List.getElem?_set_self (by rw [h.1]; exact ht)], hq.1, fun i hi => tabN_stays hR k _ (hq.2.2 i hi)⟩
  · obtain ⟨c, h1, h2, h3⟩ := h.2 t ht
    refine ⟨c, by rw [List.getElem?_set_ne e]; exact h1, h2, fun i hi => tabN_stays hR k _ (h3 i hi)⟩
/-- a table's cells -/
def tbC (A : Option Addr) (n c : Nat) : List Value := [.slice A n c]
theorem tbC_one (A : Option Addr) (n c : Nat) : ∀ u ∈ tbC A n c, u.oneCell' = true := by simp [tbC, Value.oneCell']
theorem szTb (A : Option Addr) (n c : Nat) : (Tryd.prog.info? 27).map (·.size) = some (tbC A n c).length := by kernel_rfl
theorem rowTb : ∃ d, Tryd.prog.underlying 27 = some d ∧ d.isRow = true := ⟨_, Tryd.underlying27, rfl⟩
theorem etOr : ET Tryd.prog 42 44 (.agg #[.int .i64 0, .int .i64 0]) 2 16 := ⟨Tryd.underlying42, by kernel_rfl, rfl, by decide, by decide⟩
/-- a new table -/
def RetTab (w : World) (T : List Int) (e : Ending) (w' : World) : Prop := ∃ A c bs d, e = .returned (.tuple #[.agg (tbC A T.length c).toArray, .int .i64 0]) ∧ w' = plus w bs d ∧ Rs 1 (plus w bs d) A T.length c (its T)
set_option maxHeartbeats 4000000 in
set_option maxRecDepth 100000 in
theorem build_no (key : List UInt8) (hk0 : K16 key) (s : Int) (l : List Int) (A : Option Addr) (n c : Nat) (w : World) (hl : Rs 1 w A n c (its l)) (hn : n ≤ 1000) (hs : s < 300 ∨ 2048 < s) (hlo : -9223372036854775808 ≤ s) (hhi : s ≤ 9223372036854775807) (hT : TabB w) (hR : ¬ RightZ s l) :
    Calls Tryd.prog 6 #[.agg (bcs key).toArray, .int .i64 s, .slice A n c] w (RetV w (.tuple #[.agg (tbC none 0 0).toArray, .int .i64 1])) := by
  obtain ⟨dk, u1, u2, u3⟩ := rowKey
  obtain ⟨dt, o1, o2⟩ := rowTb
  have hk : Bk ((w.alloc (.cells (bcs key).toArray 41)).alloc (.cells ([.slice none 0 0]).toArray 27)) w.heap.size 41 (bcs key) := (Bk.new w 41 (bcs key).toArray).alloc _
  have hTb : Bk ((w.alloc (.cells (bcs key).toArray 41)).alloc (.cells ([.slice none 0 0]).toArray 27)) (w.heap.size + 1) 27 ([.slice none 0 0]) := Bk.newK _ _ _ (by simp) rfl
  have be : Below w.heap.size w ((w.alloc (.cells (bcs key).toArray 41)).alloc (.cells ([.slice none 0 0]).toArray 27)) := Below.allocS (Below.allocS (Below.refl _ _) _) _
  have zV : w.heap.size + 2 ≤ ((w.alloc (.cells (bcs key).toArray 41)).alloc (.cells ([.slice none 0 0]).toArray 27)).heap.size := by simp
  go_enter Tryd.func6, Tryd.ntmps6
  go_upto_region 1 with (fail)
  generalize (w.alloc (.cells (bcs key).toArray 41)).alloc (.cells ([.slice none 0 0]).toArray 27) = V at *
  have HF := Lib.hid (fits_any s l A n c V (hl.later be) hn hs hlo hhi false (by simp [hR]) (hT.later be))
  go_upto_region 2 with (go_at_call 14; refine HF.out.mono ?_; rintro e w1 ⟨bs1, d1, rfl, rfl⟩)
  replace hTb := hTb.later (below_plus V bs1 d1)
  replace be := belowP be bs1 d1
  generalize plus V bs1 d1 = V1 at *
  refine wp_region_lit ?_
  refine wpList_plain rfl (fun K hK => ?_); go_simp; with_reducible refine hK _ _ ?_; clear hK K
  refine wpList_stA (t := 27) 27 (.tmp 6) (.tmp 20) rfl rfl (tbC none 0 0) [.slice none 0 0] rfl (tbC_one _ _ _) rfl rfl hTb (szTb _ _ _) ?_
  intro W9 h9 g9
  go_wp2
  refine bodyPost_agg2 Tryd.results6 rfl rfl h9.range o1 o2 (szTb _ _ _) rfl ?_
  exact RetV.mk (below_grown be g9 (by omega))
set_option maxHeartbeats 4000000 in
set_option maxRecDepth 100000 in
theorem build_yes (key : List UInt8) (hk0 : K16 key) (p : Nat) (l : List Int) (A : Option Addr) (n c : Nat) (w : World) (hl : Rs 1 w A n c (its l)) (hR : RightL p l) (hT : TabB w) :
    Calls Tryd.prog 6 #[.agg (bcs key).toArray, .int .i64 (p : Int), .slice A n c] w (RetTab w (magT key l p p)) := by
  obtain ⟨dk, u1, u2, u3⟩ := rowKey
  obtain ⟨dt, o1, o2⟩ := rowTb
  have hln : l.length = n := by have := hl.1; rw [its_len] at this; omega
  have hp2 := refP_two hR.1
  have hp3 := hR.2.1
  have hn0 : 0 < n := by have := hR.2.2.1; omega
  have hnp : n ≤ p := by have := hR.2.2.2.1; omega
  have HRL := Lib.hid hR
  have hk : Bk ((w.alloc (.cells (bcs key).toArray 41)).alloc (.cells ([.slice none 0 0]).toArray 27)) w.heap.size 41 (bcs key) := (Bk.new w 41 (bcs key).toArray).alloc _
  have hTb : Bk ((w.alloc (.cells (bcs key).toArray 41)).alloc (.cells ([.slice none 0 0]).toArray 27)) (w.heap.size + 1) 27 ([.slice none 0 0]) := Bk.newK _ _ _ (by simp) rfl
  have be : Below w.heap.size w ((w.alloc (.cells (bcs key).toArray 41)).alloc (.cells ([.slice none 0 0]).toArray 27)) := Below.allocS (Below.allocS (Below.refl _ _) _) _
  have zV : w.heap.size + 2 ≤ ((w.alloc (.cells (bcs key).toArray 41)).alloc (.cells ([.slice none 0 0]).toArray 27)).heap.size := by simp
  go_enter Tryd.func6, Tryd.ntmps6
  go_upto_region 1 with (fail)
  generalize (w.alloc (.cells (bcs key).toArray 41)).alloc (.cells ([.slice none 0 0]).toArray 27) = V at *
  have HF := Lib.hid (fits_any p l A n c V (hl.later be) (by omega) (by omega) (by omega) (by omega) true ⟨fun _ => ⟨p, rfl, hR⟩, fun _ => rfl⟩ (hT.later be))
  clear hR hT
  go_upto_region 3 with (go_at_call 14; refine HF.out.mono ?_; rintro e w1 ⟨bs1, d1, rfl, rfl⟩)
  clear HF
  replace hl := hl.later (belowP be bs1 d1)
  replace hk := hk.later (below_plus V bs1 d1)
  replace hTb := hTb.later (below_plus V bs1 d1)
  replace be := belowP be bs1 d1
  replace zV : w.heap.size + 2 ≤ (plus V bs1 d1).heap.size := Nat.le_trans zV (below_plus V bs1 d1).size
  generalize plus V bs1 d1 = V1 at *
  obtain ⟨bl, ol, rfl, hbl, hat⟩ := hl.ints_ hn0
  go_upto_region 3 with (fail)
  refine wp_region_lit ?_
  iterate 2 (refine wpList_plain rfl (fun K hK => ?_); go_simp; with_reducible refine hK _ _ ?_; clear hK K)
  refine wpList_mkS etOr rfl (.tmp 22) rfl n rfl (by omega) ?_
  intro V2 hO0 hb2 hz2
  have hO : OrdOk key p l (madeCells (Value.agg #[.int .i64 0, .int .i64 0]).cells (n * 2)).toList 0 := ⟨by simp [size_madeCells, hln], fun i h => by omega⟩
  generalize (madeCells (Value.agg #[.int .i64 0, .int .i64 0]).cells (n * 2)).toList = cs0 at *
  have hat2 : ∀ j (hj : j < l.length), V2.cell? ⟨bl, ol + j, none⟩ = some (.int .i64 l[j]) := fun j hj => hat j hj V2 hb2
  replace hk := hk.later hb2
  replace hTb := hTb.later hb2
  replace be := be.trans (hb2.mono be.size)
  clear hb2 hat hl
  have hgO : w.heap.size + 2 ≤ V1.heap.size := zV
  generalize V1.heap.size = gO at *
  go_upto_region 5 with (fail)
  have HAT := Lib.hid hat2
  have HE := Lib.hid be
  have HO := Lib.hid hO
  have HO0 := Lib.hid hO0
  have HK := Lib.hid hk
  have HTB := Lib.hid hTb
  clear hat2 be hO hO0 hk hTb
  have hm64 : ∀ m ∈ l, 1 ≤ m ∧ m ≤ 64 := HRL.out.2.2.2.2.1
  have HM := Lib.hid hm64
  clear hm64
  go_loopw [26, 9, 10] (fun I A9 A10 wr => ∃ (j : Nat) (cs : List Value), I = .int .i64 (j : Int) ∧ j ≤ n ∧ Bk wr gO 44 cs ∧ OrdOk key p l cs j ∧ Bk wr w.heap.size 41 (bcs key) ∧ Bk wr (w.heap.size + 1) 27 [.slice none 0 0] ∧ (∀ j (hj : j < l.length), wr.cell? ⟨bl, ol + j, none⟩ = some (.int .i64 l[j])) ∧ Below w.heap.size w wr ∧ gO + 1 ≤ wr.heap.size) (fun I _ _ _ => n - (intOf I).toNat)
  case atStart => exact ⟨0, cs0, rfl, Nat.zero_le _, HO0.out, HO.out, HK.out, HTB.out, HAT.out, HE.out, hz2⟩
  case round =>
    clear HAT HE HO HO0 HK HTB
    obtain ⟨j, cs, rfl, hj, hB, hO, hk, hTb, hat, hE, hz⟩ := hrel
    have HAT := Lib.hid hat
    have HO := Lib.hid hO
    clear hat hO
    by_cases hlt : j < n
    · have ij : (j : Int) < (n : Int) := by omega
      have hjL : j < l.length := by omega
      have hcell := HAT.out j hjL
      have hm := HM.out _ (List.getElem_mem hjL)
      obtain ⟨mm, hmm⟩ := Int.eq_ofNat_of_zero_le (show 0 ≤ l[j] by omega)
      have HST := Lib.hid (HO.out.step hjL)
      rw [hmm] at hcell hm HST
      have HOF := Lib.hid (fun w => magOf_any key hk0 mm p w (by omega) hp2 (by omega))
      have e1 : magFZ key p (mm : Int) = magF key p mm := rfl
      have e2 : magSZ key p (mm : Int) = magS key p mm := rfl
      rw [e1, e2] at HST
      clear e1 e2 hmm hm
      generalize magF key p mm = f at *
      generalize magS key p mm = s at *
      go_upto_region 7 with (fail)
      refine wp_region_lit ?_
      iterate 2 (refine wpList_plain rfl (fun K hK => ?_); go_simp; with_reducible refine hK _ _ ?_; clear hK K)
      refine wpList_ldA (t := 41) 41 (.tmp 3) rfl rfl (bcs key) rfl (hk) (whole_ _) u1 u2 (szKey key hk0) ?_
      iterate 2 (refine wpList_plain rfl (fun K hK => ?_); go_simp; with_reducible refine hK _ _ ?_; clear hK K)
      refine wpList_plain rfl (fun K hK => ?_)
      go_simp
      refine (HOF.out _).mono ?_
      rintro e w1 ⟨bs1, d1, rfl, rfl⟩
      with_reducible refine hK _ _ ?_
      clear hK K
      refine wpList_plain rfl (fun K hK => ?_); go_simp; with_reducible refine hK _ _ ?_; clear hK K
      replace hB := hB.later (below_plus wr bs1 d1)
      replace hk := hk.later (below_plus wr bs1 d1)
      replace hTb := hTb.later (below_plus wr bs1 d1)
      have hat2 : ∀ j (hj : j < l.length), (plus wr bs1 d1).cell? ⟨bl, ol + j, none⟩ = some (.int .i64 l[j]) := fun j hj => by
        have h9 := HAT.out j hj
        rw [← h9]
        exact (below_plus wr bs1 d1).cell (p := ⟨bl, ol + j, none⟩) (lt_of_cell h9)
      replace HAT := Lib.hid hat2
      replace hE := belowP hE bs1 d1
      have hz2 : gO + 1 ≤ (plus wr bs1 d1).heap.size := Nat.le_trans hz (below_plus wr bs1 d1).size
      clear hat2 HOF hcell hz
      generalize plus wr bs1 d1 = W1 at *
      have hcl : j * 2 + (ordC (f : Int) (s : Int)).length ≤ cs.length := by have := HO.out.1; simp [ordC]; omega
      refine wpList_stM 44 (.tmp 37) (.tmp 36) rfl rfl (ordC (f : Int) (s : Int)) cs hcl (ordC_one _ _) rfl rfl hB (szOr _ _) ?_
      intro W2 hB2 g2
      have hat3 : ∀ j (hj : j < l.length), W2.cell? ⟨bl, ol + j, none⟩ = some (.int .i64 l[j]) := fun j hj => by
        have h9 := HAT.out j hj
        rw [← h9]
        exact World.cell?_of_block (g2.block bl (lt_of_cell h9) (fun e => by have := Option.some.inj e; omega))
      have HAT3 := Lib.hid hat3
      have hk3 := hk.grown g2 (by simp; omega)
      have hTb3 := hTb.grown g2 (by simp; omega)
      have hE3 := below_grown hE g2 (by omega)
      have hz3 : gO + 1 ≤ W2.heap.size := Nat.le_trans hz2 g2.size
      clear hk hTb hE hB hat3 HAT HO g2 hz2 hcl
      go_wp2
      exact ⟨⟨j + 1, _, by go_num, by omega, hB2, HST.out, hk3, hTb3, HAT3.out, hE3, hz3⟩, by simp [intOf]; omega⟩
    · obtain rfl : n = j := by omega
      have ij : ¬ (n : Int) < (n : Int) := by omega
      go_upto_region 9 with (fail)
      refine wp_region_lit ?_
      iterate 2 (refine wpList_plain rfl (fun K hK => ?_); go_simp; with_reducible refine hK _ _ ?_; clear hK K)
      refine wpList_mkS etInt rfl (.tmp 40) rfl n rfl (by omega) ?_
      intro V3 hN hb3 hz3
      rw [made_ints n] at hN
      replace hB := hB.later hb3
      replace hTb := hTb.later hb3
      have hat2 : ∀ j (hj : j < l.length), V3.cell? ⟨bl, ol + j, none⟩ = some (.int .i64 l[j]) := fun j hj => by
        have h9 := HAT.out j hj
        rw [← h9]
        exact hb3.cell (p := ⟨bl, ol + j, none⟩) (lt_of_cell h9)
      replace HAT := Lib.hid hat2
      replace hE := hE.trans (hb3.mono hE.size)
      clear hat2 hk hb3
      have hgN : gO + 1 ≤ wr.heap.size := hz
      clear hz
      generalize wr.heap.size = gN at *
      go_upto_region 10 with (fail)
      refine wp_region_lit ?_
      iterate 1 (refine wpList_plain rfl (fun K hK => ?_); go_simp; with_reducible refine hK _ _ ?_; clear hK K)
      refine wpList_mkS etInt rfl (.tmp 42) rfl p rfl (by omega) ?_
      intro V4 hS hb4 hz4
      rw [made_ints p] at hS
      replace hB := hB.later hb4
      replace hTb := hTb.later hb4
      replace hN := hN.later hb4
      have hat2 : ∀ j (hj : j < l.length), V4.cell? ⟨bl, ol + j, none⟩ = some (.int .i64 l[j]) := fun j hj => by
        have h9 := HAT.out j hj
        rw [← h9]
        exact hb4.cell (p := ⟨bl, ol + j, none⟩) (lt_of_cell h9)
      replace HAT := Lib.hid hat2
      replace hE := hE.trans (hb4.mono hE.size)
      clear hat2 hb4
      have hgS : gN + 1 ≤ V3.heap.size := by omega
      have hz5 : V3.heap.size + 1 ≤ V4.heap.size := by omega
      clear hz3 hz4
      generalize V3.heap.size = gS at *
      have hS0 : Bk V4 gS 3 (its (magT key l p 0)) := hS
      have HNX := Lib.hid (hln ▸ NxOk.start key p l (by omega) (magT key l p 0) : NxOk key p l (magT key l p 0) (List.replicate n 0))
      clear hS
      have HS0 := Lib.hid hS0
      have HB := Lib.hid hB
      have HN := Lib.hid hN
      have HE := Lib.hid hE
      have HTB := Lib.hid hTb
      clear hS0 hB hN hE hTb
      go_upto_region 12 with (fail)
      go_loopw [45, 13, 14, 15] (fun I A13 A14 A15 wr => ∃ (k : Nat) (nx : List Int), I = .int .i64 (k : Int) ∧ k ≤ p ∧ Bk wr gS 3 (its (magT key l p k)) ∧ Bk wr gN 3 (its nx) ∧ NxOk key p l (magT key l p k) nx ∧ Bk wr gO 44 cs ∧ Bk wr (w.heap.size + 1) 27 [.slice none 0 0] ∧ (∀ j (hj : j < l.length), wr.cell? ⟨bl, ol + j, none⟩ = some (.int .i64 l[j])) ∧ Below w.heap.size w wr) (fun I _ _ _ _ => p - (intOf I).toNat)
      case atStart => exact ⟨0, _, rfl, Nat.zero_le _, HS0.out, HN.out, HNX.out, HB.out, HTB.out, HAT.out, HE.out⟩
      case round =>
        clear HAT HE HS0 HB HN HNX HTB
        obtain ⟨k, nx, rfl, hkp, hS, hN, hNx, hB, hTb, hat, hE⟩ := hrel
        have HAT := Lib.hid hat
        have HNX := Lib.hid hNx
        clear hat hNx
        by_cases hlt : k < p
        · have ik : (k : Int) < (p : Int) := by omega
          obtain ⟨mm, f, s, q, hm, hm1, hm64, hf, hs, hfp, hs0, hsp, hq, hstep⟩ := mag_step key HRL.out k hlt
          have eF : magFZ key p (l.getD (k % l.length) 0) = f := by rw [hm]; exact hf
          have eS : magSZ key p (l.getD (k % l.length) 0) = s := by rw [hm]; exact hs
          have hnxs := NxOk.step HRL.out k HNX.out (q := q) (by rw [eF, eS]; exact hq)
          have htl : k % l.length < l.length := Nat.mod_lt _ (by omega)
          obtain ⟨c9, hc1, hc2, hc3⟩ := HNX.out.2 (k % l.length) htl
          rw [eF, eS] at hc3
          have hcq : c9 ≤ q := by
            rcases Nat.lt_or_ge q c9 with h | h
            · exact absurd hq.2.1 (hc3 q h)
            · exact h
          have hord := HO.out.2 (k % l.length) (by omega) htl
          have hgl := getD_some htl
          rw [← hgl, eF, eS] at hord
          rw [hgl] at hm
          have hcellm := HAT.out (k % l.length) htl
          rw [hm] at hcellm
          have HMM0 := Lib.hid (show ∀ h : k % l.length < l.length, l[k % l.length] = (mm : Int) from fun _ => hm)
          clear hgl hm eF eS hf hs hc3
          rw [hln] at hnxs hc1 hord hcellm
          have HNXS := Lib.hid hnxs
          have HST := Lib.hid hstep
          have hlT := magT_len key l p k
          have HQ := Lib.hid hq
          have hlx : nx.length = n := by rw [HNX.out.1, hln]
          clear hnxs hstep hq htl HNX
          have htn : k % n < n := Nat.mod_lt _ hn0
          have t1 : Int.tmod (k : Int) (n : Int) = ((k % n : Nat) : Int) := rfl
          have t2 : (k : Int) % (n : Int) = ((k % n : Nat) : Int) := rfl
          have z1 : ((n : Int) == 0) = false := by simp; omega
          have z2 : ¬ (n : Int) = 0 := by omega
          have z3 : ¬ n = 0 := by omega
          obtain ⟨t, ht⟩ : ∃ t, k % n = t := ⟨_, rfl⟩
          have HMM := Lib.hid (show ∀ h : t < l.length, l[t] = (mm : Int) from fun h => by
            have h9 := HMM0.out
            simp only [hln, ht] at h9
            exact h9 (by omega))
          clear HMM0
          rw [ht] at htn t1 t2 hc1 hord hcellm HNXS
          clear ht
          have itn : (t : Int) < (n : Int) := by omega
          generalize magT key l p k = T at *
          have hset0 : nx.set t (c9 : Int) = nx := by
            apply List.ext_getElem?
            intro i
            rw [List.getElem?_set]
            split
            · next e => subst e; rw [if_pos (by omega), hc1]
            · rfl
          rw [← hset0] at hN
          have HSET0 := Lib.hid hset0
          have htnx : t < nx.length := by omega
          have its_t : ∀ i : Nat, (its (nx.set t (i : Int)))[t]? = some (.int .i64 (i : Int)) := fun i => by simp [its, htnx]
          have ITT := Lib.hid its_t
          clear hset0 hc1 its_t
          have HA := Lib.hid (fun i w (hi : i < 65536) => at_any f s p i w (by omega) (by omega) hi (by omega) (by omega))
          have HR := Lib.hid (fun (W : World) (h : Bk W gO 44 cs) => show W.rangeAt gO (t * 2) (ordC (f : Int) (s : Int)) from fun j v hv => by
            rw [h.cell]
            match j, hv with
            | 0, hv => simp [ordC] at hv; subst hv; exact hord.1
            | 1, hv => simp [ordC] at hv; subst hv; exact hord.2
            | j + 2, hv => simp [ordC] at hv)
          clear hord
          obtain ⟨dor, r1, r2⟩ := rowOr
          go_upto_region 15 with (fail)
          have HC := Lib.hid (fun (W : World) (h : Below wr.heap.size wr W) => show Bk W gO 44 cs ∧ W.cell? ⟨gN, t, none⟩ = some (.int .i64 (c9 : Int)) from ⟨hB.later h, ((hN.later h).cell t).trans (ITT.out c9)⟩)
          go_wp2
          refine wp_relS 11 93 rfl (by kernel_rfl) (by kernel_rfl) ?_
          apply Steps.one (MP.eq _) 1 rfl
          · intro o ho FA x hO hD K hK
            obtain rfl := Option.some.inj ho.symm
            clear ho
            have e8 := hO 8 (by kernel_rfl)
            simp only [eval_tmp, List.getElem?_toArray, List.getElem?_cons_succ, List.getElem?_cons_zero, Option.getD_some] at e8
            have ev8 := Lib.hid ((eval_tmp FA 8).trans e8)
            clear hO hD
            go_simp
            exact hK.out _ _ (Ex.refl _) rfl
          apply Steps.one (MP.eq _) 2 rfl
          · intro o ho FA x hO hD K hK
            obtain rfl := Option.some.inj ho.symm
            clear ho
            have e14 := hO 14 (by kernel_rfl)
            simp only [eval_tmp, List.getElem?_toArray, List.getElem?_cons_succ, List.getElem?_cons_zero, Option.getD_some] at e14
            have ev14 := Lib.hid ((eval_tmp FA 14).trans e14)
            clear hO hD
            go_simp
            exact hK.out _ _ (Ex.refl _) rfl
          apply Steps.one (MP.eq _) 3 rfl
          · intro o ho FA x hO hD K hK
            obtain rfl := Option.some.inj ho.symm
            clear ho
            have ev52 : FA.eval (.tmp 52) = _ := hD 0 52 (by kernel_rfl)
            have e52 := (eval_tmp FA 52).symm.trans ev52
            replace ev52 := Lib.hid ev52
            have ev53 : FA.eval (.tmp 53) = _ := hD 1 53 (by kernel_rfl)
            have e53 := (eval_tmp FA 53).symm.trans ev53
            replace ev53 := Lib.hid ev53
            clear hO hD
            go_simp
            exact hK.out _ _ (Ex.refl _) rfl
          apply Steps.one (MP.eq _) 4 rfl
          · intro o ho FA x hO hD K hK
            obtain rfl := Option.some.inj ho.symm
            clear ho
            have ev54 : FA.eval (.tmp 54) = _ := hD 2 54 (by kernel_rfl)
            have e54 := (eval_tmp FA 54).symm.trans ev54
            replace ev54 := Lib.hid ev54
            clear hO hD
            refine wanted_if rfl ?_
            refine wp_load_mid 44 (.tmp 54) rfl gO (t * 2) ev54.out (ordC (f : Int) (s : Int)) _ (HR.out _ (HC.out _ (below_plus _ _ _)).1) r1 r2 (szOr _ _) ?_
            exact hK.out _ _ (Ex.refl _) rfl
          apply Steps.one (MP.eq _) 5 rfl
          · intro o ho FA x hO hD K hK
            obtain rfl := Option.some.inj ho.symm
            clear ho
            have e11 := hO 11 (by kernel_rfl)
            simp only [eval_tmp, List.getElem?_toArray, List.getElem?_cons_succ, List.getElem?_cons_zero, Option.getD_some] at e11
            have ev11 := Lib.hid ((eval_tmp FA 11).trans e11)
            clear hO hD
            go_simp
            exact hK.out _ _ (Ex.refl _) rfl
          apply Steps.one (MP.eq _) 6 rfl
          · intro o ho FA x hO hD K hK
            obtain rfl := Option.some.inj ho.symm
            clear ho
            have e14 := hO 14 (by kernel_rfl)
            simp only [eval_tmp, List.getElem?_toArray, List.getElem?_cons_succ, List.getElem?_cons_zero, Option.getD_some] at e14
            have ev14 := Lib.hid ((eval_tmp FA 14).trans e14)
            clear hO hD
            go_simp
            exact hK.out _ _ (Ex.refl _) rfl
          apply Steps.one (MP.eq _) 7 rfl
          · intro o ho FA x hO hD K hK
            obtain rfl := Option.some.inj ho.symm
            clear ho
            have ev56 : FA.eval (.tmp 56) = _ := hD 4 56 (by kernel_rfl)
            have e56 := (eval_tmp FA 56).symm.trans ev56
            replace ev56 := Lib.hid ev56
            have ev57 : FA.eval (.tmp 57) = _ := hD 5 57 (by kernel_rfl)
            have e57 := (eval_tmp FA 57).symm.trans ev57
            replace ev57 := Lib.hid ev57
            clear hO hD
            go_simp
            exact hK.out _ _ (Ex.refl _) rfl
          apply Steps.one (MP.eq _) 8 rfl
          · intro o ho FA x hO hD K hK
            obtain rfl := Option.some.inj ho.symm
            clear ho
            have ev58 : FA.eval (.tmp 58) = _ := hD 6 58 (by kernel_rfl)
            have e58 := (eval_tmp FA 58).symm.trans ev58
            replace ev58 := Lib.hid ev58
            clear hO hD
            have q9 := (HC.out (plus wr x.bs x.d) (below_plus _ _ _)).2
            go_simp
            exact hK.out _ _ (Ex.refl _) rfl
          apply Steps.one (MP.eq _) 9 rfl
          · intro o ho FA x hO hD K hK
            obtain rfl := Option.some.inj ho.symm
            clear ho
            have e1 := hO 1 (by kernel_rfl)
            simp only [eval_tmp, List.getElem?_toArray, List.getElem?_cons_succ, List.getElem?_cons_zero, Option.getD_some] at e1
            have ev1 := Lib.hid ((eval_tmp FA 1).trans e1)
            clear hO hD
            go_simp
            exact hK.out _ _ (Ex.refl _) rfl
          apply Steps.one (MP.eq _) 10 rfl
          · intro o ho FA x hO hD K hK
            obtain rfl := Option.some.inj ho.symm
            clear ho
            have ev55 : FA.eval (.tmp 55) = _ := hD 3 55 (by kernel_rfl)
            have e55 := (eval_tmp FA 55).symm.trans ev55
            replace ev55 := Lib.hid ev55
            have ev59 : FA.eval (.tmp 59) = _ := hD 7 59 (by kernel_rfl)
            have e59 := (eval_tmp FA 59).symm.trans ev59
            replace ev59 := Lib.hid ev59
            have ev60 : FA.eval (.tmp 60) = _ := hD 8 60 (by kernel_rfl)
            have e60 := (eval_tmp FA 60).symm.trans ev60
            replace ev60 := Lib.hid ev60
            clear hO hD
            go_simp
            refine (HA.out c9 _ (by omega)).mono ?_
            rintro e w1 ⟨bs2, d2, rfl, rfl⟩
            exact hK.out _ _ (Ex.plus_ _ _ _) rfl
          apply Steps.one (MP.eq _) 11 rfl
          · intro o ho FA x hO hD K hK
            obtain rfl := Option.some.inj ho.symm
            clear ho
            have ev61 : FA.eval (.tmp 61) = _ := hD 9 61 (by kernel_rfl)
            have e61 := (eval_tmp FA 61).symm.trans ev61
            replace ev61 := Lib.hid ev61
            clear hO hD
            go_simp
            exact hK.out _ _ (Ex.refl _) rfl
          refine Steps.fin_ (fun vs x hp => ?_)
          have p0 : vs 0 = _ := hp 0 (by omega)
          have p1 : vs 1 = _ := hp 1 (by omega)
          have p2 : vs 2 = _ := hp 2 (by omega)
          have p3 : vs 3 = _ := hp 3 (by omega)
          have p4 : vs 4 = _ := hp 4 (by omega)
          have p5 : vs 5 = _ := hp 5 (by omega)
          have p6 : vs 6 = _ := hp 6 (by omega)
          have p7 : vs 7 = _ := hp 7 (by omega)
          have p8 : vs 8 = _ := hp 8 (by omega)
          have p9 : vs 9 = _ := hp 9 (by omega)
          have p10 : vs 10 = _ := hp 10 (by omega)
          clear hp
          simp only [List.take_succ_cons, List.take_zero, List.drop_succ_cons, List.drop_zero, putAll, Nat.zero_add, Nat.reduceAdd, Act.put, List.setIfInBounds_toArray, List.set_cons_zero, List.set_cons_succ, p0, p1, p2, p3, p4, p5, p6, p7, p8, p9, p10]
          clear p0 p1 p2 p3 p4 p5 p6 p7 p8 p9 p10
          clear vs
          have bz := below_plus wr x.bs x.d
          replace hS := hS.later bz
          replace hN := hN.later bz
          replace hB := hB.later bz
          replace hTb := hTb.later bz
          have hat2 : ∀ j (hj : j < l.length), (plus wr x.bs x.d).cell? ⟨bl, ol + j, none⟩ = some (.int .i64 l[j]) := fun j hj => by
            have h9 := HAT.out j hj
            rw [← h9]
            exact bz.cell (p := ⟨bl, ol + j, none⟩) (lt_of_cell h9)
          replace HAT := Lib.hid hat2
          replace hE := belowP hE x.bs x.d
          clear bz hat2 hcellm
          generalize plus wr x.bs x.d = W1 at *
          go_upto_region 16 with (fail)
          have HS1 := Lib.hid hS
          have HN1 := Lib.hid hN
          have HB1 := Lib.hid hB
          have HTB1 := Lib.hid hTb
          have HE1 := Lib.hid hE
          clear hS hN hB hTb hE HC
          go_loopw [15] (fun A15 wr => ∃ i : Nat, A15 = .int .i64 ((ordA f s p i : Nat) : Int) ∧ i ≤ q ∧ Bk wr gS 3 (its T) ∧ Bk wr gN 3 (its (nx.set t (i : Int))) ∧ Bk wr gO 44 cs ∧ Bk wr (w.heap.size + 1) 27 [.slice none 0 0] ∧ (∀ j (hj : j < l.length), wr.cell? ⟨bl, ol + j, none⟩ = some (.int .i64 l[j])) ∧ Below w.heap.size w wr) (fun _ wr => q - (intOf ((wr.cell? ⟨gN, t, none⟩).getD undef)).toNat)
          case atStart => exact ⟨c9, rfl, hcq, HS1.out, HN1.out, HB1.out, HTB1.out, HAT.out, HE1.out⟩
          case round =>
            clear HS1 HN1 HB1 HTB1 HE1 HAT HSET0
            obtain ⟨i, rfl, hiq, hS, hN, hB, hTb, hat, hE⟩ := hrel
            have HAT := Lib.hid hat
            clear hat
            have hqp := HQ.out.1
            have hap := ordA_lt f s p i (by omega)
            have haT : ordA f s p i < T.length := by omega
            have hcS := (hS.cell (ordA f s p i)).trans (its_at T _ haT)
            have hv := List.getElem?_eq_getElem haT
            obtain ⟨v, hv2⟩ : ∃ v, T[ordA f s p i] = v := ⟨_, rfl⟩
            rw [hv2] at hcS hv
            clear hv2
            have hcN := (hN.cell t).trans (ITT.out i)
            have iap : ((ordA f s p i : Nat) : Int) < (p : Int) := by omega
            by_cases hlq : i < q
            · have hne : v ≠ 0 := fun e => HQ.out.2.2 i hlq (by rw [hv, e])
              have b1 : (v == 0) = false := by simp [hne]
              have b2 : ¬ v = 0 := hne
              have hfz := hN.frozen t
              have hN2 := hN.set_ t (.int .i64 ((i + 1 : Nat) : Int))
              rw [its_set, List.set_set] at hN2
              have HN2 := Lib.hid hN2
              have hbN : w.heap.size ≤ gN := by omega
              have e1 : ((i + 1 : Nat) : Int) = (i : Int) + 1 := rfl
              have HM3 := Lib.hid (show q - (intOf ((wr.cell? ⟨gN, t, none⟩).getD undef)).toNat = q - i from by rw [hcN]; rfl)
              have w1 : IntKind.i64.wrap ((i : Int) + 1) = (i : Int) + 1 := IntWalk.i64_in _ (by omega)
              clear hv hne hN2
              go_upto_region 18 with (fail)
              obtain ⟨W2, hW2⟩ : ∃ W2, W2 = wr.setCell ⟨gN, t, none⟩ (.int .i64 ((i + 1 : Nat) : Int)) := ⟨_, rfl⟩
              have hN3 : Bk W2 gN 3 (its (nx.set t ((i + 1 : Nat) : Int))) := by rw [hW2]; exact HN2.out
              have hS3 : Bk W2 gS 3 (its T) := by rw [hW2]; exact hS.far (by simp; omega) _
              have hB3 : Bk W2 gO 44 cs := by rw [hW2]; exact hB.far (by simp; omega) _
              have hTb3 : Bk W2 (w.heap.size + 1) 27 [.slice none 0 0] := by rw [hW2]; exact hTb.far (by simp; omega) _
              have hE3 : Below w.heap.size w W2 := by rw [hW2]; exact hE.setCell (by simp; omega) _
              have hat3 : ∀ j (hj : j < l.length), W2.cell? ⟨bl, ol + j, none⟩ = some (.int .i64 l[j]) := fun j hj => by
                rw [hW2, World.cell?_setCell_other _ _ _ _ (by intro e; injection e with e1 e2; omega)]
                exact HAT.out j hj
              have HAT3 := Lib.hid hat3
              clear hat3 HAT hcS hcN HN2 hS hN hB hTb hE hfz b1 b2
              rw [e1] at hW2
              rw [← hW2]
              clear hW2 e1
              have HC := Lib.hid (fun (W : World) (h : Below W2.heap.size W2 W) => show Bk W gO 44 cs ∧ W.cell? ⟨gN, t, none⟩ = some (.int .i64 ((i + 1 : Nat) : Int)) from ⟨hB3.later h, ((hN3.later h).cell t).trans (ITT.out (i + 1))⟩)
              go_wp2
              refine wp_relS 11 93 rfl (by kernel_rfl) (by kernel_rfl) ?_
              apply Steps.one (MP.eq _) 1 rfl
              · intro o ho FA x hO hD K hK
                obtain rfl := Option.some.inj ho.symm
                clear ho
                have e8 := hO 8 (by kernel_rfl)
                simp only [eval_tmp, List.getElem?_toArray, List.getElem?_cons_succ, List.getElem?_cons_zero, Option.getD_some] at e8
                have ev8 := Lib.hid ((eval_tmp FA 8).trans e8)
                clear hO hD
                go_simp
                exact hK.out _ _ (Ex.refl _) rfl
              apply Steps.one (MP.eq _) 2 rfl
              · intro o ho FA x hO hD K hK
                obtain rfl := Option.some.inj ho.symm
                clear ho
                have e14 := hO 14 (by kernel_rfl)
                simp only [eval_tmp, List.getElem?_toArray, List.getElem?_cons_succ, List.getElem?_cons_zero, Option.getD_some] at e14
                have ev14 := Lib.hid ((eval_tmp FA 14).trans e14)
                clear hO hD
                go_simp
                exact hK.out _ _ (Ex.refl _) rfl
              apply Steps.one (MP.eq _) 3 rfl
              · intro o ho FA x hO hD K hK
                obtain rfl := Option.some.inj ho.symm
                clear ho
                have ev73 : FA.eval (.tmp 73) = _ := hD 0 73 (by kernel_rfl)
                have e73 := (eval_tmp FA 73).symm.trans ev73
                replace ev73 := Lib.hid ev73
                have ev74 : FA.eval (.tmp 74) = _ := hD 1 74 (by kernel_rfl)
                have e74 := (eval_tmp FA 74).symm.trans ev74
                replace ev74 := Lib.hid ev74
                clear hO hD
                go_simp
                exact hK.out _ _ (Ex.refl _) rfl
              apply Steps.one (MP.eq _) 4 rfl
              · intro o ho FA x hO hD K hK
                obtain rfl := Option.some.inj ho.symm
                clear ho
                have ev75 : FA.eval (.tmp 75) = _ := hD 2 75 (by kernel_rfl)
                have e75 := (eval_tmp FA 75).symm.trans ev75
                replace ev75 := Lib.hid ev75
                clear hO hD
                refine wanted_if rfl ?_
                refine wp_load_mid 44 (.tmp 75) rfl gO (t * 2) ev75.out (ordC (f : Int) (s : Int)) _ (HR.out _ (HC.out _ (below_plus _ _ _)).1) r1 r2 (szOr _ _) ?_
                exact hK.out _ _ (Ex.refl _) rfl
              apply Steps.one (MP.eq _) 5 rfl
              · intro o ho FA x hO hD K hK
                obtain rfl := Option.some.inj ho.symm
                clear ho
                have e11 := hO 11 (by kernel_rfl)
                simp only [eval_tmp, List.getElem?_toArray, List.getElem?_cons_succ, List.getElem?_cons_zero, Option.getD_some] at e11
                have ev11 := Lib.hid ((eval_tmp FA 11).trans e11)
                clear hO hD
                go_simp
                exact hK.out _ _ (Ex.refl _) rfl
              apply Steps.one (MP.eq _) 6 rfl
              · intro o ho FA x hO hD K hK
                obtain rfl := Option.some.inj ho.symm
                clear ho
                have e14 := hO 14 (by kernel_rfl)
                simp only [eval_tmp, List.getElem?_toArray, List.getElem?_cons_succ, List.getElem?_cons_zero, Option.getD_some] at e14
                have ev14 := Lib.hid ((eval_tmp FA 14).trans e14)
                clear hO hD
                go_simp
                exact hK.out _ _ (Ex.refl _) rfl
              apply Steps.one (MP.eq _) 7 rfl
              · intro o ho FA x hO hD K hK
                obtain rfl := Option.some.inj ho.symm
                clear ho
                have ev77 : FA.eval (.tmp 77) = _ := hD 4 77 (by kernel_rfl)
                have e77 := (eval_tmp FA 77).symm.trans ev77
                replace ev77 := Lib.hid ev77
                have ev78 : FA.eval (.tmp 78) = _ := hD 5 78 (by kernel_rfl)
                have e78 := (eval_tmp FA 78).symm.trans ev78
                replace ev78 := Lib.hid ev78
                clear hO hD
                go_simp
                exact hK.out _ _ (Ex.refl _) rfl
              apply Steps.one (MP.eq _) 8 rfl
              · intro o ho FA x hO hD K hK
                obtain rfl := Option.some.inj ho.symm
                clear ho
                have ev79 : FA.eval (.tmp 79) = _ := hD 6 79 (by kernel_rfl)
                have e79 := (eval_tmp FA 79).symm.trans ev79
                replace ev79 := Lib.hid ev79
                clear hO hD
                have q9 := (HC.out (plus W2 x.bs x.d) (below_plus _ _ _)).2
                go_simp
                exact hK.out _ _ (Ex.refl _) rfl
              apply Steps.one (MP.eq _) 9 rfl
              · intro o ho FA x hO hD K hK
                obtain rfl := Option.some.inj ho.symm
                clear ho
                have e1 := hO 1 (by kernel_rfl)
                simp only [eval_tmp, List.getElem?_toArray, List.getElem?_cons_succ, List.getElem?_cons_zero, Option.getD_some] at e1
                have ev1 := Lib.hid ((eval_tmp FA 1).trans e1)
                clear hO hD
                go_simp
                exact hK.out _ _ (Ex.refl _) rfl
              apply Steps.one (MP.eq _) 10 rfl
              · intro o ho FA x hO hD K hK
                obtain rfl := Option.some.inj ho.symm
                clear ho
                have ev76 : FA.eval (.tmp 76) = _ := hD 3 76 (by kernel_rfl)
                have e76 := (eval_tmp FA 76).symm.trans ev76
                replace ev76 := Lib.hid ev76
                have ev80 : FA.eval (.tmp 80) = _ := hD 7 80 (by kernel_rfl)
                have e80 := (eval_tmp FA 80).symm.trans ev80
                replace ev80 := Lib.hid ev80
                have ev81 : FA.eval (.tmp 81) = _ := hD 8 81 (by kernel_rfl)
                have e81 := (eval_tmp FA 81).symm.trans ev81
                replace ev81 := Lib.hid ev81
                clear hO hD
                go_simp
                refine (HA.out (i + 1) _ (by omega)).mono ?_
                rintro e w1 ⟨bs2, d2, rfl, rfl⟩
                exact hK.out _ _ (Ex.plus_ _ _ _) rfl
              apply Steps.one (MP.eq _) 11 rfl
              · intro o ho FA x hO hD K hK
                obtain rfl := Option.some.inj ho.symm
                clear ho
                have ev82 : FA.eval (.tmp 82) = _ := hD 9 82 (by kernel_rfl)
                have e82 := (eval_tmp FA 82).symm.trans ev82
                replace ev82 := Lib.hid ev82
                clear hO hD
                go_simp
                exact hK.out _ _ (Ex.refl _) rfl
              refine Steps.fin_ (fun vs x hp => ?_)
              have p0 : vs 0 = _ := hp 0 (by omega)
              have p1 : vs 1 = _ := hp 1 (by omega)
              have p2 : vs 2 = _ := hp 2 (by omega)
              have p3 : vs 3 = _ := hp 3 (by omega)
              have p4 : vs 4 = _ := hp 4 (by omega)
              have p5 : vs 5 = _ := hp 5 (by omega)
              have p6 : vs 6 = _ := hp 6 (by omega)
              have p7 : vs 7 = _ := hp 7 (by omega)
              have p8 : vs 8 = _ := hp 8 (by omega)
              have p9 : vs 9 = _ := hp 9 (by omega)
              have p10 : vs 10 = _ := hp 10 (by omega)
              clear hp
              simp only [List.take_succ_cons, List.take_zero, List.drop_succ_cons, List.drop_zero, putAll, Nat.zero_add, Nat.reduceAdd, Act.put, List.setIfInBounds_toArray, List.set_cons_zero, List.set_cons_succ, p0, p1, p2, p3, p4, p5, p6, p7, p8, p9, p10]
              clear p0 p1 p2 p3 p4 p5 p6 p7 p8 p9 p10
              clear vs
              have bz := below_plus W2 x.bs x.d
              have hcN4 := ((hN3.later bz).cell t).trans (ITT.out (i + 1))
              have HM4 := Lib.hid (show q - (intOf (((plus W2 x.bs x.d).cell? ⟨gN, t, none⟩).getD undef)).toNat = q - (i + 1) from by rw [hcN4]; rfl)
              have hat4 : ∀ j (hj : j < l.length), (plus W2 x.bs x.d).cell? ⟨bl, ol + j, none⟩ = some (.int .i64 l[j]) := fun j hj => by
                have h9 := HAT3.out j hj
                rw [← h9]
                exact bz.cell (p := ⟨bl, ol + j, none⟩) (lt_of_cell h9)
              have HAT4 := Lib.hid hat4
              clear hat4 hcN4
              go_wp2
              exact ⟨⟨i + 1, rfl, by omega, hS3.later bz, hN3.later bz, hB3.later bz, hTb3.later bz, HAT4.out, belowP hE3 _ _⟩, by rw [HM4.out, HM3.out]; omega⟩
            · obtain rfl : i = q := by omega
              obtain rfl : v = 0 := by
                have h9 := HQ.out.2.1
                rw [hv] at h9
                injection h9
              have hset := hS.set_ (ordA f s p i) (.int .i64 (mm : Int))
              rw [its_set, ← HST.out] at hset
              have HSET := Lib.hid hset
              have hfz := hS.frozen (ordA f s p i)
              have hcm := HAT.out t (by omega)
              rw [HMM.out (by omega)] at hcm
              have HN3 := Lib.hid (show ∀ u, Bk (wr.setCell ⟨gS, ordA f s p i, none⟩ u) gN 3 (its (nx.set t (i : Int))) from fun u => hN.far (by simp; omega) u)
              have HB3 := Lib.hid (show ∀ u, Bk (wr.setCell ⟨gS, ordA f s p i, none⟩ u) gO 44 cs from fun u => hB.far (by simp; omega) u)
              have HTB3 := Lib.hid (show ∀ u, Bk (wr.setCell ⟨gS, ordA f s p i, none⟩ u) (w.heap.size + 1) 27 [.slice none 0 0] from fun u => hTb.far (by simp; omega) u)
              have HAT3 := Lib.hid (show ∀ u j (hj : j < l.length), (wr.setCell ⟨gS, ordA f s p i, none⟩ u).cell? ⟨bl, ol + j, none⟩ = some (.int .i64 l[j]) from fun u j hj => by
                rw [World.cell?_setCell_other _ _ _ _ (by intro e; injection e with e1 e2; omega)]
                exact HAT.out j hj)
              have HE3 := Lib.hid (show ∀ u, Below w.heap.size w (wr.setCell ⟨gS, ordA f s p i, none⟩ u) from fun u => hE.setCell (by simp; omega) u)
              clear hset hv hS hN hB hTb hE HAT hcN
              generalize ordA f s p i = a at *
              go_wp2
              exact ⟨⟨k + 1, _, by go_num, by omega, HSET.out, HN3.out _, HNXS.out, HB3.out _, HTB3.out _, HAT3.out _, HE3.out _⟩, by simp [intOf]; omega⟩
        · obtain rfl : p = k := by omega
          have ik : ¬ (p : Int) < (p : Int) := by omega
          go_upto_region 21 with (fail)
          refine wp_region_lit ?_
          iterate 2 (refine wpList_plain rfl (fun K hK => ?_); go_simp; with_reducible refine hK _ _ ?_; clear hK K)
          refine wpList_stA (t := 27) 27 (.tmp 6) (.tmp 92) rfl rfl (tbC (some ⟨gS, 0, none⟩) p p) [.slice none 0 0] rfl (tbC_one _ _ _) rfl rfl hTb (szTb _ _ _) ?_
          intro W9 h9 g9
          go_wp2
          refine bodyPost_agg2 Tryd.results6 rfl rfl h9.range o1 o2 (szTb _ _ _) rfl ?_
          have hS9 := hS.grown g9 (by simp; omega)
          have hE9 := below_grown hE g9 (by omega)
          obtain ⟨bs, dd, rfl⟩ := plus_of hE9
          have hlen := magT_len key l p p
          refine ⟨some ⟨gS, 0, none⟩, p, bs, dd, by rw [hlen]; rfl, rfl, ?_⟩
          rw [hlen]
          exact Rs.of_bk hS9 (by rw [its_len, hlen, Nat.mul_one]) (Nat.le_refl _)
end Go.Proofs.YtknoenceccpkhaaDoor

/- A table's Len, At, Pick, Moved (chapter 42). -/
namespace Go.Proofs.YtknoenceccpkhaaDoor
open Go.RowKit
set_option linter.unusedVariables false
set_option linter.unusedSimpArgs false
attribute [local go_sem ↓] sliced_cut

attribute [local go_sem] cutA_zero

/-- who stands at a place -/
def getZ (T : List Int) (i : Int) : Int := if 0 ≤ i ∧ i < T.length then T.getD i.toNat 0 else 0
theorem getZ_lo (T : List Int) (i : Int) (h : i < 0) : getZ T i = 0 := by unfold getZ; rw [if_neg (by omega)]
theorem getZ_hi (T : List Int) (i : Int) (h : (T.length : Int) ≤ i) : getZ T i = 0 := by unfold getZ; rw [if_neg (by omega)]
theorem getZ_in (T : List Int) (i : Nat) (h : i < T.length) : getZ T (i : Int) = T[i] := by unfold getZ; rw [if_pos (by omega), Int.toNat_natCast, getD_some h]
set_option maxHeartbeats 4000000 in
set_option maxRecDepth 100000 in
theorem len_tb (A : Option Addr) (n c : Nat) (w : World) : Calls Tryd.prog 8 #[.agg (tbC A n c).toArray] w (RetV w (.int .i64 (n : Int))) := by
  obtain ⟨do1, o1, o2⟩ := rowTb
  have ht : Bk (w.alloc (.cells (tbC A n c).toArray 27)) w.heap.size 27 (tbC A n c) := Bk.new w 27 (tbC A n c).toArray
  have be : Below w.heap.size w (w.alloc (.cells (tbC A n c).toArray 27)) := Below.allocS (Below.refl _ _) _
  have zV : w.heap.size + 1 ≤ (w.alloc (.cells (tbC A n c).toArray 27)).heap.size := by simp
  go_enter Tryd.func8, Tryd.ntmps8
  go_upto_region 1 with (fail)
  generalize w.alloc (.cells (tbC A n c).toArray 27) = V at *
  have q0 : V.cell? ⟨w.heap.size, 0, none⟩ = some (.slice A n c) := ht.cell 0
  go_wp2
  go_ret
  exact RetV.mk be
set_option maxHeartbeats 4000000 in
set_option maxRecDepth 100000 in
theorem at_tb (T : List Int) (i : Int) (A : Option Addr) (n c : Nat) (w : World) (hr : Rs 1 w A n c (its T)) (hlo : -9223372036854775808 ≤ i) (hhi : i ≤ 9223372036854775807) : Calls Tryd.prog 9 #[.agg (tbC A n c).toArray, .int .i64 i] w (RetV w (.int .i64 (getZ T i))) := by
  have hln : T.length = n := by have := hr.1; rw [its_len] at this; omega
  by_cases h0 : i < 0
  · rw [getZ_lo T i h0]
    obtain ⟨do1, o1, o2⟩ := rowTb
    have ht : Bk (w.alloc (.cells (tbC A n c).toArray 27)) w.heap.size 27 (tbC A n c) := Bk.new w 27 (tbC A n c).toArray
    have be : Below w.heap.size w (w.alloc (.cells (tbC A n c).toArray 27)) := Below.allocS (Below.refl _ _) _
    have zV : w.heap.size + 1 ≤ (w.alloc (.cells (tbC A n c).toArray 27)).heap.size := by simp
    go_enter Tryd.func9, Tryd.ntmps9
    go_upto_region 1 with (fail)
    generalize w.alloc (.cells (tbC A n c).toArray 27) = V at *
    have q0 : V.cell? ⟨w.heap.size, 0, none⟩ = some (.slice A n c) := ht.cell 0
    go_wp2
    go_ret
    exact RetV.mk be
  by_cases h1 : (n : Int) ≤ i
  · rw [getZ_hi T i (by omega)]
    obtain ⟨do1, o1, o2⟩ := rowTb
    have ht : Bk (w.alloc (.cells (tbC A n c).toArray 27)) w.heap.size 27 (tbC A n c) := Bk.new w 27 (tbC A n c).toArray
    have be : Below w.heap.size w (w.alloc (.cells (tbC A n c).toArray 27)) := Below.allocS (Below.refl _ _) _
    have zV : w.heap.size + 1 ≤ (w.alloc (.cells (tbC A n c).toArray 27)).heap.size := by simp
    go_enter Tryd.func9, Tryd.ntmps9
    go_upto_region 1 with (fail)
    generalize w.alloc (.cells (tbC A n c).toArray 27) = V at *
    have q0 : V.cell? ⟨w.heap.size, 0, none⟩ = some (.slice A n c) := ht.cell 0
    go_wp2
    go_ret
    exact RetV.mk be
  obtain ⟨j, rfl⟩ := Int.eq_ofNat_of_zero_le (show 0 ≤ i by omega)
  have hj : j < T.length := by omega
  have ijn : (j : Int) < (n : Int) := by omega
  rw [getZ_in T j hj]
  obtain ⟨bl, ol, rfl, hbl, hat⟩ := hr.ints_ (by omega)
  obtain ⟨v, hv⟩ : ∃ v, T[j] = v := ⟨_, rfl⟩
  rw [hv]
  have HAT := Lib.hid (show ∀ w', Below w.heap.size w w' → w'.cell? ⟨bl, ol + j, none⟩ = some (.int .i64 v) from fun w' h => by rw [← hv]; exact hat j hj w' h)
  clear hv hat
  obtain ⟨do1, o1, o2⟩ := rowTb
  have ht : Bk (w.alloc (.cells (tbC (some ⟨bl, ol, none⟩) n c).toArray 27)) w.heap.size 27 (tbC (some ⟨bl, ol, none⟩) n c) := Bk.new w 27 (tbC (some ⟨bl, ol, none⟩) n c).toArray
  have be : Below w.heap.size w (w.alloc (.cells (tbC (some ⟨bl, ol, none⟩) n c).toArray 27)) := Below.allocS (Below.refl _ _) _
  have zV : w.heap.size + 1 ≤ (w.alloc (.cells (tbC (some ⟨bl, ol, none⟩) n c).toArray 27)).heap.size := by simp
  go_enter Tryd.func9, Tryd.ntmps9
  go_upto_region 1 with (fail)
  generalize w.alloc (.cells (tbC (some ⟨bl, ol, none⟩) n c).toArray 27) = V at *
  have q0 : V.cell? ⟨w.heap.size, 0, none⟩ = some (.slice (some ⟨bl, ol, none⟩) n c) := ht.cell 0
  have q1 := HAT.out V be
  go_wp2
  go_ret
  exact RetV.mk be
noncomputable def pickZ (key b : List UInt8) (T : List Int) : Int := if T.length = 0 then 0 else T.getD ((sip key b).toNat % T.length) 0
set_option maxHeartbeats 4000000 in
set_option maxRecDepth 100000 in
theorem pick_tb (key : List UInt8) (hk0 : K16 key) (T : List Int) (A : Option Addr) (n c : Nat) (B : Option Addr) (nb cb : Nat) (b : List UInt8) (w : World) (hr : Rs 1 w A n c (its T)) (hb : Rb w B nb cb b) (hn : n ≤ 3000) (hnb : nb ≤ 1000) : Calls Tryd.prog 10 #[.agg (tbC A n c).toArray, .agg (bcs key).toArray, .slice B nb cb] w (RetV w (.int .i64 (pickZ key b T))) := by
  have hln : T.length = n := by have := hr.1; rw [its_len] at this; omega
  obtain ⟨dk, u1, u2, u3⟩ := rowKey
  by_cases h0 : n = 0
  · have e : pickZ key b T = 0 := by unfold pickZ; rw [if_pos (by omega)]
    rw [e]
    subst h0
    obtain ⟨do1, o1, o2⟩ := rowTb
    have ht : Bk ((w.alloc (.cells (tbC A 0 c).toArray 27)).alloc (.cells (bcs key).toArray 41)) w.heap.size 27 (tbC A 0 c) := (Bk.new w 27 (tbC A 0 c).toArray).alloc _
    have hk : Bk ((w.alloc (.cells (tbC A 0 c).toArray 27)).alloc (.cells (bcs key).toArray 41)) (w.heap.size + 1) 41 (bcs key) := Bk.newK _ _ _ (by simp) rfl
    have be : Below w.heap.size w ((w.alloc (.cells (tbC A 0 c).toArray 27)).alloc (.cells (bcs key).toArray 41)) := Below.allocS (Below.allocS (Below.refl _ _) _) _
    have zV : w.heap.size + 2 ≤ ((w.alloc (.cells (tbC A 0 c).toArray 27)).alloc (.cells (bcs key).toArray 41)).heap.size := by simp
    go_enter Tryd.func10, Tryd.ntmps10
    go_upto_region 1 with (fail)
    generalize (w.alloc (.cells (tbC A 0 c).toArray 27)).alloc (.cells (bcs key).toArray 41) = V at *
    have q0 : V.cell? ⟨w.heap.size, 0, none⟩ = some (.slice A 0 c) := ht.cell 0
    go_wp2
    go_ret
    exact RetV.mk be
  · have in0 : ((n : Int) == 0) = false := by simp; omega
    have in1 : ¬ (n : Int) = 0 := by omega
    have in2 : ¬ n = 0 := h0
    have e : pickZ key b T = T.getD ((sip key b).toNat % n) 0 := by unfold pickZ; rw [if_neg (by omega), hln]
    rw [e]
    clear e
    have HSU := Lib.hid (fun w (h : Rb w B nb cb b) => sum_any key hk0 B nb cb b w h (by omega))
    generalize sip key b = Y at *
    have hY := UInt64.toNat_lt Y
    generalize Y.toNat = X at *
    have t1 : Int.tmod (X : Int) (n : Int) = ((X % n : Nat) : Int) := rfl
    have t2 : (X : Int) % (n : Int) = ((X % n : Nat) : Int) := rfl
    have hj : X % n < n := Nat.mod_lt _ (by omega)
    generalize X % n = j at *
    have ijn : (j : Int) < (n : Int) := by omega
    have wn : IntKind.u64.wrap (n : Int) = (n : Int) := IntWalk.u64_in _ (by omega)
    have hjT : j < T.length := by omega
    rw [getD_some hjT]
    obtain ⟨bl, ol, rfl, hbl, hat⟩ := hr.ints_ (by omega)
    obtain ⟨v, hv⟩ : ∃ v, T[j] = v := ⟨_, rfl⟩
    rw [hv]
    have HAT := Lib.hid (show ∀ w', Below w.heap.size w w' → w'.cell? ⟨bl, ol + j, none⟩ = some (.int .i64 v) from fun w' h => by rw [← hv]; exact hat j hjT w' h)
    clear hv hat
    obtain ⟨do1, o1, o2⟩ := rowTb
    have ht : Bk ((w.alloc (.cells (tbC (some ⟨bl, ol, none⟩) n c).toArray 27)).alloc (.cells (bcs key).toArray 41)) w.heap.size 27 (tbC (some ⟨bl, ol, none⟩) n c) := (Bk.new w 27 (tbC (some ⟨bl, ol, none⟩) n c).toArray).alloc _
    have hk : Bk ((w.alloc (.cells (tbC (some ⟨bl, ol, none⟩) n c).toArray 27)).alloc (.cells (bcs key).toArray 41)) (w.heap.size + 1) 41 (bcs key) := Bk.newK _ _ _ (by simp) rfl
    have be : Below w.heap.size w ((w.alloc (.cells (tbC (some ⟨bl, ol, none⟩) n c).toArray 27)).alloc (.cells (bcs key).toArray 41)) := Below.allocS (Below.allocS (Below.refl _ _) _) _
    have zV : w.heap.size + 2 ≤ ((w.alloc (.cells (tbC (some ⟨bl, ol, none⟩) n c).toArray 27)).alloc (.cells (bcs key).toArray 41)).heap.size := by simp
    go_enter Tryd.func10, Tryd.ntmps10
    go_upto_region 1 with (fail)
    generalize (w.alloc (.cells (tbC (some ⟨bl, ol, none⟩) n c).toArray 27)).alloc (.cells (bcs key).toArray 41) = V at *
    have q0 : V.cell? ⟨w.heap.size, 0, none⟩ = some (.slice (some ⟨bl, ol, none⟩) n c) := ht.cell 0
    go_upto_region 3 with (fail)
    have HC := Lib.hid (fun (W : World) (h : Below V.heap.size V W) => show W.cell? ⟨w.heap.size, 0, none⟩ = some (.slice (some ⟨bl, ol, none⟩) n c) ∧ W.cell? ⟨bl, ol + j, none⟩ = some (.int .i64 v) from ⟨(ht.later h).cell 0, HAT.out W (be.trans (h.mono be.size))⟩)
    have HRB := Lib.hid (fun (W : World) (h : Below V.heap.size V W) => (hb.later (be.trans (h.mono be.size)) : Rb W B nb cb b))
    go_wp2
    refine wp_relS 13 23 rfl (by kernel_rfl) (by kernel_rfl) ?_
    apply Steps.one (MP.eq _) 1 rfl
    · intro o ho FA x hO hD K hK
      obtain rfl := Option.some.inj ho.symm
      clear ho
      have e3 := hO 3 (by kernel_rfl)
      simp only [eval_tmp, List.getElem?_toArray, List.getElem?_cons_succ, List.getElem?_cons_zero, Option.getD_some] at e3
      have ev3 := Lib.hid ((eval_tmp FA 3).trans e3)
      clear hO hD
      go_simp
      exact hK.out _ _ (Ex.refl _) rfl
    apply Steps.one (MP.eq _) 2 rfl
    · intro o ho FA x hO hD K hK
      obtain rfl := Option.some.inj ho.symm
      clear ho
      have ev11 : FA.eval (.tmp 11) = _ := hD 0 11 (by kernel_rfl)
      have e11 := (eval_tmp FA 11).symm.trans ev11
      replace ev11 := Lib.hid ev11
      clear hO hD
      have q9 := (HC.out (plus V x.bs x.d) (below_plus _ _ _)).1
      go_simp
      exact hK.out _ _ (Ex.refl _) rfl
    apply Steps.one (MP.eq _) 3 rfl
    · intro o ho FA x hO hD K hK
      obtain rfl := Option.some.inj ho.symm
      clear ho
      have e4 := hO 4 (by kernel_rfl)
      simp only [eval_tmp, List.getElem?_toArray, List.getElem?_cons_succ, List.getElem?_cons_zero, Option.getD_some] at e4
      have ev4 := Lib.hid ((eval_tmp FA 4).trans e4)
      clear hO hD
      refine wanted_if rfl ?_
      refine wp_ldA 41 (.tmp 4) rfl (bcs key) ev4.out (hk.later (below_plus _ _ _)) (whole_ _) u1 u2 (szKey key hk0) ?_
      exact hK.out _ _ (Ex.refl _) rfl
    apply Steps.one (MP.eq _) 4 rfl
    · intro o ho FA x hO hD K hK
      obtain rfl := Option.some.inj ho.symm
      clear ho
      have e2 := hO 2 (by kernel_rfl)
      simp only [eval_tmp, List.getElem?_toArray, List.getElem?_cons_succ, List.getElem?_cons_zero, Option.getD_some] at e2
      have ev2 := Lib.hid ((eval_tmp FA 2).trans e2)
      clear hO hD
      go_simp
      exact hK.out _ _ (Ex.refl _) rfl
    apply Steps.one (MP.eq (.int .u64 (X : Int))) 5 rfl
    · intro o ho FA x hO hD K hK
      obtain rfl := Option.some.inj ho.symm
      clear ho
      have ev13 : FA.eval (.tmp 13) = _ := hD 2 13 (by kernel_rfl)
      have e13 := (eval_tmp FA 13).symm.trans ev13
      replace ev13 := Lib.hid ev13
      have ev14 : FA.eval (.tmp 14) = _ := hD 3 14 (by kernel_rfl)
      have e14 := (eval_tmp FA 14).symm.trans ev14
      replace ev14 := Lib.hid ev14
      clear hO hD
      go_simp
      refine (HSU.out _ (HRB.out _ (below_plus _ _ _))).mono ?_
      rintro e w1 ⟨bs2, d2, rfl, rfl⟩
      exact hK.out _ _ (Ex.plus_ _ _ _) rfl
    apply Steps.one (MP.eq _) 6 rfl
    · intro o ho FA x hO hD K hK
      obtain rfl := Option.some.inj ho.symm
      clear ho
      have e3 := hO 3 (by kernel_rfl)
      simp only [eval_tmp, List.getElem?_toArray, List.getElem?_cons_succ, List.getElem?_cons_zero, Option.getD_some] at e3
      have ev3 := Lib.hid ((eval_tmp FA 3).trans e3)
      clear hO hD
      go_simp
      exact hK.out _ _ (Ex.refl _) rfl
    apply Steps.one (MP.eq _) 7 rfl
    · intro o ho FA x hO hD K hK
      obtain rfl := Option.some.inj ho.symm
      clear ho
      have ev16 : FA.eval (.tmp 16) = _ := hD 5 16 (by kernel_rfl)
      have e16 := (eval_tmp FA 16).symm.trans ev16
      replace ev16 := Lib.hid ev16
      clear hO hD
      have q9 := (HC.out (plus V x.bs x.d) (below_plus _ _ _)).1
      go_simp
      exact hK.out _ _ (Ex.refl _) rfl
    apply Steps.one (MP.eq _) 8 rfl
    · intro o ho FA x hO hD K hK
      obtain rfl := Option.some.inj ho.symm
      clear ho
      have ev17 : FA.eval (.tmp 17) = _ := hD 6 17 (by kernel_rfl)
      have e17 := (eval_tmp FA 17).symm.trans ev17
      replace ev17 := Lib.hid ev17
      clear hO hD
      go_simp
      exact hK.out _ _ (Ex.refl _) rfl
    apply Steps.one (MP.eq _) 9 rfl
    · intro o ho FA x hO hD K hK
      obtain rfl := Option.some.inj ho.symm
      clear ho
      have ev18 : FA.eval (.tmp 18) = _ := hD 7 18 (by kernel_rfl)
      have e18 := (eval_tmp FA 18).symm.trans ev18
      replace ev18 := Lib.hid ev18
      clear hO hD
      go_simp
      exact hK.out _ _ (Ex.refl _) rfl
    apply Steps.one (MP.eq _) 10 rfl
    · intro o ho FA x hO hD K hK
      obtain rfl := Option.some.inj ho.symm
      clear ho
      have ev15 : FA.eval (.tmp 15) = _ := hD 4 15 (by kernel_rfl)
      have e15 := (eval_tmp FA 15).symm.trans ev15
      replace ev15 := Lib.hid ev15
      have ev19 : FA.eval (.tmp 19) = _ := hD 8 19 (by kernel_rfl)
      have e19 := (eval_tmp FA 19).symm.trans ev19
      replace ev19 := Lib.hid ev19
      clear hO hD
      go_simp
      exact hK.out _ _ (Ex.refl _) rfl
    apply Steps.one (MP.eq _) 11 rfl
    · intro o ho FA x hO hD K hK
      obtain rfl := Option.some.inj ho.symm
      clear ho
      have ev12 : FA.eval (.tmp 12) = _ := hD 1 12 (by kernel_rfl)
      have e12 := (eval_tmp FA 12).symm.trans ev12
      replace ev12 := Lib.hid ev12
      have ev20 : FA.eval (.tmp 20) = _ := hD 9 20 (by kernel_rfl)
      have e20 := (eval_tmp FA 20).symm.trans ev20
      replace ev20 := Lib.hid ev20
      clear hO hD
      go_simp
      exact hK.out _ _ (Ex.refl _) rfl
    apply Steps.one (MP.eq _) 12 rfl
    · intro o ho FA x hO hD K hK
      obtain rfl := Option.some.inj ho.symm
      clear ho
      have ev21 : FA.eval (.tmp 21) = _ := hD 10 21 (by kernel_rfl)
      have e21 := (eval_tmp FA 21).symm.trans ev21
      replace ev21 := Lib.hid ev21
      clear hO hD
      have q9 := (HC.out (plus V x.bs x.d) (below_plus _ _ _)).2
      go_simp
      exact hK.out _ _ (Ex.refl _) rfl
    apply Steps.one (MP.eq _) 13 rfl
    · intro o ho FA x hO hD K hK
      obtain rfl := Option.some.inj ho.symm
      clear ho
      have ev22 : FA.eval (.tmp 22) = _ := hD 11 22 (by kernel_rfl)
      have e22 := (eval_tmp FA 22).symm.trans ev22
      replace ev22 := Lib.hid ev22
      clear hO hD
      go_simp
      exact hK.out _ _ (Ex.refl _) rfl
    refine Steps.fin_ (fun vs x hp => ?_)
    have p0 : vs 0 = _ := hp 0 (by omega)
    have p1 : vs 1 = _ := hp 1 (by omega)
    have p2 : vs 2 = _ := hp 2 (by omega)
    have p3 : vs 3 = _ := hp 3 (by omega)
    have p4 : vs 4 = _ := hp 4 (by omega)
    have p5 : vs 5 = _ := hp 5 (by omega)
    have p6 : vs 6 = _ := hp 6 (by omega)
    have p7 : vs 7 = _ := hp 7 (by omega)
    have p8 : vs 8 = _ := hp 8 (by omega)
    have p9 : vs 9 = _ := hp 9 (by omega)
    have p10 : vs 10 = _ := hp 10 (by omega)
    have p11 : vs 11 = _ := hp 11 (by omega)
    have p12 : vs 12 = _ := hp 12 (by omega)
    clear hp
    simp only [List.take_succ_cons, List.take_zero, List.drop_succ_cons, List.drop_zero, putAll, Nat.zero_add, Nat.reduceAdd, Act.put, List.setIfInBounds_toArray, List.set_cons_zero, List.set_cons_succ, p0, p1, p2, p3, p4, p5, p6, p7, p8, p9, p10, p11, p12]
    clear p0 p1 p2 p3 p4 p5 p6 p7 p8 p9 p10 p11 p12
    clear vs
    go_wp2
    go_ret
    exact RetV.mk (belowP be x.bs x.d)
end Go.Proofs.YtknoenceccpkhaaDoor

/- counterfoillaw42.awake, MaglevBuilds' walk (chapter 42). -/
namespace Go.Proofs.YtknoenceccpkhaaDoor
open Go.RowKit
set_option linter.unusedVariables false
set_option linter.unusedSimpArgs false
attribute [local go_sem ↓] sliced_cut

attribute [local go_sem] cutA_zero

def keyM : List UInt8 := [1, 0, 0, 0, 0, 0, 0, 0, 0, 0, 0, 0, 0, 0, 0, 0]
theorem right_ex : RightL 7 [9] := ⟨by decide, by decide, by decide, by decide, by decide, by decide⟩
theorem magT_full (key : List UInt8) {l : List Int} {p : Nat} (hR : RightL p l) : ∀ x ∈ magT key l p p, x ∈ l := tabN_full hR (fun m => magF_lt key p _ (refP_two hR.1)) (fun m => magS_ok key p _ (refP_two hR.1))
theorem ex_at (i : Nat) (h : i < 7) : getZ (magT keyM [9] 7 7) (i : Int) = 9 := by
  have hl := magT_len keyM [9] 7 7
  rw [getZ_in _ i (by omega)]
  have := magT_full keyM right_ex _ (List.getElem_mem (show i < (magT keyM [9] 7 7).length by omega))
  simpa using this
set_option maxHeartbeats 4000000 in
set_option maxRecDepth 100000 in
theorem awake42 (w : World) (hTab : TabB w) : Calls Tryd.prog 5 #[] w (RetV w (.bool true)) := by
  have HB := Lib.hid (fun (A : Option Addr) W (hl : Rs 1 W A 1 1 (its [9])) (hT : TabB W) => (show Calls Tryd.prog 6 #[.agg #[.int .u8 1, .int .u8 0, .int .u8 0, .int .u8 0, .int .u8 0, .int .u8 0, .int .u8 0, .int .u8 0, .int .u8 0, .int .u8 0, .int .u8 0, .int .u8 0, .int .u8 0, .int .u8 0, .int .u8 0, .int .u8 0], .int .i64 7, .slice A 1 1] W (RetTab W (magT keyM [9] 7 7)) from build_yes keyM rfl 7 [9] A 1 1 W hl right_ex hT))
  have E0 : getZ (magT keyM [9] 7 7) 0 = 9 := ex_at 0 (by decide)
  have E6 : getZ (magT keyM [9] 7 7) 6 = 9 := ex_at 6 (by decide)
  have EL := magT_len keyM [9] 7 7
  generalize magT keyM [9] 7 7 = T at *
  obtain ⟨dt, o1, o2⟩ := rowTb
  go_enter Tryd.func5, Tryd.ntmps5
  go_upto_region 1 with (fail)
  have hl1 : Rs 1 (w.alloc (.cells #[.int .i64 9] 3)) (some ⟨w.heap.size, 0, none⟩) 1 1 (its [9]) := Rs.of_bk (t := 3) (Bk.new w 3 #[.int .i64 9]) rfl (Nat.le_refl _)
  have be1 : Below w.heap.size w (w.alloc (.cells #[.int .i64 9] 3)) := (Below.refl _ _).alloc (Nat.le_refl _) _
  have hTab1 := hTab.later be1
  refine wp_region_lit ?_
  iterate 2 (refine wpList_plain rfl (fun K hK => ?_); go_simp; with_reducible refine hK _ _ ?_; clear hK K)
  refine wpList_plain rfl (fun K hK => ?_)
  go_simp
  refine (HB.out _ _ hl1 hTab1).mono ?_
  rintro e w1 ⟨A2, c2, bs1, d1, rfl, rfl, hr2⟩
  with_reducible refine hK _ _ ?_
  clear hK K
  iterate 4 (refine wpList_plain rfl (fun K hK => ?_); go_simp; with_reducible refine hK _ _ ?_; clear hK K)
  refine wpList_stA (t := 27) 27 (.tmp 1) (.tmp 7) rfl rfl (tbC A2 7 c2) ([.slice none 0 0]) rfl (tbC_one _ _ _) rfl rfl (Bk.newK (k := w.heap.size + 1 + bs1.length) _ _ _ (by simp [size_plus]) rfl) (szTb _ _ _) ?_
  intro W2 hT g2
  refine wpList_plain rfl (fun K hK => ?_); go_simp; with_reducible refine hK _ _ ?_; clear hK K
  have be := below_grown (Below.allocS (belowP be1 bs1 d1) _) g2 (by omega)
  have hr3 : Rs 1 W2 A2 T.length c2 (its T) := hr2.later (below_grown (Below.allocS (Below.refl _ _) _) g2 (by simp [size_plus]))
  rw [EL] at hr3
  generalize w.heap.size + 1 + bs1.length = gT at *
  clear hr2 g2 hl1 be1 hTab1
  go_upto_region 2 with (fail)
  refine wp_region_lit ?_
  iterate 3 (refine wpList_plain rfl (fun K hK => ?_); go_simp; with_reducible refine hK _ _ ?_; clear hK K)
  refine wpList_ldG (t := 27) 27 (.tmp 1) rfl (by go_simp) (tbC A2 7 c2) rfl (hT) (whole_ _) o1 o2 (szTb _ _ _) ?_
  refine wpList_step (fun K hK => ?_)
  go_simp
  refine (len_tb A2 7 c2 _).mono ?_
  rintro e w1 ⟨bs5, d5, rfl, rfl⟩
  with_reducible refine hK _ _ ?_
  clear hK K
  refine wpList_step (fun K hK => ?_); go_simp; with_reducible refine hK _ _ ?_; clear hK K
  refine wpList_plain rfl (fun K hK => ?_); go_simp; with_reducible refine hK _ _ ?_; clear hK K
  refine wpList_plain rfl (fun K hK => ?_); go_simp; with_reducible refine hK _ _ ?_; clear hK K
  refine wpList_ldG (t := 27) 27 (.tmp 1) rfl (by go_simp) (tbC A2 7 c2) rfl ((hT.later (below_plus _ _ _))) (whole_ _) o1 o2 (szTb _ _ _) ?_
  refine wpList_step (fun K hK => ?_)
  go_simp
  refine (at_tb T 0 A2 7 c2 _ (hr3.later (below_plus _ _ _)) (by omega) (by omega)).mono ?_
  rintro e w1 ⟨bs6, d6, rfl, rfl⟩
  with_reducible refine hK _ _ ?_
  clear hK K
  refine wpList_step (fun K hK => ?_); go_simp; with_reducible refine hK _ _ ?_; clear hK K
  refine wpList_plain rfl (fun K hK => ?_); go_simp; with_reducible refine hK _ _ ?_; clear hK K
  refine wpList_plain rfl (fun K hK => ?_); go_simp; with_reducible refine hK _ _ ?_; clear hK K
  refine wpList_ldG (t := 27) 27 (.tmp 1) rfl (by go_simp) (tbC A2 7 c2) rfl (((hT.later (below_plus _ _ _)).later (below_plus _ _ _))) (whole_ _) o1 o2 (szTb _ _ _) ?_
  refine wpList_step (fun K hK => ?_)
  go_simp
  refine (at_tb T 6 A2 7 c2 _ ((hr3.later (below_plus _ _ _)).later (below_plus _ _ _)) (by omega) (by omega)).mono ?_
  rintro e w1 ⟨bs7, d7, rfl, rfl⟩
  with_reducible refine hK _ _ ?_
  clear hK K
  refine wpList_step (fun K hK => ?_); go_simp; with_reducible refine hK _ _ ?_; clear hK K
  iterate 2 (refine wpList_plain rfl (fun K hK => ?_); go_simp; with_reducible refine hK _ _ ?_; clear hK K)
  go_wp2
  go_ret
  exact RetV.mk (belowP (belowP (belowP be bs5 d5) bs6 d6) bs7 d7)
set_option maxHeartbeats 4000000 in
set_option maxRecDepth 100000 in
theorem maglevBuilds_walk (key : List UInt8) (hk0 : K16 key) (s : Int) (hs1 : -9223372036854775808 ≤ s) (hs2 : s ≤ 9223372036854775807) (l : List Int) (A : Option Addr) (n c : Nat) (at_ : Int) (ha1 : -9223372036854775808 ≤ at_) (ha2 : at_ ≤ 9223372036854775807) (B : Option Addr) (nb cb : Nat) (b : List UInt8) (w : World)
    (hl : Rs 1 w A n c (its l)) (hb : Rb w B nb cb b) (hnm : n ≤ 9223372036854775807) (hnbm : nb ≤ 9223372036854775807) (hTab : TabB w) : Calls Tryd.prog 3 #[.agg (bcs key).toArray, .int .i64 s, .slice A n c, .int .i64 at_, .slice B nb cb] w (RetV w (.bool true)) := by
  obtain ⟨dk, u1, u2⟩ := rowK16a
  obtain ⟨dt, o1, o2⟩ := rowTb
  have hln : l.length = n := by have := hl.1; rw [its_len] at this; omega
  have hk : Bk (w.alloc (.cells (bcs key).toArray 22)) w.heap.size 22 (bcs key) := Bk.new w 22 (bcs key).toArray
  have be : Below w.heap.size w (w.alloc (.cells (bcs key).toArray 22)) := Below.allocS (Below.refl _ _) _
  replace hl := (hl.alloc (.cells (bcs key).toArray 22))
  replace hb := (hb.alloc (.cells (bcs key).toArray 22))
  have zV : w.heap.size + 1 ≤ (w.alloc (.cells (bcs key).toArray 22)).heap.size := by simp
  go_enter Tryd.func3, Tryd.ntmps3
  go_upto_region 1 with (fail)
  generalize w.alloc (.cells (bcs key).toArray 22) = V at *
  have hTabV := hTab.later be
  by_cases h70 : 70 < n
  · have i70 : (70 : Int) < (n : Int) := by omega
    go_wp2_with (go_at_call 5; refine (awake42 _ hTabV).mono ?_; rintro e w1 ⟨bs3, d3, rfl, rfl⟩)
    go_ret
    exact RetV.mk (belowP be bs3 d3)
  have i70 : ¬ (70 : Int) < (n : Int) := by omega
  by_cases h100 : 100 < nb
  · have i100 : (100 : Int) < (nb : Int) := by omega
    go_wp2_with (go_at_call 5; refine (awake42 _ hTabV).mono ?_; rintro e w1 ⟨bs3, d3, rfl, rfl⟩)
    go_ret
    exact RetV.mk (belowP be bs3 d3)
  have i100 : ¬ (100 : Int) < (nb : Int) := by omega
  by_cases h300 : 300 ≤ s ∧ s ≤ 2048
  · have i300 : (300 : Int) ≤ s := h300.1
    have i2048 : s ≤ 2048 := h300.2
    go_wp2_with (go_at_call 5; refine (awake42 _ hTabV).mono ?_; rintro e w1 ⟨bs3, d3, rfl, rfl⟩)
    go_ret
    exact RetV.mk (belowP be bs3 d3)
  have hs3 : s < 300 ∨ 2048 < s := by omega
  have i300 : (300 : Int) ≤ s → ¬ s ≤ 2048 := by omega
  by_cases hR : RightZ s l
  · obtain ⟨p, rfl, hRL⟩ := hR
    have hp3 := hRL.2.1
    have i3 : ¬ (300 : Int) ≤ (p : Int) := by omega
    clear i300 hs3 h300
    have HBU := Lib.hid (build_yes key hk0 p l A n c V hl hRL hTabV)
    have HRB := Lib.hid (fun A n c w (h : Rs 1 w A n c (its l)) => refBuild_any key hk0 p l A n c w h hRL)
    have HRR := Lib.hid (fun w (h : Rs 1 w A n c (its l)) => refRight_any (p : Int) l A n c w h (by omega) (by omega) (by omega) (by omega) true ⟨fun _ => ⟨p, rfl, hRL⟩, fun _ => rfl⟩)
    have hp2 := refP_two hRL.1
    have hlen := magT_len key l p p
    clear hRL
    generalize magT key l p p = T at *
    go_upto_region 3 with (fail)
    refine wp_region_lit ?_
    refine wpList_ldA (t := 22) 22 (.tmp 5) rfl rfl (bcs key) rfl (hk) (whole_ _) u1 u2 (szK16a key hk0) ?_
    iterate 2 (refine wpList_plain rfl (fun K hK => ?_); go_simp; with_reducible refine hK _ _ ?_; clear hK K)
    refine wpList_plain rfl (fun K hK => ?_)
    go_simp
    refine (HBU.out).mono ?_
    rintro e w1 ⟨A2, c2, bs1, d1, rfl, rfl, hr2⟩
    with_reducible refine hK _ _ ?_
    clear hK K
    iterate 4 (refine wpList_plain rfl (fun K hK => ?_); go_simp; with_reducible refine hK _ _ ?_; clear hK K)
    refine wpList_stA (t := 27) 27 (.tmp 11) (.tmp 38) rfl rfl (tbC A2 p c2) ([.slice none 0 0]) rfl (tbC_one _ _ _) rfl rfl (Bk.newK (k := V.heap.size + bs1.length) _ _ _ (by simp [size_plus]) rfl) (szTb _ _ _) ?_
    intro W2 hT g2
    refine wpList_plain rfl (fun K hK => ?_); go_simp; with_reducible refine hK _ _ ?_; clear hK K
    have hb2 : Below V.heap.size V W2 := below_grown (Below.allocS (below_plus V bs1 d1) _) g2 (by simp [size_plus])
    have hr4 : Rs 1 W2 A2 p c2 (its T) := by
      have h9 : Rs 1 W2 A2 T.length c2 (its T) := hr2.later (below_grown (Below.allocS (Below.refl _ _) _) g2 (by simp [size_plus]))
      rw [hlen] at h9
      exact h9
    replace be := be.trans (hb2.mono be.size)
    replace hk := hk.later hb2
    replace hl := hl.later hb2
    replace hb := hb.later hb2
    have hTab2 := hTabV.later hb2
    generalize V.heap.size + bs1.length = gT at *
    clear g2 hb2 HBU hr2 hTabV
    go_upto_region 6 with (go_at_call 7; refine (HRR.out _ hl).mono ?_; rintro e w1 ⟨bs2, d2, rfl, rfl⟩)
    replace be := belowP be bs2 d2
    replace hk := hk.later (below_plus W2 bs2 d2)
    replace hb := hb.later (below_plus W2 bs2 d2)
    replace hl := hl.later (below_plus W2 bs2 d2)
    replace hT := hT.later (below_plus W2 bs2 d2)
    replace hr4 := hr4.later (below_plus W2 bs2 d2)
    have hTab3 := hTab2.later (below_plus W2 bs2 d2)
    clear hTab2 HRR
    generalize plus W2 bs2 d2 = W3 at *
    refine wp_region_lit ?_
    refine wpList_ldA (t := 22) 22 (.tmp 5) rfl rfl (bcs key) rfl (hk) (whole_ _) u1 u2 (szK16a key hk0) ?_
    iterate 2 (refine wpList_plain rfl (fun K hK => ?_); go_simp; with_reducible refine hK _ _ ?_; clear hK K)
    refine wpList_plain rfl (fun K hK => ?_)
    go_simp
    refine (HRB.out _ _ _ _ hl).mono ?_
    rintro e w1 ⟨A3, n3, c3, bs4, d4, rfl, rfl, hr3⟩
    with_reducible refine hK _ _ ?_
    clear hK K
    refine wpList_plain rfl (fun K hK => ?_); go_simp; with_reducible refine hK _ _ ?_; clear hK K
    have hn3 : p = n3 := by have := hr3.1; rw [its_len] at this; omega
    subst hn3
    have b4 := below_plus W3 bs4 d4
    replace be := belowP be bs4 d4
    replace hk := hk.later b4
    replace hb := hb.later b4
    replace hT := hT.later b4
    replace hr4 := hr4.later b4
    have hTab4 := hTab3.later b4
    clear hTab3 b4 HRB hl
    generalize plus W3 bs4 d4 = W4 at *
    go_upto_region 8 with (fail)
    have HE := Lib.hid be
    clear be
    go_loopw [14] (fun I wr => ∃ i : Nat, I = .int .i64 (i : Int) ∧ i ≤ p ∧ Below W4.heap.size W4 wr) (fun I _ => p - (intOf I).toNat)
    case atStart => exact ⟨0, rfl, Nat.zero_le _, Below.refl _ _⟩
    case round =>
      obtain ⟨i, rfl, hi, hE⟩ := hrel
      by_cases hlt : i < p
      · have ij : (i : Int) < (p : Int) := by omega
        have hiT : i < T.length := by omega
        have hg := getZ_in T i hiT
        obtain ⟨b3, o3, rfl, -, hat3⟩ := hr3.ints_ (by omega)
        obtain ⟨v, hv⟩ : ∃ v, T[i] = v := ⟨_, rfl⟩
        rw [hv] at hg
        replace hT := hT.later hE
        have HC := Lib.hid (fun (W : World) (h : Below wr.heap.size wr W) => show Rs 1 W A2 p c2 (its T) ∧ W.cell? ⟨b3, o3 + i, none⟩ = some (.int .i64 v) from ⟨hr4.later (hE.trans (h.mono hE.size)), by rw [← hv]; exact hat3 i hiT W (hE.trans (h.mono hE.size))⟩)
        have HG := Lib.hid hg
        clear hv hat3 hg
        go_upto_region 10 with (fail)
        go_wp2
        refine wp_relS 8 131 rfl (by kernel_rfl) (by kernel_rfl) ?_
        apply Steps.one (MP.eq _) 1 rfl
        · intro o ho FA x hO hD K hK
          obtain rfl := Option.some.inj ho.symm
          clear ho
          have e11 := hO 11 (by kernel_rfl)
          simp only [eval_tmp, List.getElem?_toArray, List.getElem?_cons_succ, List.getElem?_cons_zero, Option.getD_some] at e11
          have ev11 := Lib.hid ((eval_tmp FA 11).trans e11)
          clear hO hD
          refine wanted_if rfl ?_
          refine wp_ldA 27 (.tmp 11) rfl (tbC A2 p c2) ev11.out (hT.later (below_plus _ _ _)) (whole_ _) o1 o2 (szTb _ _ _) ?_
          exact hK.out _ _ (Ex.refl _) rfl
        apply Steps.one (MP.eq _) 2 rfl
        · intro o ho FA x hO hD K hK
          obtain rfl := Option.some.inj ho.symm
          clear ho
          have e14 := hO 14 (by kernel_rfl)
          simp only [eval_tmp, List.getElem?_toArray, List.getElem?_cons_succ, List.getElem?_cons_zero, Option.getD_some] at e14
          have ev14 := Lib.hid ((eval_tmp FA 14).trans e14)
          clear hO hD
          go_simp
          exact hK.out _ _ (Ex.refl _) rfl
        apply Steps.one (MP.eq (.int .i64 v)) 3 rfl
        · intro o ho FA x hO hD K hK
          obtain rfl := Option.some.inj ho.symm
          clear ho
          have ev77 : FA.eval (.tmp 77) = _ := hD 0 77 (by kernel_rfl)
          have e77 := (eval_tmp FA 77).symm.trans ev77
          replace ev77 := Lib.hid ev77
          have ev78 : FA.eval (.tmp 78) = _ := hD 1 78 (by kernel_rfl)
          have e78 := (eval_tmp FA 78).symm.trans ev78
          replace ev78 := Lib.hid ev78
          clear hO hD
          go_simp
          refine (at_tb T (i : Int) A2 p c2 _ (HC.out _ (below_plus _ _ _)).1 (by omega) (by omega)).mono ?_
          rintro e w1 ⟨bs9, d9, rfl, rfl⟩
          exact hK.out _ _ (Ex.plus_ _ _ _) (congrArg (Value.int .i64) HG.out)
        apply Steps.one (MP.eq _) 4 rfl
        · intro o ho FA x hO hD K hK
          obtain rfl := Option.some.inj ho.symm
          clear ho
          have e13 := hO 13 (by kernel_rfl)
          simp only [eval_tmp, List.getElem?_toArray, List.getElem?_cons_succ, List.getElem?_cons_zero, Option.getD_some] at e13
          have ev13 := Lib.hid ((eval_tmp FA 13).trans e13)
          clear hO hD
          go_simp
          exact hK.out _ _ (Ex.refl _) rfl
        apply Steps.one (MP.eq _) 5 rfl
        · intro o ho FA x hO hD K hK
          obtain rfl := Option.some.inj ho.symm
          clear ho
          have e14 := hO 14 (by kernel_rfl)
          simp only [eval_tmp, List.getElem?_toArray, List.getElem?_cons_succ, List.getElem?_cons_zero, Option.getD_some] at e14
          have ev14 := Lib.hid ((eval_tmp FA 14).trans e14)
          clear hO hD
          go_simp
          exact hK.out _ _ (Ex.refl _) rfl
        apply Steps.one (MP.eq _) 6 rfl
        · intro o ho FA x hO hD K hK
          obtain rfl := Option.some.inj ho.symm
          clear ho
          have ev80 : FA.eval (.tmp 80) = _ := hD 3 80 (by kernel_rfl)
          have e80 := (eval_tmp FA 80).symm.trans ev80
          replace ev80 := Lib.hid ev80
          have ev81 : FA.eval (.tmp 81) = _ := hD 4 81 (by kernel_rfl)
          have e81 := (eval_tmp FA 81).symm.trans ev81
          replace ev81 := Lib.hid ev81
          clear hO hD
          go_simp
          exact hK.out _ _ (Ex.refl _) rfl
        apply Steps.one (MP.eq _) 7 rfl
        · intro o ho FA x hO hD K hK
          obtain rfl := Option.some.inj ho.symm
          clear ho
          have ev82 : FA.eval (.tmp 82) = _ := hD 5 82 (by kernel_rfl)
          have e82 := (eval_tmp FA 82).symm.trans ev82
          replace ev82 := Lib.hid ev82
          clear hO hD
          have q9 := (HC.out (plus wr x.bs x.d) (below_plus _ _ _)).2
          go_simp
          exact hK.out _ _ (Ex.refl _) rfl
        apply Steps.one (MP.eq _) 8 rfl
        · intro o ho FA x hO hD K hK
          obtain rfl := Option.some.inj ho.symm
          clear ho
          have ev79 : FA.eval (.tmp 79) = _ := hD 2 79 (by kernel_rfl)
          have e79 := (eval_tmp FA 79).symm.trans ev79
          replace ev79 := Lib.hid ev79
          have ev83 : FA.eval (.tmp 83) = _ := hD 6 83 (by kernel_rfl)
          have e83 := (eval_tmp FA 83).symm.trans ev83
          replace ev83 := Lib.hid ev83
          clear hO hD
          go_simp
          exact hK.out _ _ (Ex.refl _) rfl
        refine Steps.fin_ (fun vs x hp => ?_)
        have p0 : vs 0 = _ := hp 0 (by omega)
        have p1 : vs 1 = _ := hp 1 (by omega)
        have p2 : vs 2 = _ := hp 2 (by omega)
        have p3 : vs 3 = _ := hp 3 (by omega)
        have p4 : vs 4 = _ := hp 4 (by omega)
        have p5 : vs 5 = _ := hp 5 (by omega)
        have p6 : vs 6 = _ := hp 6 (by omega)
        have p7 : vs 7 = _ := hp 7 (by omega)
        clear hp
        simp only [List.take_succ_cons, List.take_zero, List.drop_succ_cons, List.drop_zero, putAll, Nat.zero_add, Nat.reduceAdd, Act.put, List.setIfInBounds_toArray, List.set_cons_zero, List.set_cons_succ, p0, p1, p2, p3, p4, p5, p6, p7]
        clear p0 p1 p2 p3 p4 p5 p6 p7
        clear vs
        go_wp2
        exact ⟨⟨i + 1, by go_num, by omega, belowP hE _ _⟩, by simp [intOf]; omega⟩
      · obtain rfl : p = i := by omega
        have ij : ¬ (p : Int) < (p : Int) := by omega
        have be := HE.out.trans (hE.mono HE.out.size)
        replace hk := hk.later hE
        replace hb := hb.later hE
        replace hT := hT.later hE
        replace hr4 := hr4.later hE
        replace hr3 := hr3.later hE
        have hTab5 := hTab4.later hE
        have HSU := Lib.hid (fun w (h : Rb w B nb cb b) => refSum_any key hk0 B nb cb b w h (by omega))
        have HPI := Lib.hid (fun w (h : Rs 1 w A2 p c2 (its T)) (h2 : Rb w B nb cb b) => pick_tb key hk0 T A2 p c2 B nb cb b w h h2 (by omega) (by omega))
        have hpk : pickZ key b T = T.getD ((sip key b).toNat % p) 0 := by unfold pickZ; rw [if_neg (by omega), hlen]
        rw [hpk] at HPI
        clear hpk HE hTab4
        generalize sip key b = Y at *
        have hY := UInt64.toNat_lt Y
        generalize Y.toNat = X at *
        have t1 : Int.tmod (X : Int) (p : Int) = ((X % p : Nat) : Int) := rfl
        have t2 : (X : Int) % (p : Int) = ((X % p : Nat) : Int) := rfl
        have hjp : X % p < p := Nat.mod_lt _ (by omega)
        have z1 : ((p : Int) == 0) = false := by simp; omega
        have z2 : ¬ (p : Int) = 0 := by omega
        have z3 : ¬ p = 0 := by omega
        have wpp : IntKind.u64.wrap (p : Int) = (p : Int) := IntWalk.u64_in _ (by omega)
        generalize X % p = j at *
        have hjT : j < T.length := by omega
        rw [getD_some hjT] at HPI
        have ijp : (j : Int) < (p : Int) := by omega
        have wj : IntKind.i64.wrap (j : Int) = (j : Int) := IntWalk.i64_in _ (by omega)
        obtain ⟨b3, o3, rfl, -, hat3⟩ := hr3.ints_ (by omega)
        obtain ⟨v, hv⟩ : ∃ v, T[j] = v := ⟨_, rfl⟩
        rw [hv] at HPI
        have HAT3 := Lib.hid hat3
        have HV := Lib.hid hv
        clear hv hat3 hr3 hE
        generalize wr = W6 at *
        have HTAB := Lib.hid (fun (W : World) (h : Below W6.heap.size W6 W) => hTab5.later h)
        have HC := Lib.hid (fun (W : World) (h : Below W6.heap.size W6 W) => show Rs 1 W A2 p c2 (its T) ∧ W.cell? ⟨b3, o3 + j, none⟩ = some (.int .i64 v) ∧ Rb W B nb cb b from ⟨hr4.later h, by rw [← HV.out]; exact HAT3.out j hjT W h, hb.later h⟩)
        by_cases hlo : at_ < 0
        · have i5 : ¬ (0 : Int) ≤ at_ := by omega
          have HGZ := Lib.hid (getZ_lo T at_ hlo)
          go_upto_region 15 with (fail)
          go_wp2
          refine wp_relS 36 131 rfl (by kernel_rfl) (by kernel_rfl) ?_
          apply Steps.one (MP.eq _) 1 rfl
          · intro o ho FA x hO hD K hK
            obtain rfl := Option.some.inj ho.symm
            clear ho
            have e12 := hO 12 (by kernel_rfl)
            simp only [eval_tmp, List.getElem?_toArray, List.getElem?_cons_succ, List.getElem?_cons_zero, Option.getD_some] at e12
            have ev12 := Lib.hid ((eval_tmp FA 12).trans e12)
            clear hO hD
            go_simp
            exact hK.out _ _ (Ex.refl _) rfl
          apply Steps.one (MP.eq _) 2 rfl
          · intro o ho FA x hO hD K hK
            obtain rfl := Option.some.inj ho.symm
            clear ho
            have ev96 : FA.eval (.tmp 96) = _ := hD 0 96 (by kernel_rfl)
            have e96 := (eval_tmp FA 96).symm.trans ev96
            replace ev96 := Lib.hid ev96
            clear hO hD
            go_simp
            exact hK.out _ _ (Ex.refl _) rfl
          apply Steps.one (MP.eq _) 3 rfl
          · intro o ho FA x hO hD K hK
            obtain rfl := Option.some.inj ho.symm
            clear ho
            have ev97 : FA.eval (.tmp 97) = _ := hD 1 97 (by kernel_rfl)
            have e97 := (eval_tmp FA 97).symm.trans ev97
            replace ev97 := Lib.hid ev97
            clear hO hD
            go_simp
            exact hK.out _ _ (Ex.refl _) rfl
          apply Steps.one (MP.eq _) 4 rfl
          · intro o ho FA x hO hD K hK
            obtain rfl := Option.some.inj ho.symm
            clear ho
            have e11 := hO 11 (by kernel_rfl)
            simp only [eval_tmp, List.getElem?_toArray, List.getElem?_cons_succ, List.getElem?_cons_zero, Option.getD_some] at e11
            have ev11 := Lib.hid ((eval_tmp FA 11).trans e11)
            have ev98 : FA.eval (.tmp 98) = _ := hD 2 98 (by kernel_rfl)
            have e98 := (eval_tmp FA 98).symm.trans ev98
            replace ev98 := Lib.hid ev98
            first | have ge98 := slot_of e98 | have ge98 := slot_un e98
            clear hO hD
            first | (refine wanted_ifG ?_ ?_; (· go_simp); refine wp_ldA 27 (.tmp 11) rfl (tbC A2 p c2) ev11.out (hT.later (below_plus _ _ _)) (whole_ _) o1 o2 (szTb _ _ _) ?_; exact hK.out _ _ (Ex.refl _) rfl) | (go_simp; exact hK.out _ _ (Ex.refl _) rfl) | (rcases ge98 with ge98 | ge98 <;> (go_simp; exact hK.out _ _ (Ex.refl _) rfl))
          apply Steps.one (MP.eq _) 5 rfl
          · intro o ho FA x hO hD K hK
            obtain rfl := Option.some.inj ho.symm
            clear ho
            have ev99 : FA.eval (.tmp 99) = _ := hD 3 99 (by kernel_rfl)
            have e99 := (eval_tmp FA 99).symm.trans ev99
            replace ev99 := Lib.hid ev99
            have ev98 : FA.eval (.tmp 98) = _ := hD 2 98 (by kernel_rfl)
            have e98 := (eval_tmp FA 98).symm.trans ev98
            replace ev98 := Lib.hid ev98
            first | have ge98 := slot_of e98 | have ge98 := slot_un e98
            clear hO hD
            refine wanted_ifG (by go_simp) ?_
            go_simp
            refine (len_tb A2 p c2 _).mono ?_
            rintro e w1 ⟨bs9, d9, rfl, rfl⟩
            exact hK.out _ _ (Ex.plus_ _ _ _) rfl
          apply Steps.one (MP.eq _) 6 rfl
          · intro o ho FA x hO hD K hK
            obtain rfl := Option.some.inj ho.symm
            clear ho
            have e1 := hO 1 (by kernel_rfl)
            simp only [eval_tmp, List.getElem?_toArray, List.getElem?_cons_succ, List.getElem?_cons_zero, Option.getD_some] at e1
            have ev1 := Lib.hid ((eval_tmp FA 1).trans e1)
            have ev98 : FA.eval (.tmp 98) = _ := hD 2 98 (by kernel_rfl)
            have e98 := (eval_tmp FA 98).symm.trans ev98
            replace ev98 := Lib.hid ev98
            first | have ge98 := slot_of e98 | have ge98 := slot_un e98
            clear hO hD
            first | (go_simp; exact hK.out _ _ (Ex.refl _) rfl) | (rcases ge98 with ge98 | ge98 <;> (go_simp; exact hK.out _ _ (Ex.refl _) rfl))
          apply Steps.one (MP.eq _) 7 rfl
          · intro o ho FA x hO hD K hK
            obtain rfl := Option.some.inj ho.symm
            clear ho
            have ev100 : FA.eval (.tmp 100) = _ := hD 4 100 (by kernel_rfl)
            have e100 := (eval_tmp FA 100).symm.trans ev100
            replace ev100 := Lib.hid ev100
            have ev101 : FA.eval (.tmp 101) = _ := hD 5 101 (by kernel_rfl)
            have e101 := (eval_tmp FA 101).symm.trans ev101
            replace ev101 := Lib.hid ev101
            have ev98 : FA.eval (.tmp 98) = _ := hD 2 98 (by kernel_rfl)
            have e98 := (eval_tmp FA 98).symm.trans ev98
            replace ev98 := Lib.hid ev98
            first | have ge98 := slot_of e98 | have ge98 := slot_un e98
            clear hO hD
            first | (go_simp; exact hK.out _ _ (Ex.refl _) rfl) | (rcases ge98 with ge98 | ge98 <;> (go_simp; exact hK.out _ _ (Ex.refl _) rfl))
          apply Steps.one (MP.eq _) 8 rfl
          · intro o ho FA x hO hD K hK
            obtain rfl := Option.some.inj ho.symm
            clear ho
            have ev98 : FA.eval (.tmp 98) = _ := hD 2 98 (by kernel_rfl)
            have e98 := (eval_tmp FA 98).symm.trans ev98
            replace ev98 := Lib.hid ev98
            have ev102 : FA.eval (.tmp 102) = _ := hD 6 102 (by kernel_rfl)
            have e102 := (eval_tmp FA 102).symm.trans ev102
            replace ev102 := Lib.hid ev102
            clear hO hD
            go_simp
            exact hK.out _ _ (Ex.refl _) rfl
          apply Steps.one (MP.eq _) 9 rfl
          · intro o ho FA x hO hD K hK
            obtain rfl := Option.some.inj ho.symm
            clear ho
            have ev103 : FA.eval (.tmp 103) = _ := hD 7 103 (by kernel_rfl)
            have e103 := (eval_tmp FA 103).symm.trans ev103
            replace ev103 := Lib.hid ev103
            clear hO hD
            go_simp
            exact hK.out _ _ (Ex.refl _) rfl
          apply Steps.one (MP.eq _) 10 rfl
          · intro o ho FA x hO hD K hK
            obtain rfl := Option.some.inj ho.symm
            clear ho
            have e11 := hO 11 (by kernel_rfl)
            simp only [eval_tmp, List.getElem?_toArray, List.getElem?_cons_succ, List.getElem?_cons_zero, Option.getD_some] at e11
            have ev11 := Lib.hid ((eval_tmp FA 11).trans e11)
            have ev104 : FA.eval (.tmp 104) = _ := hD 8 104 (by kernel_rfl)
            have e104 := (eval_tmp FA 104).symm.trans ev104
            replace ev104 := Lib.hid ev104
            first | have ge104 := slot_of e104 | have ge104 := slot_un e104
            clear hO hD
            first | (refine wanted_ifG ?_ ?_; (· go_simp); refine wp_ldA 27 (.tmp 11) rfl (tbC A2 p c2) ev11.out (hT.later (below_plus _ _ _)) (whole_ _) o1 o2 (szTb _ _ _) ?_; exact hK.out _ _ (Ex.refl _) rfl) | (go_simp; exact hK.out _ _ (Ex.refl _) rfl) | (rcases ge104 with ge104 | ge104 <;> (go_simp; exact hK.out _ _ (Ex.refl _) rfl))
          apply Steps.one (MP.eq _) 11 rfl
          · intro o ho FA x hO hD K hK
            obtain rfl := Option.some.inj ho.symm
            clear ho
            have e3 := hO 3 (by kernel_rfl)
            simp only [eval_tmp, List.getElem?_toArray, List.getElem?_cons_succ, List.getElem?_cons_zero, Option.getD_some] at e3
            have ev3 := Lib.hid ((eval_tmp FA 3).trans e3)
            have ev104 : FA.eval (.tmp 104) = _ := hD 8 104 (by kernel_rfl)
            have e104 := (eval_tmp FA 104).symm.trans ev104
            replace ev104 := Lib.hid ev104
            first | have ge104 := slot_of e104 | have ge104 := slot_un e104
            clear hO hD
            first | (go_simp; exact hK.out _ _ (Ex.refl _) rfl) | (rcases ge104 with ge104 | ge104 <;> (go_simp; exact hK.out _ _ (Ex.refl _) rfl))
          apply Steps.one (MP.eq (.int .i64 0)) 12 rfl
          · intro o ho FA x hO hD K hK
            obtain rfl := Option.some.inj ho.symm
            clear ho
            have ev105 : FA.eval (.tmp 105) = _ := hD 9 105 (by kernel_rfl)
            have e105 := (eval_tmp FA 105).symm.trans ev105
            replace ev105 := Lib.hid ev105
            have ev106 : FA.eval (.tmp 106) = _ := hD 10 106 (by kernel_rfl)
            have e106 := (eval_tmp FA 106).symm.trans ev106
            replace ev106 := Lib.hid ev106
            have ev104 : FA.eval (.tmp 104) = _ := hD 8 104 (by kernel_rfl)
            have e104 := (eval_tmp FA 104).symm.trans ev104
            replace ev104 := Lib.hid ev104
            first | have ge104 := slot_of e104 | have ge104 := slot_un e104
            clear hO hD
            refine wanted_ifG (by go_simp) ?_
            go_simp
            refine (at_tb T at_ A2 p c2 _ (HC.out _ (below_plus _ _ _)).1 (by omega) (by omega)).mono ?_
            rintro e w1 ⟨bs9, d9, rfl, rfl⟩
            exact hK.out _ _ (Ex.plus_ _ _ _) (congrArg (Value.int .i64) HGZ.out)
          apply Steps.one (MP.eq _) 13 rfl
          · intro o ho FA x hO hD K hK
            obtain rfl := Option.some.inj ho.symm
            clear ho
            have e15 := hO 15 (by kernel_rfl)
            simp only [eval_tmp, List.getElem?_toArray, List.getElem?_cons_succ, List.getElem?_cons_zero, Option.getD_some] at e15
            have ev15 := Lib.hid ((eval_tmp FA 15).trans e15)
            have ev104 : FA.eval (.tmp 104) = _ := hD 8 104 (by kernel_rfl)
            have e104 := (eval_tmp FA 104).symm.trans ev104
            replace ev104 := Lib.hid ev104
            first | have ge104 := slot_of e104 | have ge104 := slot_un e104
            clear hO hD
            first | (go_simp; exact hK.out _ _ (Ex.refl _) rfl) | (rcases ge104 with ge104 | ge104 <;> (go_simp; exact hK.out _ _ (Ex.refl _) rfl))
          apply Steps.one (MP.eq _) 14 rfl
          · intro o ho FA x hO hD K hK
            obtain rfl := Option.some.inj ho.symm
            clear ho
            have ev107 : FA.eval (.tmp 107) = _ := hD 11 107 (by kernel_rfl)
            have e107 := (eval_tmp FA 107).symm.trans ev107
            replace ev107 := Lib.hid ev107
            have ev108 : FA.eval (.tmp 108) = _ := hD 12 108 (by kernel_rfl)
            have e108 := (eval_tmp FA 108).symm.trans ev108
            replace ev108 := Lib.hid ev108
            have ev104 : FA.eval (.tmp 104) = _ := hD 8 104 (by kernel_rfl)
            have e104 := (eval_tmp FA 104).symm.trans ev104
            replace ev104 := Lib.hid ev104
            first | have ge104 := slot_of e104 | have ge104 := slot_un e104
            clear hO hD
            first | (go_simp; exact hK.out _ _ (Ex.refl _) rfl) | (rcases ge104 with ge104 | ge104 <;> (go_simp; exact hK.out _ _ (Ex.refl _) rfl))
          apply Steps.one (MP.eq _) 15 rfl
          · intro o ho FA x hO hD K hK
            obtain rfl := Option.some.inj ho.symm
            clear ho
            have ev104 : FA.eval (.tmp 104) = _ := hD 8 104 (by kernel_rfl)
            have e104 := (eval_tmp FA 104).symm.trans ev104
            replace ev104 := Lib.hid ev104
            have ev109 : FA.eval (.tmp 109) = _ := hD 13 109 (by kernel_rfl)
            have e109 := (eval_tmp FA 109).symm.trans ev109
            replace ev109 := Lib.hid ev109
            clear hO hD
            go_simp
            exact hK.out _ _ (Ex.refl _) rfl
          apply Steps.one (MP.eq _) 16 rfl
          · intro o ho FA x hO hD K hK
            obtain rfl := Option.some.inj ho.symm
            clear ho
            have ev110 : FA.eval (.tmp 110) = _ := hD 14 110 (by kernel_rfl)
            have e110 := (eval_tmp FA 110).symm.trans ev110
            replace ev110 := Lib.hid ev110
            clear hO hD
            go_simp
            exact hK.out _ _ (Ex.refl _) rfl
          apply Steps.one (MP.eq _) 17 rfl
          · intro o ho FA x hO hD K hK
            obtain rfl := Option.some.inj ho.symm
            clear ho
            have e11 := hO 11 (by kernel_rfl)
            simp only [eval_tmp, List.getElem?_toArray, List.getElem?_cons_succ, List.getElem?_cons_zero, Option.getD_some] at e11
            have ev11 := Lib.hid ((eval_tmp FA 11).trans e11)
            have ev111 : FA.eval (.tmp 111) = _ := hD 15 111 (by kernel_rfl)
            have e111 := (eval_tmp FA 111).symm.trans ev111
            replace ev111 := Lib.hid ev111
            first | have ge111 := slot_of e111 | have ge111 := slot_un e111
            clear hO hD
            first | (refine wanted_ifG ?_ ?_; (· go_simp); refine wp_ldA 27 (.tmp 11) rfl (tbC A2 p c2) ev11.out (hT.later (below_plus _ _ _)) (whole_ _) o1 o2 (szTb _ _ _) ?_; exact hK.out _ _ (Ex.refl _) rfl) | (go_simp; exact hK.out _ _ (Ex.refl _) rfl) | (rcases ge111 with ge111 | ge111 <;> (go_simp; exact hK.out _ _ (Ex.refl _) rfl))
          apply Steps.one (MP.eq _) 18 rfl
          · intro o ho FA x hO hD K hK
            obtain rfl := Option.some.inj ho.symm
            clear ho
            have e5 := hO 5 (by kernel_rfl)
            simp only [eval_tmp, List.getElem?_toArray, List.getElem?_cons_succ, List.getElem?_cons_zero, Option.getD_some] at e5
            have ev5 := Lib.hid ((eval_tmp FA 5).trans e5)
            have ev111 : FA.eval (.tmp 111) = _ := hD 15 111 (by kernel_rfl)
            have e111 := (eval_tmp FA 111).symm.trans ev111
            replace ev111 := Lib.hid ev111
            first | have ge111 := slot_of e111 | have ge111 := slot_un e111
            clear hO hD
            first | (refine wanted_ifG ?_ ?_; (· go_simp); refine wp_ldA 22 (.tmp 5) rfl (bcs key) ev5.out (hk.later (below_plus _ _ _)) (whole_ _) u1 u2 (szK16a key hk0) ?_; exact hK.out _ _ (Ex.refl _) rfl) | (go_simp; exact hK.out _ _ (Ex.refl _) rfl) | (rcases ge111 with ge111 | ge111 <;> (go_simp; exact hK.out _ _ (Ex.refl _) rfl))
          apply Steps.one (MP.eq _) 19 rfl
          · intro o ho FA x hO hD K hK
            obtain rfl := Option.some.inj ho.symm
            clear ho
            have e4 := hO 4 (by kernel_rfl)
            simp only [eval_tmp, List.getElem?_toArray, List.getElem?_cons_succ, List.getElem?_cons_zero, Option.getD_some] at e4
            have ev4 := Lib.hid ((eval_tmp FA 4).trans e4)
            have ev111 : FA.eval (.tmp 111) = _ := hD 15 111 (by kernel_rfl)
            have e111 := (eval_tmp FA 111).symm.trans ev111
            replace ev111 := Lib.hid ev111
            first | have ge111 := slot_of e111 | have ge111 := slot_un e111
            clear hO hD
            first | (go_simp; exact hK.out _ _ (Ex.refl _) rfl) | (rcases ge111 with ge111 | ge111 <;> (go_simp; exact hK.out _ _ (Ex.refl _) rfl))
          apply Steps.one (MP.eq (.int .i64 v)) 20 rfl
          · intro o ho FA x hO hD K hK
            obtain rfl := Option.some.inj ho.symm
            clear ho
            have ev112 : FA.eval (.tmp 112) = _ := hD 16 112 (by kernel_rfl)
            have e112 := (eval_tmp FA 112).symm.trans ev112
            replace ev112 := Lib.hid ev112
            have ev113 : FA.eval (.tmp 113) = _ := hD 17 113 (by kernel_rfl)
            have e113 := (eval_tmp FA 113).symm.trans ev113
            replace ev113 := Lib.hid ev113
            have ev114 : FA.eval (.tmp 114) = _ := hD 18 114 (by kernel_rfl)
            have e114 := (eval_tmp FA 114).symm.trans ev114
            replace ev114 := Lib.hid ev114
            have ev111 : FA.eval (.tmp 111) = _ := hD 15 111 (by kernel_rfl)
            have e111 := (eval_tmp FA 111).symm.trans ev111
            replace ev111 := Lib.hid ev111
            first | have ge111 := slot_of e111 | have ge111 := slot_un e111
            clear hO hD
            refine wanted_ifG (by go_simp) ?_
            go_simp
            refine (HPI.out _ (HC.out _ (below_plus _ _ _)).1 (HC.out _ (below_plus _ _ _)).2.2).mono ?_
            rintro e w1 ⟨bs9, d9, rfl, rfl⟩
            exact hK.out _ _ (Ex.plus_ _ _ _) rfl
          apply Steps.one (MP.eq _) 21 rfl
          · intro o ho FA x hO hD K hK
            obtain rfl := Option.some.inj ho.symm
            clear ho
            have e13 := hO 13 (by kernel_rfl)
            simp only [eval_tmp, List.getElem?_toArray, List.getElem?_cons_succ, List.getElem?_cons_zero, Option.getD_some] at e13
            have ev13 := Lib.hid ((eval_tmp FA 13).trans e13)
            have ev111 : FA.eval (.tmp 111) = _ := hD 15 111 (by kernel_rfl)
            have e111 := (eval_tmp FA 111).symm.trans ev111
            replace ev111 := Lib.hid ev111
            first | have ge111 := slot_of e111 | have ge111 := slot_un e111
            clear hO hD
            first | (go_simp; exact hK.out _ _ (Ex.refl _) rfl) | (rcases ge111 with ge111 | ge111 <;> (go_simp; exact hK.out _ _ (Ex.refl _) rfl))
          apply Steps.one (MP.eq _) 22 rfl
          · intro o ho FA x hO hD K hK
            obtain rfl := Option.some.inj ho.symm
            clear ho
            have e5 := hO 5 (by kernel_rfl)
            simp only [eval_tmp, List.getElem?_toArray, List.getElem?_cons_succ, List.getElem?_cons_zero, Option.getD_some] at e5
            have ev5 := Lib.hid ((eval_tmp FA 5).trans e5)
            have ev111 : FA.eval (.tmp 111) = _ := hD 15 111 (by kernel_rfl)
            have e111 := (eval_tmp FA 111).symm.trans ev111
            replace ev111 := Lib.hid ev111
            first | have ge111 := slot_of e111 | have ge111 := slot_un e111
            clear hO hD
            first | (refine wanted_ifG ?_ ?_; (· go_simp); refine wp_ldA 22 (.tmp 5) rfl (bcs key) ev5.out (hk.later (below_plus _ _ _)) (whole_ _) u1 u2 (szK16a key hk0) ?_; exact hK.out _ _ (Ex.refl _) rfl) | (go_simp; exact hK.out _ _ (Ex.refl _) rfl) | (rcases ge111 with ge111 | ge111 <;> (go_simp; exact hK.out _ _ (Ex.refl _) rfl))
          apply Steps.one (MP.eq _) 23 rfl
          · intro o ho FA x hO hD K hK
            obtain rfl := Option.some.inj ho.symm
            clear ho
            have e4 := hO 4 (by kernel_rfl)
            simp only [eval_tmp, List.getElem?_toArray, List.getElem?_cons_succ, List.getElem?_cons_zero, Option.getD_some] at e4
            have ev4 := Lib.hid ((eval_tmp FA 4).trans e4)
            have ev111 : FA.eval (.tmp 111) = _ := hD 15 111 (by kernel_rfl)
            have e111 := (eval_tmp FA 111).symm.trans ev111
            replace ev111 := Lib.hid ev111
            first | have ge111 := slot_of e111 | have ge111 := slot_un e111
            clear hO hD
            first | (go_simp; exact hK.out _ _ (Ex.refl _) rfl) | (rcases ge111 with ge111 | ge111 <;> (go_simp; exact hK.out _ _ (Ex.refl _) rfl))
          apply Steps.one (MP.eq (.int .u64 (X : Int))) 24 rfl
          · intro o ho FA x hO hD K hK
            obtain rfl := Option.some.inj ho.symm
            clear ho
            have ev117 : FA.eval (.tmp 117) = _ := hD 21 117 (by kernel_rfl)
            have e117 := (eval_tmp FA 117).symm.trans ev117
            replace ev117 := Lib.hid ev117
            have ev118 : FA.eval (.tmp 118) = _ := hD 22 118 (by kernel_rfl)
            have e118 := (eval_tmp FA 118).symm.trans ev118
            replace ev118 := Lib.hid ev118
            have ev111 : FA.eval (.tmp 111) = _ := hD 15 111 (by kernel_rfl)
            have e111 := (eval_tmp FA 111).symm.trans ev111
            replace ev111 := Lib.hid ev111
            first | have ge111 := slot_of e111 | have ge111 := slot_un e111
            clear hO hD
            refine wanted_ifG (by go_simp) ?_
            go_simp
            refine (HSU.out _ (HC.out _ (below_plus _ _ _)).2.2).mono ?_
            rintro e w1 ⟨bs9, d9, rfl, rfl⟩
            exact hK.out _ _ (Ex.plus_ _ _ _) rfl
          apply Steps.one (MP.eq _) 25 rfl
          · intro o ho FA x hO hD K hK
            obtain rfl := Option.some.inj ho.symm
            clear ho
            have e1 := hO 1 (by kernel_rfl)
            simp only [eval_tmp, List.getElem?_toArray, List.getElem?_cons_succ, List.getElem?_cons_zero, Option.getD_some] at e1
            have ev1 := Lib.hid ((eval_tmp FA 1).trans e1)
            have ev111 : FA.eval (.tmp 111) = _ := hD 15 111 (by kernel_rfl)
            have e111 := (eval_tmp FA 111).symm.trans ev111
            replace ev111 := Lib.hid ev111
            first | have ge111 := slot_of e111 | have ge111 := slot_un e111
            clear hO hD
            first | (go_simp; exact hK.out _ _ (Ex.refl _) rfl) | (rcases ge111 with ge111 | ge111 <;> (go_simp; exact hK.out _ _ (Ex.refl _) rfl))
          apply Steps.one (MP.eq _) 26 rfl
          · intro o ho FA x hO hD K hK
            obtain rfl := Option.some.inj ho.symm
            clear ho
            have ev120 : FA.eval (.tmp 120) = _ := hD 24 120 (by kernel_rfl)
            have e120 := (eval_tmp FA 120).symm.trans ev120
            replace ev120 := Lib.hid ev120
            have ev111 : FA.eval (.tmp 111) = _ := hD 15 111 (by kernel_rfl)
            have e111 := (eval_tmp FA 111).symm.trans ev111
            replace ev111 := Lib.hid ev111
            first | have ge111 := slot_of e111 | have ge111 := slot_un e111
            clear hO hD
            first | (go_simp; exact hK.out _ _ (Ex.refl _) rfl) | (rcases ge111 with ge111 | ge111 <;> (go_simp; exact hK.out _ _ (Ex.refl _) rfl))
          apply Steps.one (MP.eq _) 27 rfl
          · intro o ho FA x hO hD K hK
            obtain rfl := Option.some.inj ho.symm
            clear ho
            have ev119 : FA.eval (.tmp 119) = _ := hD 23 119 (by kernel_rfl)
            have e119 := (eval_tmp FA 119).symm.trans ev119
            replace ev119 := Lib.hid ev119
            have ev121 : FA.eval (.tmp 121) = _ := hD 25 121 (by kernel_rfl)
            have e121 := (eval_tmp FA 121).symm.trans ev121
            replace ev121 := Lib.hid ev121
            have ev111 : FA.eval (.tmp 111) = _ := hD 15 111 (by kernel_rfl)
            have e111 := (eval_tmp FA 111).symm.trans ev111
            replace ev111 := Lib.hid ev111
            first | have ge111 := slot_of e111 | have ge111 := slot_un e111
            clear hO hD
            first | (go_simp; exact hK.out _ _ (Ex.refl _) rfl) | (rcases ge111 with ge111 | ge111 <;> (go_simp; exact hK.out _ _ (Ex.refl _) rfl))
          apply Steps.one (MP.eq _) 28 rfl
          · intro o ho FA x hO hD K hK
            obtain rfl := Option.some.inj ho.symm
            clear ho
            have ev122 : FA.eval (.tmp 122) = _ := hD 26 122 (by kernel_rfl)
            have e122 := (eval_tmp FA 122).symm.trans ev122
            replace ev122 := Lib.hid ev122
            have ev111 : FA.eval (.tmp 111) = _ := hD 15 111 (by kernel_rfl)
            have e111 := (eval_tmp FA 111).symm.trans ev111
            replace ev111 := Lib.hid ev111
            first | have ge111 := slot_of e111 | have ge111 := slot_un e111
            clear hO hD
            first | (go_simp; exact hK.out _ _ (Ex.refl _) rfl) | (rcases ge111 with ge111 | ge111 <;> (go_simp; exact hK.out _ _ (Ex.refl _) rfl))
          apply Steps.one (MP.eq _) 29 rfl
          · intro o ho FA x hO hD K hK
            obtain rfl := Option.some.inj ho.symm
            clear ho
            have ev116 : FA.eval (.tmp 116) = _ := hD 20 116 (by kernel_rfl)
            have e116 := (eval_tmp FA 116).symm.trans ev116
            replace ev116 := Lib.hid ev116
            have ev123 : FA.eval (.tmp 123) = _ := hD 27 123 (by kernel_rfl)
            have e123 := (eval_tmp FA 123).symm.trans ev123
            replace ev123 := Lib.hid ev123
            have ev111 : FA.eval (.tmp 111) = _ := hD 15 111 (by kernel_rfl)
            have e111 := (eval_tmp FA 111).symm.trans ev111
            replace ev111 := Lib.hid ev111
            first | have ge111 := slot_of e111 | have ge111 := slot_un e111
            clear hO hD
            first | (go_simp; exact hK.out _ _ (Ex.refl _) rfl) | (rcases ge111 with ge111 | ge111 <;> (go_simp; exact hK.out _ _ (Ex.refl _) rfl))
          apply Steps.one (MP.eq _) 30 rfl
          · intro o ho FA x hO hD K hK
            obtain rfl := Option.some.inj ho.symm
            clear ho
            have ev124 : FA.eval (.tmp 124) = _ := hD 28 124 (by kernel_rfl)
            have e124 := (eval_tmp FA 124).symm.trans ev124
            replace ev124 := Lib.hid ev124
            have ev111 : FA.eval (.tmp 111) = _ := hD 15 111 (by kernel_rfl)
            have e111 := (eval_tmp FA 111).symm.trans ev111
            replace ev111 := Lib.hid ev111
            first | have ge111 := slot_of e111 | have ge111 := slot_un e111
            clear hO hD
            refine wanted_ifG (by go_simp) ?_
            have q9 := (HC.out (plus W6 x.bs x.d) (below_plus _ _ _)).2.1
            go_simp
            exact hK.out _ _ (Ex.refl _) rfl
          apply Steps.one (MP.eq _) 31 rfl
          · intro o ho FA x hO hD K hK
            obtain rfl := Option.some.inj ho.symm
            clear ho
            have ev115 : FA.eval (.tmp 115) = _ := hD 19 115 (by kernel_rfl)
            have e115 := (eval_tmp FA 115).symm.trans ev115
            replace ev115 := Lib.hid ev115
            have ev125 : FA.eval (.tmp 125) = _ := hD 29 125 (by kernel_rfl)
            have e125 := (eval_tmp FA 125).symm.trans ev125
            replace ev125 := Lib.hid ev125
            have ev111 : FA.eval (.tmp 111) = _ := hD 15 111 (by kernel_rfl)
            have e111 := (eval_tmp FA 111).symm.trans ev111
            replace ev111 := Lib.hid ev111
            first | have ge111 := slot_of e111 | have ge111 := slot_un e111
            clear hO hD
            first | (go_simp; exact hK.out _ _ (Ex.refl _) rfl) | (rcases ge111 with ge111 | ge111 <;> (go_simp; exact hK.out _ _ (Ex.refl _) rfl))
          apply Steps.one (MP.eq _) 32 rfl
          · intro o ho FA x hO hD K hK
            obtain rfl := Option.some.inj ho.symm
            clear ho
            have ev111 : FA.eval (.tmp 111) = _ := hD 15 111 (by kernel_rfl)
            have e111 := (eval_tmp FA 111).symm.trans ev111
            replace ev111 := Lib.hid ev111
            have ev126 : FA.eval (.tmp 126) = _ := hD 30 126 (by kernel_rfl)
            have e126 := (eval_tmp FA 126).symm.trans ev126
            replace ev126 := Lib.hid ev126
            clear hO hD
            go_simp
            exact hK.out _ _ (Ex.refl _) rfl
          apply Steps.one (MP.eq _) 33 rfl
          · intro o ho FA x hO hD K hK
            obtain rfl := Option.some.inj ho.symm
            clear ho
            have ev127 : FA.eval (.tmp 127) = _ := hD 31 127 (by kernel_rfl)
            have e127 := (eval_tmp FA 127).symm.trans ev127
            replace ev127 := Lib.hid ev127
            clear hO hD
            go_simp
            exact hK.out _ _ (Ex.refl _) rfl
          apply Steps.one (MP.eq _) 34 rfl
          · intro o ho FA x hO hD K hK
            obtain rfl := Option.some.inj ho.symm
            clear ho
            have ev128 : FA.eval (.tmp 128) = _ := hD 32 128 (by kernel_rfl)
            have e128 := (eval_tmp FA 128).symm.trans ev128
            replace ev128 := Lib.hid ev128
            first | have ge128 := slot_of e128 | have ge128 := slot_un e128
            clear hO hD
            refine wanted_ifG (by go_simp) ?_
            go_simp
            refine (awake42 _ (HTAB.out _ (below_plus W6 x.bs x.d))).mono ?_
            rintro e w1 ⟨bs9, d9, rfl, rfl⟩
            exact hK.out _ _ (Ex.plus_ _ _ _) rfl
          apply Steps.one (MP.eq _) 35 rfl
          · intro o ho FA x hO hD K hK
            obtain rfl := Option.some.inj ho.symm
            clear ho
            have ev128 : FA.eval (.tmp 128) = _ := hD 32 128 (by kernel_rfl)
            have e128 := (eval_tmp FA 128).symm.trans ev128
            replace ev128 := Lib.hid ev128
            have ev129 : FA.eval (.tmp 129) = _ := hD 33 129 (by kernel_rfl)
            have e129 := (eval_tmp FA 129).symm.trans ev129
            replace ev129 := Lib.hid ev129
            clear hO hD
            go_simp
            exact hK.out _ _ (Ex.refl _) rfl
          apply Steps.one (MP.eq _) 36 rfl
          · intro o ho FA x hO hD K hK
            obtain rfl := Option.some.inj ho.symm
            clear ho
            have ev130 : FA.eval (.tmp 130) = _ := hD 34 130 (by kernel_rfl)
            have e130 := (eval_tmp FA 130).symm.trans ev130
            replace ev130 := Lib.hid ev130
            clear hO hD
            go_simp
            exact hK.out _ _ (Ex.refl _) rfl
          refine Steps.fin_ (fun vs x hp => ?_)
          have p0 : vs 0 = _ := hp 0 (by omega)
          have p1 : vs 1 = _ := hp 1 (by omega)
          have p2 : vs 2 = _ := hp 2 (by omega)
          have p3 : vs 3 = _ := hp 3 (by omega)
          have p4 : vs 4 = _ := hp 4 (by omega)
          have p5 : vs 5 = _ := hp 5 (by omega)
          have p6 : vs 6 = _ := hp 6 (by omega)
          have p7 : vs 7 = _ := hp 7 (by omega)
          have p8 : vs 8 = _ := hp 8 (by omega)
          have p9 : vs 9 = _ := hp 9 (by omega)
          have p10 : vs 10 = _ := hp 10 (by omega)
          have p11 : vs 11 = _ := hp 11 (by omega)
          have p12 : vs 12 = _ := hp 12 (by omega)
          have p13 : vs 13 = _ := hp 13 (by omega)
          have p14 : vs 14 = _ := hp 14 (by omega)
          have p15 : vs 15 = _ := hp 15 (by omega)
          have p16 : vs 16 = _ := hp 16 (by omega)
          have p17 : vs 17 = _ := hp 17 (by omega)
          have p18 : vs 18 = _ := hp 18 (by omega)
          have p19 : vs 19 = _ := hp 19 (by omega)
          have p20 : vs 20 = _ := hp 20 (by omega)
          have p21 : vs 21 = _ := hp 21 (by omega)
          have p22 : vs 22 = _ := hp 22 (by omega)
          have p23 : vs 23 = _ := hp 23 (by omega)
          have p24 : vs 24 = _ := hp 24 (by omega)
          have p25 : vs 25 = _ := hp 25 (by omega)
          have p26 : vs 26 = _ := hp 26 (by omega)
          have p27 : vs 27 = _ := hp 27 (by omega)
          have p28 : vs 28 = _ := hp 28 (by omega)
          have p29 : vs 29 = _ := hp 29 (by omega)
          have p30 : vs 30 = _ := hp 30 (by omega)
          have p31 : vs 31 = _ := hp 31 (by omega)
          have p32 : vs 32 = _ := hp 32 (by omega)
          have p33 : vs 33 = _ := hp 33 (by omega)
          have p34 : vs 34 = _ := hp 34 (by omega)
          have p35 : vs 35 = _ := hp 35 (by omega)
          clear hp
          simp only [List.take_succ_cons, List.take_zero, List.drop_succ_cons, List.drop_zero, putAll, Nat.zero_add, Nat.reduceAdd, Act.put, List.setIfInBounds_toArray, List.set_cons_zero, List.set_cons_succ, p0, p1, p2, p3, p4, p5, p6, p7, p8, p9, p10, p11, p12, p13, p14, p15, p16, p17, p18, p19, p20, p21, p22, p23, p24, p25, p26, p27, p28, p29, p30, p31, p32, p33, p34, p35]
          clear p0 p1 p2 p3 p4 p5 p6 p7 p8 p9 p10 p11 p12 p13 p14 p15 p16 p17 p18 p19 p20 p21 p22 p23 p24 p25 p26 p27 p28 p29 p30 p31 p32 p33 p34 p35
          clear vs
          go_wp2
          go_ret
          exact RetV.mk (belowP be x.bs x.d)
        · have i5 : (0 : Int) ≤ at_ := by omega
          by_cases hhi : (p : Int) ≤ at_
          · have i6 : ¬ at_ < (p : Int) := by omega
            have HGZ := Lib.hid (getZ_hi T at_ (by omega))
            go_upto_region 15 with (fail)
            go_wp2
            refine wp_relS 36 131 rfl (by kernel_rfl) (by kernel_rfl) ?_
            apply Steps.one (MP.eq _) 1 rfl
            · intro o ho FA x hO hD K hK
              obtain rfl := Option.some.inj ho.symm
              clear ho
              have e12 := hO 12 (by kernel_rfl)
              simp only [eval_tmp, List.getElem?_toArray, List.getElem?_cons_succ, List.getElem?_cons_zero, Option.getD_some] at e12
              have ev12 := Lib.hid ((eval_tmp FA 12).trans e12)
              clear hO hD
              go_simp
              exact hK.out _ _ (Ex.refl _) rfl
            apply Steps.one (MP.eq _) 2 rfl
            · intro o ho FA x hO hD K hK
              obtain rfl := Option.some.inj ho.symm
              clear ho
              have ev96 : FA.eval (.tmp 96) = _ := hD 0 96 (by kernel_rfl)
              have e96 := (eval_tmp FA 96).symm.trans ev96
              replace ev96 := Lib.hid ev96
              clear hO hD
              go_simp
              exact hK.out _ _ (Ex.refl _) rfl
            apply Steps.one (MP.eq _) 3 rfl
            · intro o ho FA x hO hD K hK
              obtain rfl := Option.some.inj ho.symm
              clear ho
              have ev97 : FA.eval (.tmp 97) = _ := hD 1 97 (by kernel_rfl)
              have e97 := (eval_tmp FA 97).symm.trans ev97
              replace ev97 := Lib.hid ev97
              clear hO hD
              go_simp
              exact hK.out _ _ (Ex.refl _) rfl
            apply Steps.one (MP.eq _) 4 rfl
            · intro o ho FA x hO hD K hK
              obtain rfl := Option.some.inj ho.symm
              clear ho
              have e11 := hO 11 (by kernel_rfl)
              simp only [eval_tmp, List.getElem?_toArray, List.getElem?_cons_succ, List.getElem?_cons_zero, Option.getD_some] at e11
              have ev11 := Lib.hid ((eval_tmp FA 11).trans e11)
              have ev98 : FA.eval (.tmp 98) = _ := hD 2 98 (by kernel_rfl)
              have e98 := (eval_tmp FA 98).symm.trans ev98
              replace ev98 := Lib.hid ev98
              first | have ge98 := slot_of e98 | have ge98 := slot_un e98
              clear hO hD
              first | (refine wanted_ifG ?_ ?_; (· go_simp); refine wp_ldA 27 (.tmp 11) rfl (tbC A2 p c2) ev11.out (hT.later (below_plus _ _ _)) (whole_ _) o1 o2 (szTb _ _ _) ?_; exact hK.out _ _ (Ex.refl _) rfl) | (go_simp; exact hK.out _ _ (Ex.refl _) rfl) | (rcases ge98 with ge98 | ge98 <;> (go_simp; exact hK.out _ _ (Ex.refl _) rfl))
            apply Steps.one (MP.eq _) 5 rfl
            · intro o ho FA x hO hD K hK
              obtain rfl := Option.some.inj ho.symm
              clear ho
              have ev99 : FA.eval (.tmp 99) = _ := hD 3 99 (by kernel_rfl)
              have e99 := (eval_tmp FA 99).symm.trans ev99
              replace ev99 := Lib.hid ev99
              have ev98 : FA.eval (.tmp 98) = _ := hD 2 98 (by kernel_rfl)
              have e98 := (eval_tmp FA 98).symm.trans ev98
              replace ev98 := Lib.hid ev98
              first | have ge98 := slot_of e98 | have ge98 := slot_un e98
              clear hO hD
              refine wanted_ifG (by go_simp) ?_
              go_simp
              refine (len_tb A2 p c2 _).mono ?_
              rintro e w1 ⟨bs9, d9, rfl, rfl⟩
              exact hK.out _ _ (Ex.plus_ _ _ _) rfl
            apply Steps.one (MP.eq _) 6 rfl
            · intro o ho FA x hO hD K hK
              obtain rfl := Option.some.inj ho.symm
              clear ho
              have e1 := hO 1 (by kernel_rfl)
              simp only [eval_tmp, List.getElem?_toArray, List.getElem?_cons_succ, List.getElem?_cons_zero, Option.getD_some] at e1
              have ev1 := Lib.hid ((eval_tmp FA 1).trans e1)
              have ev98 : FA.eval (.tmp 98) = _ := hD 2 98 (by kernel_rfl)
              have e98 := (eval_tmp FA 98).symm.trans ev98
              replace ev98 := Lib.hid ev98
              first | have ge98 := slot_of e98 | have ge98 := slot_un e98
              clear hO hD
              first | (go_simp; exact hK.out _ _ (Ex.refl _) rfl) | (rcases ge98 with ge98 | ge98 <;> (go_simp; exact hK.out _ _ (Ex.refl _) rfl))
            apply Steps.one (MP.eq _) 7 rfl
            · intro o ho FA x hO hD K hK
              obtain rfl := Option.some.inj ho.symm
              clear ho
              have ev100 : FA.eval (.tmp 100) = _ := hD 4 100 (by kernel_rfl)
              have e100 := (eval_tmp FA 100).symm.trans ev100
              replace ev100 := Lib.hid ev100
              have ev101 : FA.eval (.tmp 101) = _ := hD 5 101 (by kernel_rfl)
              have e101 := (eval_tmp FA 101).symm.trans ev101
              replace ev101 := Lib.hid ev101
              have ev98 : FA.eval (.tmp 98) = _ := hD 2 98 (by kernel_rfl)
              have e98 := (eval_tmp FA 98).symm.trans ev98
              replace ev98 := Lib.hid ev98
              first | have ge98 := slot_of e98 | have ge98 := slot_un e98
              clear hO hD
              first | (go_simp; exact hK.out _ _ (Ex.refl _) rfl) | (rcases ge98 with ge98 | ge98 <;> (go_simp; exact hK.out _ _ (Ex.refl _) rfl))
            apply Steps.one (MP.eq _) 8 rfl
            · intro o ho FA x hO hD K hK
              obtain rfl := Option.some.inj ho.symm
              clear ho
              have ev98 : FA.eval (.tmp 98) = _ := hD 2 98 (by kernel_rfl)
              have e98 := (eval_tmp FA 98).symm.trans ev98
              replace ev98 := Lib.hid ev98
              have ev102 : FA.eval (.tmp 102) = _ := hD 6 102 (by kernel_rfl)
              have e102 := (eval_tmp FA 102).symm.trans ev102
              replace ev102 := Lib.hid ev102
              clear hO hD
              go_simp
              exact hK.out _ _ (Ex.refl _) rfl
            apply Steps.one (MP.eq _) 9 rfl
            · intro o ho FA x hO hD K hK
              obtain rfl := Option.some.inj ho.symm
              clear ho
              have ev103 : FA.eval (.tmp 103) = _ := hD 7 103 (by kernel_rfl)
              have e103 := (eval_tmp FA 103).symm.trans ev103
              replace ev103 := Lib.hid ev103
              clear hO hD
              go_simp
              exact hK.out _ _ (Ex.refl _) rfl
            apply Steps.one (MP.eq _) 10 rfl
            · intro o ho FA x hO hD K hK
              obtain rfl := Option.some.inj ho.symm
              clear ho
              have e11 := hO 11 (by kernel_rfl)
              simp only [eval_tmp, List.getElem?_toArray, List.getElem?_cons_succ, List.getElem?_cons_zero, Option.getD_some] at e11
              have ev11 := Lib.hid ((eval_tmp FA 11).trans e11)
              have ev104 : FA.eval (.tmp 104) = _ := hD 8 104 (by kernel_rfl)
              have e104 := (eval_tmp FA 104).symm.trans ev104
              replace ev104 := Lib.hid ev104
              first | have ge104 := slot_of e104 | have ge104 := slot_un e104
              clear hO hD
              first | (refine wanted_ifG ?_ ?_; (· go_simp); refine wp_ldA 27 (.tmp 11) rfl (tbC A2 p c2) ev11.out (hT.later (below_plus _ _ _)) (whole_ _) o1 o2 (szTb _ _ _) ?_; exact hK.out _ _ (Ex.refl _) rfl) | (go_simp; exact hK.out _ _ (Ex.refl _) rfl) | (rcases ge104 with ge104 | ge104 <;> (go_simp; exact hK.out _ _ (Ex.refl _) rfl))
            apply Steps.one (MP.eq _) 11 rfl
            · intro o ho FA x hO hD K hK
              obtain rfl := Option.some.inj ho.symm
              clear ho
              have e3 := hO 3 (by kernel_rfl)
              simp only [eval_tmp, List.getElem?_toArray, List.getElem?_cons_succ, List.getElem?_cons_zero, Option.getD_some] at e3
              have ev3 := Lib.hid ((eval_tmp FA 3).trans e3)
              have ev104 : FA.eval (.tmp 104) = _ := hD 8 104 (by kernel_rfl)
              have e104 := (eval_tmp FA 104).symm.trans ev104
              replace ev104 := Lib.hid ev104
              first | have ge104 := slot_of e104 | have ge104 := slot_un e104
              clear hO hD
              first | (go_simp; exact hK.out _ _ (Ex.refl _) rfl) | (rcases ge104 with ge104 | ge104 <;> (go_simp; exact hK.out _ _ (Ex.refl _) rfl))
            apply Steps.one (MP.eq (.int .i64 0)) 12 rfl
            · intro o ho FA x hO hD K hK
              obtain rfl := Option.some.inj ho.symm
              clear ho
              have ev105 : FA.eval (.tmp 105) = _ := hD 9 105 (by kernel_rfl)
              have e105 := (eval_tmp FA 105).symm.trans ev105
              replace ev105 := Lib.hid ev105
              have ev106 : FA.eval (.tmp 106) = _ := hD 10 106 (by kernel_rfl)
              have e106 := (eval_tmp FA 106).symm.trans ev106
              replace ev106 := Lib.hid ev106
              have ev104 : FA.eval (.tmp 104) = _ := hD 8 104 (by kernel_rfl)
              have e104 := (eval_tmp FA 104).symm.trans ev104
              replace ev104 := Lib.hid ev104
              first | have ge104 := slot_of e104 | have ge104 := slot_un e104
              clear hO hD
              refine wanted_ifG (by go_simp) ?_
              go_simp
              refine (at_tb T at_ A2 p c2 _ (HC.out _ (below_plus _ _ _)).1 (by omega) (by omega)).mono ?_
              rintro e w1 ⟨bs9, d9, rfl, rfl⟩
              exact hK.out _ _ (Ex.plus_ _ _ _) (congrArg (Value.int .i64) HGZ.out)
            apply Steps.one (MP.eq _) 13 rfl
            · intro o ho FA x hO hD K hK
              obtain rfl := Option.some.inj ho.symm
              clear ho
              have e15 := hO 15 (by kernel_rfl)
              simp only [eval_tmp, List.getElem?_toArray, List.getElem?_cons_succ, List.getElem?_cons_zero, Option.getD_some] at e15
              have ev15 := Lib.hid ((eval_tmp FA 15).trans e15)
              have ev104 : FA.eval (.tmp 104) = _ := hD 8 104 (by kernel_rfl)
              have e104 := (eval_tmp FA 104).symm.trans ev104
              replace ev104 := Lib.hid ev104
              first | have ge104 := slot_of e104 | have ge104 := slot_un e104
              clear hO hD
              first | (go_simp; exact hK.out _ _ (Ex.refl _) rfl) | (rcases ge104 with ge104 | ge104 <;> (go_simp; exact hK.out _ _ (Ex.refl _) rfl))
            apply Steps.one (MP.eq _) 14 rfl
            · intro o ho FA x hO hD K hK
              obtain rfl := Option.some.inj ho.symm
              clear ho
              have ev107 : FA.eval (.tmp 107) = _ := hD 11 107 (by kernel_rfl)
              have e107 := (eval_tmp FA 107).symm.trans ev107
              replace ev107 := Lib.hid ev107
              have ev108 : FA.eval (.tmp 108) = _ := hD 12 108 (by kernel_rfl)
              have e108 := (eval_tmp FA 108).symm.trans ev108
              replace ev108 := Lib.hid ev108
              have ev104 : FA.eval (.tmp 104) = _ := hD 8 104 (by kernel_rfl)
              have e104 := (eval_tmp FA 104).symm.trans ev104
              replace ev104 := Lib.hid ev104
              first | have ge104 := slot_of e104 | have ge104 := slot_un e104
              clear hO hD
              first | (go_simp; exact hK.out _ _ (Ex.refl _) rfl) | (rcases ge104 with ge104 | ge104 <;> (go_simp; exact hK.out _ _ (Ex.refl _) rfl))
            apply Steps.one (MP.eq _) 15 rfl
            · intro o ho FA x hO hD K hK
              obtain rfl := Option.some.inj ho.symm
              clear ho
              have ev104 : FA.eval (.tmp 104) = _ := hD 8 104 (by kernel_rfl)
              have e104 := (eval_tmp FA 104).symm.trans ev104
              replace ev104 := Lib.hid ev104
              have ev109 : FA.eval (.tmp 109) = _ := hD 13 109 (by kernel_rfl)
              have e109 := (eval_tmp FA 109).symm.trans ev109
              replace ev109 := Lib.hid ev109
              clear hO hD
              go_simp
              exact hK.out _ _ (Ex.refl _) rfl
            apply Steps.one (MP.eq _) 16 rfl
            · intro o ho FA x hO hD K hK
              obtain rfl := Option.some.inj ho.symm
              clear ho
              have ev110 : FA.eval (.tmp 110) = _ := hD 14 110 (by kernel_rfl)
              have e110 := (eval_tmp FA 110).symm.trans ev110
              replace ev110 := Lib.hid ev110
              clear hO hD
              go_simp
              exact hK.out _ _ (Ex.refl _) rfl
            apply Steps.one (MP.eq _) 17 rfl
            · intro o ho FA x hO hD K hK
              obtain rfl := Option.some.inj ho.symm
              clear ho
              have e11 := hO 11 (by kernel_rfl)
              simp only [eval_tmp, List.getElem?_toArray, List.getElem?_cons_succ, List.getElem?_cons_zero, Option.getD_some] at e11
              have ev11 := Lib.hid ((eval_tmp FA 11).trans e11)
              have ev111 : FA.eval (.tmp 111) = _ := hD 15 111 (by kernel_rfl)
              have e111 := (eval_tmp FA 111).symm.trans ev111
              replace ev111 := Lib.hid ev111
              first | have ge111 := slot_of e111 | have ge111 := slot_un e111
              clear hO hD
              first | (refine wanted_ifG ?_ ?_; (· go_simp); refine wp_ldA 27 (.tmp 11) rfl (tbC A2 p c2) ev11.out (hT.later (below_plus _ _ _)) (whole_ _) o1 o2 (szTb _ _ _) ?_; exact hK.out _ _ (Ex.refl _) rfl) | (go_simp; exact hK.out _ _ (Ex.refl _) rfl) | (rcases ge111 with ge111 | ge111 <;> (go_simp; exact hK.out _ _ (Ex.refl _) rfl))
            apply Steps.one (MP.eq _) 18 rfl
            · intro o ho FA x hO hD K hK
              obtain rfl := Option.some.inj ho.symm
              clear ho
              have e5 := hO 5 (by kernel_rfl)
              simp only [eval_tmp, List.getElem?_toArray, List.getElem?_cons_succ, List.getElem?_cons_zero, Option.getD_some] at e5
              have ev5 := Lib.hid ((eval_tmp FA 5).trans e5)
              have ev111 : FA.eval (.tmp 111) = _ := hD 15 111 (by kernel_rfl)
              have e111 := (eval_tmp FA 111).symm.trans ev111
              replace ev111 := Lib.hid ev111
              first | have ge111 := slot_of e111 | have ge111 := slot_un e111
              clear hO hD
              first | (refine wanted_ifG ?_ ?_; (· go_simp); refine wp_ldA 22 (.tmp 5) rfl (bcs key) ev5.out (hk.later (below_plus _ _ _)) (whole_ _) u1 u2 (szK16a key hk0) ?_; exact hK.out _ _ (Ex.refl _) rfl) | (go_simp; exact hK.out _ _ (Ex.refl _) rfl) | (rcases ge111 with ge111 | ge111 <;> (go_simp; exact hK.out _ _ (Ex.refl _) rfl))
            apply Steps.one (MP.eq _) 19 rfl
            · intro o ho FA x hO hD K hK
              obtain rfl := Option.some.inj ho.symm
              clear ho
              have e4 := hO 4 (by kernel_rfl)
              simp only [eval_tmp, List.getElem?_toArray, List.getElem?_cons_succ, List.getElem?_cons_zero, Option.getD_some] at e4
              have ev4 := Lib.hid ((eval_tmp FA 4).trans e4)
              have ev111 : FA.eval (.tmp 111) = _ := hD 15 111 (by kernel_rfl)
              have e111 := (eval_tmp FA 111).symm.trans ev111
              replace ev111 := Lib.hid ev111
              first | have ge111 := slot_of e111 | have ge111 := slot_un e111
              clear hO hD
              first | (go_simp; exact hK.out _ _ (Ex.refl _) rfl) | (rcases ge111 with ge111 | ge111 <;> (go_simp; exact hK.out _ _ (Ex.refl _) rfl))
            apply Steps.one (MP.eq (.int .i64 v)) 20 rfl
            · intro o ho FA x hO hD K hK
              obtain rfl := Option.some.inj ho.symm
              clear ho
              have ev112 : FA.eval (.tmp 112) = _ := hD 16 112 (by kernel_rfl)
              have e112 := (eval_tmp FA 112).symm.trans ev112
              replace ev112 := Lib.hid ev112
              have ev113 : FA.eval (.tmp 113) = _ := hD 17 113 (by kernel_rfl)
              have e113 := (eval_tmp FA 113).symm.trans ev113
              replace ev113 := Lib.hid ev113
              have ev114 : FA.eval (.tmp 114) = _ := hD 18 114 (by kernel_rfl)
              have e114 := (eval_tmp FA 114).symm.trans ev114
              replace ev114 := Lib.hid ev114
              have ev111 : FA.eval (.tmp 111) = _ := hD 15 111 (by kernel_rfl)
              have e111 := (eval_tmp FA 111).symm.trans ev111
              replace ev111 := Lib.hid ev111
              first | have ge111 := slot_of e111 | have ge111 := slot_un e111
              clear hO hD
              refine wanted_ifG (by go_simp) ?_
              go_simp
              refine (HPI.out _ (HC.out _ (below_plus _ _ _)).1 (HC.out _ (below_plus _ _ _)).2.2).mono ?_
              rintro e w1 ⟨bs9, d9, rfl, rfl⟩
              exact hK.out _ _ (Ex.plus_ _ _ _) rfl
            apply Steps.one (MP.eq _) 21 rfl
            · intro o ho FA x hO hD K hK
              obtain rfl := Option.some.inj ho.symm
              clear ho
              have e13 := hO 13 (by kernel_rfl)
              simp only [eval_tmp, List.getElem?_toArray, List.getElem?_cons_succ, List.getElem?_cons_zero, Option.getD_some] at e13
              have ev13 := Lib.hid ((eval_tmp FA 13).trans e13)
              have ev111 : FA.eval (.tmp 111) = _ := hD 15 111 (by kernel_rfl)
              have e111 := (eval_tmp FA 111).symm.trans ev111
              replace ev111 := Lib.hid ev111
              first | have ge111 := slot_of e111 | have ge111 := slot_un e111
              clear hO hD
              first | (go_simp; exact hK.out _ _ (Ex.refl _) rfl) | (rcases ge111 with ge111 | ge111 <;> (go_simp; exact hK.out _ _ (Ex.refl _) rfl))
            apply Steps.one (MP.eq _) 22 rfl
            · intro o ho FA x hO hD K hK
              obtain rfl := Option.some.inj ho.symm
              clear ho
              have e5 := hO 5 (by kernel_rfl)
              simp only [eval_tmp, List.getElem?_toArray, List.getElem?_cons_succ, List.getElem?_cons_zero, Option.getD_some] at e5
              have ev5 := Lib.hid ((eval_tmp FA 5).trans e5)
              have ev111 : FA.eval (.tmp 111) = _ := hD 15 111 (by kernel_rfl)
              have e111 := (eval_tmp FA 111).symm.trans ev111
              replace ev111 := Lib.hid ev111
              first | have ge111 := slot_of e111 | have ge111 := slot_un e111
              clear hO hD
              first | (refine wanted_ifG ?_ ?_; (· go_simp); refine wp_ldA 22 (.tmp 5) rfl (bcs key) ev5.out (hk.later (below_plus _ _ _)) (whole_ _) u1 u2 (szK16a key hk0) ?_; exact hK.out _ _ (Ex.refl _) rfl) | (go_simp; exact hK.out _ _ (Ex.refl _) rfl) | (rcases ge111 with ge111 | ge111 <;> (go_simp; exact hK.out _ _ (Ex.refl _) rfl))
            apply Steps.one (MP.eq _) 23 rfl
            · intro o ho FA x hO hD K hK
              obtain rfl := Option.some.inj ho.symm
              clear ho
              have e4 := hO 4 (by kernel_rfl)
              simp only [eval_tmp, List.getElem?_toArray, List.getElem?_cons_succ, List.getElem?_cons_zero, Option.getD_some] at e4
              have ev4 := Lib.hid ((eval_tmp FA 4).trans e4)
              have ev111 : FA.eval (.tmp 111) = _ := hD 15 111 (by kernel_rfl)
              have e111 := (eval_tmp FA 111).symm.trans ev111
              replace ev111 := Lib.hid ev111
              first | have ge111 := slot_of e111 | have ge111 := slot_un e111
              clear hO hD
              first | (go_simp; exact hK.out _ _ (Ex.refl _) rfl) | (rcases ge111 with ge111 | ge111 <;> (go_simp; exact hK.out _ _ (Ex.refl _) rfl))
            apply Steps.one (MP.eq (.int .u64 (X : Int))) 24 rfl
            · intro o ho FA x hO hD K hK
              obtain rfl := Option.some.inj ho.symm
              clear ho
              have ev117 : FA.eval (.tmp 117) = _ := hD 21 117 (by kernel_rfl)
              have e117 := (eval_tmp FA 117).symm.trans ev117
              replace ev117 := Lib.hid ev117
              have ev118 : FA.eval (.tmp 118) = _ := hD 22 118 (by kernel_rfl)
              have e118 := (eval_tmp FA 118).symm.trans ev118
              replace ev118 := Lib.hid ev118
              have ev111 : FA.eval (.tmp 111) = _ := hD 15 111 (by kernel_rfl)
              have e111 := (eval_tmp FA 111).symm.trans ev111
              replace ev111 := Lib.hid ev111
              first | have ge111 := slot_of e111 | have ge111 := slot_un e111
              clear hO hD
              refine wanted_ifG (by go_simp) ?_
              go_simp
              refine (HSU.out _ (HC.out _ (below_plus _ _ _)).2.2).mono ?_
              rintro e w1 ⟨bs9, d9, rfl, rfl⟩
              exact hK.out _ _ (Ex.plus_ _ _ _) rfl
            apply Steps.one (MP.eq _) 25 rfl
            · intro o ho FA x hO hD K hK
              obtain rfl := Option.some.inj ho.symm
              clear ho
              have e1 := hO 1 (by kernel_rfl)
              simp only [eval_tmp, List.getElem?_toArray, List.getElem?_cons_succ, List.getElem?_cons_zero, Option.getD_some] at e1
              have ev1 := Lib.hid ((eval_tmp FA 1).trans e1)
              have ev111 : FA.eval (.tmp 111) = _ := hD 15 111 (by kernel_rfl)
              have e111 := (eval_tmp FA 111).symm.trans ev111
              replace ev111 := Lib.hid ev111
              first | have ge111 := slot_of e111 | have ge111 := slot_un e111
              clear hO hD
              first | (go_simp; exact hK.out _ _ (Ex.refl _) rfl) | (rcases ge111 with ge111 | ge111 <;> (go_simp; exact hK.out _ _ (Ex.refl _) rfl))
            apply Steps.one (MP.eq _) 26 rfl
            · intro o ho FA x hO hD K hK
              obtain rfl := Option.some.inj ho.symm
              clear ho
              have ev120 : FA.eval (.tmp 120) = _ := hD 24 120 (by kernel_rfl)
              have e120 := (eval_tmp FA 120).symm.trans ev120
              replace ev120 := Lib.hid ev120
              have ev111 : FA.eval (.tmp 111) = _ := hD 15 111 (by kernel_rfl)
              have e111 := (eval_tmp FA 111).symm.trans ev111
              replace ev111 := Lib.hid ev111
              first | have ge111 := slot_of e111 | have ge111 := slot_un e111
              clear hO hD
              first | (go_simp; exact hK.out _ _ (Ex.refl _) rfl) | (rcases ge111 with ge111 | ge111 <;> (go_simp; exact hK.out _ _ (Ex.refl _) rfl))
            apply Steps.one (MP.eq _) 27 rfl
            · intro o ho FA x hO hD K hK
              obtain rfl := Option.some.inj ho.symm
              clear ho
              have ev119 : FA.eval (.tmp 119) = _ := hD 23 119 (by kernel_rfl)
              have e119 := (eval_tmp FA 119).symm.trans ev119
              replace ev119 := Lib.hid ev119
              have ev121 : FA.eval (.tmp 121) = _ := hD 25 121 (by kernel_rfl)
              have e121 := (eval_tmp FA 121).symm.trans ev121
              replace ev121 := Lib.hid ev121
              have ev111 : FA.eval (.tmp 111) = _ := hD 15 111 (by kernel_rfl)
              have e111 := (eval_tmp FA 111).symm.trans ev111
              replace ev111 := Lib.hid ev111
              first | have ge111 := slot_of e111 | have ge111 := slot_un e111
              clear hO hD
              first | (go_simp; exact hK.out _ _ (Ex.refl _) rfl) | (rcases ge111 with ge111 | ge111 <;> (go_simp; exact hK.out _ _ (Ex.refl _) rfl))
            apply Steps.one (MP.eq _) 28 rfl
            · intro o ho FA x hO hD K hK
              obtain rfl := Option.some.inj ho.symm
              clear ho
              have ev122 : FA.eval (.tmp 122) = _ := hD 26 122 (by kernel_rfl)
              have e122 := (eval_tmp FA 122).symm.trans ev122
              replace ev122 := Lib.hid ev122
              have ev111 : FA.eval (.tmp 111) = _ := hD 15 111 (by kernel_rfl)
              have e111 := (eval_tmp FA 111).symm.trans ev111
              replace ev111 := Lib.hid ev111
              first | have ge111 := slot_of e111 | have ge111 := slot_un e111
              clear hO hD
              first | (go_simp; exact hK.out _ _ (Ex.refl _) rfl) | (rcases ge111 with ge111 | ge111 <;> (go_simp; exact hK.out _ _ (Ex.refl _) rfl))
            apply Steps.one (MP.eq _) 29 rfl
            · intro o ho FA x hO hD K hK
              obtain rfl := Option.some.inj ho.symm
              clear ho
              have ev116 : FA.eval (.tmp 116) = _ := hD 20 116 (by kernel_rfl)
              have e116 := (eval_tmp FA 116).symm.trans ev116
              replace ev116 := Lib.hid ev116
              have ev123 : FA.eval (.tmp 123) = _ := hD 27 123 (by kernel_rfl)
              have e123 := (eval_tmp FA 123).symm.trans ev123
              replace ev123 := Lib.hid ev123
              have ev111 : FA.eval (.tmp 111) = _ := hD 15 111 (by kernel_rfl)
              have e111 := (eval_tmp FA 111).symm.trans ev111
              replace ev111 := Lib.hid ev111
              first | have ge111 := slot_of e111 | have ge111 := slot_un e111
              clear hO hD
              first | (go_simp; exact hK.out _ _ (Ex.refl _) rfl) | (rcases ge111 with ge111 | ge111 <;> (go_simp; exact hK.out _ _ (Ex.refl _) rfl))
            apply Steps.one (MP.eq _) 30 rfl
            · intro o ho FA x hO hD K hK
              obtain rfl := Option.some.inj ho.symm
              clear ho
              have ev124 : FA.eval (.tmp 124) = _ := hD 28 124 (by kernel_rfl)
              have e124 := (eval_tmp FA 124).symm.trans ev124
              replace ev124 := Lib.hid ev124
              have ev111 : FA.eval (.tmp 111) = _ := hD 15 111 (by kernel_rfl)
              have e111 := (eval_tmp FA 111).symm.trans ev111
              replace ev111 := Lib.hid ev111
              first | have ge111 := slot_of e111 | have ge111 := slot_un e111
              clear hO hD
              refine wanted_ifG (by go_simp) ?_
              have q9 := (HC.out (plus W6 x.bs x.d) (below_plus _ _ _)).2.1
              go_simp
              exact hK.out _ _ (Ex.refl _) rfl
            apply Steps.one (MP.eq _) 31 rfl
            · intro o ho FA x hO hD K hK
              obtain rfl := Option.some.inj ho.symm
              clear ho
              have ev115 : FA.eval (.tmp 115) = _ := hD 19 115 (by kernel_rfl)
              have e115 := (eval_tmp FA 115).symm.trans ev115
              replace ev115 := Lib.hid ev115
              have ev125 : FA.eval (.tmp 125) = _ := hD 29 125 (by kernel_rfl)
              have e125 := (eval_tmp FA 125).symm.trans ev125
              replace ev125 := Lib.hid ev125
              have ev111 : FA.eval (.tmp 111) = _ := hD 15 111 (by kernel_rfl)
              have e111 := (eval_tmp FA 111).symm.trans ev111
              replace ev111 := Lib.hid ev111
              first | have ge111 := slot_of e111 | have ge111 := slot_un e111
              clear hO hD
              first | (go_simp; exact hK.out _ _ (Ex.refl _) rfl) | (rcases ge111 with ge111 | ge111 <;> (go_simp; exact hK.out _ _ (Ex.refl _) rfl))
            apply Steps.one (MP.eq _) 32 rfl
            · intro o ho FA x hO hD K hK
              obtain rfl := Option.some.inj ho.symm
              clear ho
              have ev111 : FA.eval (.tmp 111) = _ := hD 15 111 (by kernel_rfl)
              have e111 := (eval_tmp FA 111).symm.trans ev111
              replace ev111 := Lib.hid ev111
              have ev126 : FA.eval (.tmp 126) = _ := hD 30 126 (by kernel_rfl)
              have e126 := (eval_tmp FA 126).symm.trans ev126
              replace ev126 := Lib.hid ev126
              clear hO hD
              go_simp
              exact hK.out _ _ (Ex.refl _) rfl
            apply Steps.one (MP.eq _) 33 rfl
            · intro o ho FA x hO hD K hK
              obtain rfl := Option.some.inj ho.symm
              clear ho
              have ev127 : FA.eval (.tmp 127) = _ := hD 31 127 (by kernel_rfl)
              have e127 := (eval_tmp FA 127).symm.trans ev127
              replace ev127 := Lib.hid ev127
              clear hO hD
              go_simp
              exact hK.out _ _ (Ex.refl _) rfl
            apply Steps.one (MP.eq _) 34 rfl
            · intro o ho FA x hO hD K hK
              obtain rfl := Option.some.inj ho.symm
              clear ho
              have ev128 : FA.eval (.tmp 128) = _ := hD 32 128 (by kernel_rfl)
              have e128 := (eval_tmp FA 128).symm.trans ev128
              replace ev128 := Lib.hid ev128
              first | have ge128 := slot_of e128 | have ge128 := slot_un e128
              clear hO hD
              refine wanted_ifG (by go_simp) ?_
              go_simp
              refine (awake42 _ (HTAB.out _ (below_plus W6 x.bs x.d))).mono ?_
              rintro e w1 ⟨bs9, d9, rfl, rfl⟩
              exact hK.out _ _ (Ex.plus_ _ _ _) rfl
            apply Steps.one (MP.eq _) 35 rfl
            · intro o ho FA x hO hD K hK
              obtain rfl := Option.some.inj ho.symm
              clear ho
              have ev128 : FA.eval (.tmp 128) = _ := hD 32 128 (by kernel_rfl)
              have e128 := (eval_tmp FA 128).symm.trans ev128
              replace ev128 := Lib.hid ev128
              have ev129 : FA.eval (.tmp 129) = _ := hD 33 129 (by kernel_rfl)
              have e129 := (eval_tmp FA 129).symm.trans ev129
              replace ev129 := Lib.hid ev129
              clear hO hD
              go_simp
              exact hK.out _ _ (Ex.refl _) rfl
            apply Steps.one (MP.eq _) 36 rfl
            · intro o ho FA x hO hD K hK
              obtain rfl := Option.some.inj ho.symm
              clear ho
              have ev130 : FA.eval (.tmp 130) = _ := hD 34 130 (by kernel_rfl)
              have e130 := (eval_tmp FA 130).symm.trans ev130
              replace ev130 := Lib.hid ev130
              clear hO hD
              go_simp
              exact hK.out _ _ (Ex.refl _) rfl
            refine Steps.fin_ (fun vs x hp => ?_)
            have p0 : vs 0 = _ := hp 0 (by omega)
            have p1 : vs 1 = _ := hp 1 (by omega)
            have p2 : vs 2 = _ := hp 2 (by omega)
            have p3 : vs 3 = _ := hp 3 (by omega)
            have p4 : vs 4 = _ := hp 4 (by omega)
            have p5 : vs 5 = _ := hp 5 (by omega)
            have p6 : vs 6 = _ := hp 6 (by omega)
            have p7 : vs 7 = _ := hp 7 (by omega)
            have p8 : vs 8 = _ := hp 8 (by omega)
            have p9 : vs 9 = _ := hp 9 (by omega)
            have p10 : vs 10 = _ := hp 10 (by omega)
            have p11 : vs 11 = _ := hp 11 (by omega)
            have p12 : vs 12 = _ := hp 12 (by omega)
            have p13 : vs 13 = _ := hp 13 (by omega)
            have p14 : vs 14 = _ := hp 14 (by omega)
            have p15 : vs 15 = _ := hp 15 (by omega)
            have p16 : vs 16 = _ := hp 16 (by omega)
            have p17 : vs 17 = _ := hp 17 (by omega)
            have p18 : vs 18 = _ := hp 18 (by omega)
            have p19 : vs 19 = _ := hp 19 (by omega)
            have p20 : vs 20 = _ := hp 20 (by omega)
            have p21 : vs 21 = _ := hp 21 (by omega)
            have p22 : vs 22 = _ := hp 22 (by omega)
            have p23 : vs 23 = _ := hp 23 (by omega)
            have p24 : vs 24 = _ := hp 24 (by omega)
            have p25 : vs 25 = _ := hp 25 (by omega)
            have p26 : vs 26 = _ := hp 26 (by omega)
            have p27 : vs 27 = _ := hp 27 (by omega)
            have p28 : vs 28 = _ := hp 28 (by omega)
            have p29 : vs 29 = _ := hp 29 (by omega)
            have p30 : vs 30 = _ := hp 30 (by omega)
            have p31 : vs 31 = _ := hp 31 (by omega)
            have p32 : vs 32 = _ := hp 32 (by omega)
            have p33 : vs 33 = _ := hp 33 (by omega)
            have p34 : vs 34 = _ := hp 34 (by omega)
            have p35 : vs 35 = _ := hp 35 (by omega)
            clear hp
            simp only [List.take_succ_cons, List.take_zero, List.drop_succ_cons, List.drop_zero, putAll, Nat.zero_add, Nat.reduceAdd, Act.put, List.setIfInBounds_toArray, List.set_cons_zero, List.set_cons_succ, p0, p1, p2, p3, p4, p5, p6, p7, p8, p9, p10, p11, p12, p13, p14, p15, p16, p17, p18, p19, p20, p21, p22, p23, p24, p25, p26, p27, p28, p29, p30, p31, p32, p33, p34, p35]
            clear p0 p1 p2 p3 p4 p5 p6 p7 p8 p9 p10 p11 p12 p13 p14 p15 p16 p17 p18 p19 p20 p21 p22 p23 p24 p25 p26 p27 p28 p29 p30 p31 p32 p33 p34 p35
            clear vs
            go_wp2
            go_ret
            exact RetV.mk (belowP be x.bs x.d)
          · have i6 : at_ < (p : Int) := by omega
            obtain ⟨q, rfl⟩ := Int.eq_ofNat_of_zero_le i5
            have hqT : q < T.length := by omega
            have hgz := getZ_in T q hqT
            obtain ⟨y, hy⟩ : ∃ y, T[q] = y := ⟨_, rfl⟩
            have hcq := HAT3.out q hqT W6 (Below.refl _ _)
            rw [hy] at hgz hcq
            have HGZ := Lib.hid hgz
            clear hgz hy
            go_upto_region 15 with (fail)
            go_wp2
            refine wp_relS 36 131 rfl (by kernel_rfl) (by kernel_rfl) ?_
            apply Steps.one (MP.eq _) 1 rfl
            · intro o ho FA x hO hD K hK
              obtain rfl := Option.some.inj ho.symm
              clear ho
              have e12 := hO 12 (by kernel_rfl)
              simp only [eval_tmp, List.getElem?_toArray, List.getElem?_cons_succ, List.getElem?_cons_zero, Option.getD_some] at e12
              have ev12 := Lib.hid ((eval_tmp FA 12).trans e12)
              clear hO hD
              go_simp
              exact hK.out _ _ (Ex.refl _) rfl
            apply Steps.one (MP.eq _) 2 rfl
            · intro o ho FA x hO hD K hK
              obtain rfl := Option.some.inj ho.symm
              clear ho
              have ev96 : FA.eval (.tmp 96) = _ := hD 0 96 (by kernel_rfl)
              have e96 := (eval_tmp FA 96).symm.trans ev96
              replace ev96 := Lib.hid ev96
              clear hO hD
              go_simp
              exact hK.out _ _ (Ex.refl _) rfl
            apply Steps.one (MP.eq _) 3 rfl
            · intro o ho FA x hO hD K hK
              obtain rfl := Option.some.inj ho.symm
              clear ho
              have ev97 : FA.eval (.tmp 97) = _ := hD 1 97 (by kernel_rfl)
              have e97 := (eval_tmp FA 97).symm.trans ev97
              replace ev97 := Lib.hid ev97
              clear hO hD
              go_simp
              exact hK.out _ _ (Ex.refl _) rfl
            apply Steps.one (MP.eq _) 4 rfl
            · intro o ho FA x hO hD K hK
              obtain rfl := Option.some.inj ho.symm
              clear ho
              have e11 := hO 11 (by kernel_rfl)
              simp only [eval_tmp, List.getElem?_toArray, List.getElem?_cons_succ, List.getElem?_cons_zero, Option.getD_some] at e11
              have ev11 := Lib.hid ((eval_tmp FA 11).trans e11)
              have ev98 : FA.eval (.tmp 98) = _ := hD 2 98 (by kernel_rfl)
              have e98 := (eval_tmp FA 98).symm.trans ev98
              replace ev98 := Lib.hid ev98
              first | have ge98 := slot_of e98 | have ge98 := slot_un e98
              clear hO hD
              first | (refine wanted_ifG ?_ ?_; (· go_simp); refine wp_ldA 27 (.tmp 11) rfl (tbC A2 p c2) ev11.out (hT.later (below_plus _ _ _)) (whole_ _) o1 o2 (szTb _ _ _) ?_; exact hK.out _ _ (Ex.refl _) rfl) | (go_simp; exact hK.out _ _ (Ex.refl _) rfl) | (rcases ge98 with ge98 | ge98 <;> (go_simp; exact hK.out _ _ (Ex.refl _) rfl))
            apply Steps.one (MP.eq _) 5 rfl
            · intro o ho FA x hO hD K hK
              obtain rfl := Option.some.inj ho.symm
              clear ho
              have ev99 : FA.eval (.tmp 99) = _ := hD 3 99 (by kernel_rfl)
              have e99 := (eval_tmp FA 99).symm.trans ev99
              replace ev99 := Lib.hid ev99
              have ev98 : FA.eval (.tmp 98) = _ := hD 2 98 (by kernel_rfl)
              have e98 := (eval_tmp FA 98).symm.trans ev98
              replace ev98 := Lib.hid ev98
              first | have ge98 := slot_of e98 | have ge98 := slot_un e98
              clear hO hD
              refine wanted_ifG (by go_simp) ?_
              go_simp
              refine (len_tb A2 p c2 _).mono ?_
              rintro e w1 ⟨bs9, d9, rfl, rfl⟩
              exact hK.out _ _ (Ex.plus_ _ _ _) rfl
            apply Steps.one (MP.eq _) 6 rfl
            · intro o ho FA x hO hD K hK
              obtain rfl := Option.some.inj ho.symm
              clear ho
              have e1 := hO 1 (by kernel_rfl)
              simp only [eval_tmp, List.getElem?_toArray, List.getElem?_cons_succ, List.getElem?_cons_zero, Option.getD_some] at e1
              have ev1 := Lib.hid ((eval_tmp FA 1).trans e1)
              have ev98 : FA.eval (.tmp 98) = _ := hD 2 98 (by kernel_rfl)
              have e98 := (eval_tmp FA 98).symm.trans ev98
              replace ev98 := Lib.hid ev98
              first | have ge98 := slot_of e98 | have ge98 := slot_un e98
              clear hO hD
              first | (go_simp; exact hK.out _ _ (Ex.refl _) rfl) | (rcases ge98 with ge98 | ge98 <;> (go_simp; exact hK.out _ _ (Ex.refl _) rfl))
            apply Steps.one (MP.eq _) 7 rfl
            · intro o ho FA x hO hD K hK
              obtain rfl := Option.some.inj ho.symm
              clear ho
              have ev100 : FA.eval (.tmp 100) = _ := hD 4 100 (by kernel_rfl)
              have e100 := (eval_tmp FA 100).symm.trans ev100
              replace ev100 := Lib.hid ev100
              have ev101 : FA.eval (.tmp 101) = _ := hD 5 101 (by kernel_rfl)
              have e101 := (eval_tmp FA 101).symm.trans ev101
              replace ev101 := Lib.hid ev101
              have ev98 : FA.eval (.tmp 98) = _ := hD 2 98 (by kernel_rfl)
              have e98 := (eval_tmp FA 98).symm.trans ev98
              replace ev98 := Lib.hid ev98
              first | have ge98 := slot_of e98 | have ge98 := slot_un e98
              clear hO hD
              first | (go_simp; exact hK.out _ _ (Ex.refl _) rfl) | (rcases ge98 with ge98 | ge98 <;> (go_simp; exact hK.out _ _ (Ex.refl _) rfl))
            apply Steps.one (MP.eq _) 8 rfl
            · intro o ho FA x hO hD K hK
              obtain rfl := Option.some.inj ho.symm
              clear ho
              have ev98 : FA.eval (.tmp 98) = _ := hD 2 98 (by kernel_rfl)
              have e98 := (eval_tmp FA 98).symm.trans ev98
              replace ev98 := Lib.hid ev98
              have ev102 : FA.eval (.tmp 102) = _ := hD 6 102 (by kernel_rfl)
              have e102 := (eval_tmp FA 102).symm.trans ev102
              replace ev102 := Lib.hid ev102
              clear hO hD
              go_simp
              exact hK.out _ _ (Ex.refl _) rfl
            apply Steps.one (MP.eq _) 9 rfl
            · intro o ho FA x hO hD K hK
              obtain rfl := Option.some.inj ho.symm
              clear ho
              have ev103 : FA.eval (.tmp 103) = _ := hD 7 103 (by kernel_rfl)
              have e103 := (eval_tmp FA 103).symm.trans ev103
              replace ev103 := Lib.hid ev103
              clear hO hD
              go_simp
              exact hK.out _ _ (Ex.refl _) rfl
            apply Steps.one (MP.eq _) 10 rfl
            · intro o ho FA x hO hD K hK
              obtain rfl := Option.some.inj ho.symm
              clear ho
              have e11 := hO 11 (by kernel_rfl)
              simp only [eval_tmp, List.getElem?_toArray, List.getElem?_cons_succ, List.getElem?_cons_zero, Option.getD_some] at e11
              have ev11 := Lib.hid ((eval_tmp FA 11).trans e11)
              have ev104 : FA.eval (.tmp 104) = _ := hD 8 104 (by kernel_rfl)
              have e104 := (eval_tmp FA 104).symm.trans ev104
              replace ev104 := Lib.hid ev104
              first | have ge104 := slot_of e104 | have ge104 := slot_un e104
              clear hO hD
              first | (refine wanted_ifG ?_ ?_; (· go_simp); refine wp_ldA 27 (.tmp 11) rfl (tbC A2 p c2) ev11.out (hT.later (below_plus _ _ _)) (whole_ _) o1 o2 (szTb _ _ _) ?_; exact hK.out _ _ (Ex.refl _) rfl) | (go_simp; exact hK.out _ _ (Ex.refl _) rfl) | (rcases ge104 with ge104 | ge104 <;> (go_simp; exact hK.out _ _ (Ex.refl _) rfl))
            apply Steps.one (MP.eq _) 11 rfl
            · intro o ho FA x hO hD K hK
              obtain rfl := Option.some.inj ho.symm
              clear ho
              have e3 := hO 3 (by kernel_rfl)
              simp only [eval_tmp, List.getElem?_toArray, List.getElem?_cons_succ, List.getElem?_cons_zero, Option.getD_some] at e3
              have ev3 := Lib.hid ((eval_tmp FA 3).trans e3)
              have ev104 : FA.eval (.tmp 104) = _ := hD 8 104 (by kernel_rfl)
              have e104 := (eval_tmp FA 104).symm.trans ev104
              replace ev104 := Lib.hid ev104
              first | have ge104 := slot_of e104 | have ge104 := slot_un e104
              clear hO hD
              first | (go_simp; exact hK.out _ _ (Ex.refl _) rfl) | (rcases ge104 with ge104 | ge104 <;> (go_simp; exact hK.out _ _ (Ex.refl _) rfl))
            apply Steps.one (MP.eq (.int .i64 y)) 12 rfl
            · intro o ho FA x hO hD K hK
              obtain rfl := Option.some.inj ho.symm
              clear ho
              have ev105 : FA.eval (.tmp 105) = _ := hD 9 105 (by kernel_rfl)
              have e105 := (eval_tmp FA 105).symm.trans ev105
              replace ev105 := Lib.hid ev105
              have ev106 : FA.eval (.tmp 106) = _ := hD 10 106 (by kernel_rfl)
              have e106 := (eval_tmp FA 106).symm.trans ev106
              replace ev106 := Lib.hid ev106
              have ev104 : FA.eval (.tmp 104) = _ := hD 8 104 (by kernel_rfl)
              have e104 := (eval_tmp FA 104).symm.trans ev104
              replace ev104 := Lib.hid ev104
              first | have ge104 := slot_of e104 | have ge104 := slot_un e104
              clear hO hD
              refine wanted_ifG (by go_simp) ?_
              go_simp
              refine (at_tb T (q : Int) A2 p c2 _ (HC.out _ (below_plus _ _ _)).1 (by omega) (by omega)).mono ?_
              rintro e w1 ⟨bs9, d9, rfl, rfl⟩
              exact hK.out _ _ (Ex.plus_ _ _ _) (congrArg (Value.int .i64) HGZ.out)
            apply Steps.one (MP.eq _) 13 rfl
            · intro o ho FA x hO hD K hK
              obtain rfl := Option.some.inj ho.symm
              clear ho
              have e15 := hO 15 (by kernel_rfl)
              simp only [eval_tmp, List.getElem?_toArray, List.getElem?_cons_succ, List.getElem?_cons_zero, Option.getD_some] at e15
              have ev15 := Lib.hid ((eval_tmp FA 15).trans e15)
              have ev104 : FA.eval (.tmp 104) = _ := hD 8 104 (by kernel_rfl)
              have e104 := (eval_tmp FA 104).symm.trans ev104
              replace ev104 := Lib.hid ev104
              first | have ge104 := slot_of e104 | have ge104 := slot_un e104
              clear hO hD
              first | (go_simp; exact hK.out _ _ (Ex.refl _) rfl) | (rcases ge104 with ge104 | ge104 <;> (go_simp; exact hK.out _ _ (Ex.refl _) rfl))
            apply Steps.one (MP.eq _) 14 rfl
            · intro o ho FA x hO hD K hK
              obtain rfl := Option.some.inj ho.symm
              clear ho
              have ev107 : FA.eval (.tmp 107) = _ := hD 11 107 (by kernel_rfl)
              have e107 := (eval_tmp FA 107).symm.trans ev107
              replace ev107 := Lib.hid ev107
              have ev108 : FA.eval (.tmp 108) = _ := hD 12 108 (by kernel_rfl)
              have e108 := (eval_tmp FA 108).symm.trans ev108
              replace ev108 := Lib.hid ev108
              have ev104 : FA.eval (.tmp 104) = _ := hD 8 104 (by kernel_rfl)
              have e104 := (eval_tmp FA 104).symm.trans ev104
              replace ev104 := Lib.hid ev104
              first | have ge104 := slot_of e104 | have ge104 := slot_un e104
              clear hO hD
              first | (go_simp; exact hK.out _ _ (Ex.refl _) rfl) | (rcases ge104 with ge104 | ge104 <;> (go_simp; exact hK.out _ _ (Ex.refl _) rfl))
            apply Steps.one (MP.eq _) 15 rfl
            · intro o ho FA x hO hD K hK
              obtain rfl := Option.some.inj ho.symm
              clear ho
              have ev104 : FA.eval (.tmp 104) = _ := hD 8 104 (by kernel_rfl)
              have e104 := (eval_tmp FA 104).symm.trans ev104
              replace ev104 := Lib.hid ev104
              have ev109 : FA.eval (.tmp 109) = _ := hD 13 109 (by kernel_rfl)
              have e109 := (eval_tmp FA 109).symm.trans ev109
              replace ev109 := Lib.hid ev109
              clear hO hD
              go_simp
              exact hK.out _ _ (Ex.refl _) rfl
            apply Steps.one (MP.eq _) 16 rfl
            · intro o ho FA x hO hD K hK
              obtain rfl := Option.some.inj ho.symm
              clear ho
              have ev110 : FA.eval (.tmp 110) = _ := hD 14 110 (by kernel_rfl)
              have e110 := (eval_tmp FA 110).symm.trans ev110
              replace ev110 := Lib.hid ev110
              clear hO hD
              go_simp
              exact hK.out _ _ (Ex.refl _) rfl
            apply Steps.one (MP.eq _) 17 rfl
            · intro o ho FA x hO hD K hK
              obtain rfl := Option.some.inj ho.symm
              clear ho
              have e11 := hO 11 (by kernel_rfl)
              simp only [eval_tmp, List.getElem?_toArray, List.getElem?_cons_succ, List.getElem?_cons_zero, Option.getD_some] at e11
              have ev11 := Lib.hid ((eval_tmp FA 11).trans e11)
              have ev111 : FA.eval (.tmp 111) = _ := hD 15 111 (by kernel_rfl)
              have e111 := (eval_tmp FA 111).symm.trans ev111
              replace ev111 := Lib.hid ev111
              first | have ge111 := slot_of e111 | have ge111 := slot_un e111
              clear hO hD
              first | (refine wanted_ifG ?_ ?_; (· go_simp); refine wp_ldA 27 (.tmp 11) rfl (tbC A2 p c2) ev11.out (hT.later (below_plus _ _ _)) (whole_ _) o1 o2 (szTb _ _ _) ?_; exact hK.out _ _ (Ex.refl _) rfl) | (go_simp; exact hK.out _ _ (Ex.refl _) rfl) | (rcases ge111 with ge111 | ge111 <;> (go_simp; exact hK.out _ _ (Ex.refl _) rfl))
            apply Steps.one (MP.eq _) 18 rfl
            · intro o ho FA x hO hD K hK
              obtain rfl := Option.some.inj ho.symm
              clear ho
              have e5 := hO 5 (by kernel_rfl)
              simp only [eval_tmp, List.getElem?_toArray, List.getElem?_cons_succ, List.getElem?_cons_zero, Option.getD_some] at e5
              have ev5 := Lib.hid ((eval_tmp FA 5).trans e5)
              have ev111 : FA.eval (.tmp 111) = _ := hD 15 111 (by kernel_rfl)
              have e111 := (eval_tmp FA 111).symm.trans ev111
              replace ev111 := Lib.hid ev111
              first | have ge111 := slot_of e111 | have ge111 := slot_un e111
              clear hO hD
              first | (refine wanted_ifG ?_ ?_; (· go_simp); refine wp_ldA 22 (.tmp 5) rfl (bcs key) ev5.out (hk.later (below_plus _ _ _)) (whole_ _) u1 u2 (szK16a key hk0) ?_; exact hK.out _ _ (Ex.refl _) rfl) | (go_simp; exact hK.out _ _ (Ex.refl _) rfl) | (rcases ge111 with ge111 | ge111 <;> (go_simp; exact hK.out _ _ (Ex.refl _) rfl))
            apply Steps.one (MP.eq _) 19 rfl
            · intro o ho FA x hO hD K hK
              obtain rfl := Option.some.inj ho.symm
              clear ho
              have e4 := hO 4 (by kernel_rfl)
              simp only [eval_tmp, List.getElem?_toArray, List.getElem?_cons_succ, List.getElem?_cons_zero, Option.getD_some] at e4
              have ev4 := Lib.hid ((eval_tmp FA 4).trans e4)
              have ev111 : FA.eval (.tmp 111) = _ := hD 15 111 (by kernel_rfl)
              have e111 := (eval_tmp FA 111).symm.trans ev111
              replace ev111 := Lib.hid ev111
              first | have ge111 := slot_of e111 | have ge111 := slot_un e111
              clear hO hD
              first | (go_simp; exact hK.out _ _ (Ex.refl _) rfl) | (rcases ge111 with ge111 | ge111 <;> (go_simp; exact hK.out _ _ (Ex.refl _) rfl))
            apply Steps.one (MP.eq (.int .i64 v)) 20 rfl
            · intro o ho FA x hO hD K hK
              obtain rfl := Option.some.inj ho.symm
              clear ho
              have ev112 : FA.eval (.tmp 112) = _ := hD 16 112 (by kernel_rfl)
              have e112 := (eval_tmp FA 112).symm.trans ev112
              replace ev112 := Lib.hid ev112
              have ev113 : FA.eval (.tmp 113) = _ := hD 17 113 (by kernel_rfl)
              have e113 := (eval_tmp FA 113).symm.trans ev113
              replace ev113 := Lib.hid ev113
              have ev114 : FA.eval (.tmp 114) = _ := hD 18 114 (by kernel_rfl)
              have e114 := (eval_tmp FA 114).symm.trans ev114
              replace ev114 := Lib.hid ev114
              have ev111 : FA.eval (.tmp 111) = _ := hD 15 111 (by kernel_rfl)
              have e111 := (eval_tmp FA 111).symm.trans ev111
              replace ev111 := Lib.hid ev111
              first | have ge111 := slot_of e111 | have ge111 := slot_un e111
              clear hO hD
              refine wanted_ifG (by go_simp) ?_
              go_simp
              refine (HPI.out _ (HC.out _ (below_plus _ _ _)).1 (HC.out _ (below_plus _ _ _)).2.2).mono ?_
              rintro e w1 ⟨bs9, d9, rfl, rfl⟩
              exact hK.out _ _ (Ex.plus_ _ _ _) rfl
            apply Steps.one (MP.eq _) 21 rfl
            · intro o ho FA x hO hD K hK
              obtain rfl := Option.some.inj ho.symm
              clear ho
              have e13 := hO 13 (by kernel_rfl)
              simp only [eval_tmp, List.getElem?_toArray, List.getElem?_cons_succ, List.getElem?_cons_zero, Option.getD_some] at e13
              have ev13 := Lib.hid ((eval_tmp FA 13).trans e13)
              have ev111 : FA.eval (.tmp 111) = _ := hD 15 111 (by kernel_rfl)
              have e111 := (eval_tmp FA 111).symm.trans ev111
              replace ev111 := Lib.hid ev111
              first | have ge111 := slot_of e111 | have ge111 := slot_un e111
              clear hO hD
              first | (go_simp; exact hK.out _ _ (Ex.refl _) rfl) | (rcases ge111 with ge111 | ge111 <;> (go_simp; exact hK.out _ _ (Ex.refl _) rfl))
            apply Steps.one (MP.eq _) 22 rfl
            · intro o ho FA x hO hD K hK
              obtain rfl := Option.some.inj ho.symm
              clear ho
              have e5 := hO 5 (by kernel_rfl)
              simp only [eval_tmp, List.getElem?_toArray, List.getElem?_cons_succ, List.getElem?_cons_zero, Option.getD_some] at e5
              have ev5 := Lib.hid ((eval_tmp FA 5).trans e5)
              have ev111 : FA.eval (.tmp 111) = _ := hD 15 111 (by kernel_rfl)
              have e111 := (eval_tmp FA 111).symm.trans ev111
              replace ev111 := Lib.hid ev111
              first | have ge111 := slot_of e111 | have ge111 := slot_un e111
              clear hO hD
              first | (refine wanted_ifG ?_ ?_; (· go_simp); refine wp_ldA 22 (.tmp 5) rfl (bcs key) ev5.out (hk.later (below_plus _ _ _)) (whole_ _) u1 u2 (szK16a key hk0) ?_; exact hK.out _ _ (Ex.refl _) rfl) | (go_simp; exact hK.out _ _ (Ex.refl _) rfl) | (rcases ge111 with ge111 | ge111 <;> (go_simp; exact hK.out _ _ (Ex.refl _) rfl))
            apply Steps.one (MP.eq _) 23 rfl
            · intro o ho FA x hO hD K hK
              obtain rfl := Option.some.inj ho.symm
              clear ho
              have e4 := hO 4 (by kernel_rfl)
              simp only [eval_tmp, List.getElem?_toArray, List.getElem?_cons_succ, List.getElem?_cons_zero, Option.getD_some] at e4
              have ev4 := Lib.hid ((eval_tmp FA 4).trans e4)
              have ev111 : FA.eval (.tmp 111) = _ := hD 15 111 (by kernel_rfl)
              have e111 := (eval_tmp FA 111).symm.trans ev111
              replace ev111 := Lib.hid ev111
              first | have ge111 := slot_of e111 | have ge111 := slot_un e111
              clear hO hD
              first | (go_simp; exact hK.out _ _ (Ex.refl _) rfl) | (rcases ge111 with ge111 | ge111 <;> (go_simp; exact hK.out _ _ (Ex.refl _) rfl))
            apply Steps.one (MP.eq (.int .u64 (X : Int))) 24 rfl
            · intro o ho FA x hO hD K hK
              obtain rfl := Option.some.inj ho.symm
              clear ho
              have ev117 : FA.eval (.tmp 117) = _ := hD 21 117 (by kernel_rfl)
              have e117 := (eval_tmp FA 117).symm.trans ev117
              replace ev117 := Lib.hid ev117
              have ev118 : FA.eval (.tmp 118) = _ := hD 22 118 (by kernel_rfl)
              have e118 := (eval_tmp FA 118).symm.trans ev118
              replace ev118 := Lib.hid ev118
              have ev111 : FA.eval (.tmp 111) = _ := hD 15 111 (by kernel_rfl)
              have e111 := (eval_tmp FA 111).symm.trans ev111
              replace ev111 := Lib.hid ev111
              first | have ge111 := slot_of e111 | have ge111 := slot_un e111
              clear hO hD
              refine wanted_ifG (by go_simp) ?_
              go_simp
              refine (HSU.out _ (HC.out _ (below_plus _ _ _)).2.2).mono ?_
              rintro e w1 ⟨bs9, d9, rfl, rfl⟩
              exact hK.out _ _ (Ex.plus_ _ _ _) rfl
            apply Steps.one (MP.eq _) 25 rfl
            · intro o ho FA x hO hD K hK
              obtain rfl := Option.some.inj ho.symm
              clear ho
              have e1 := hO 1 (by kernel_rfl)
              simp only [eval_tmp, List.getElem?_toArray, List.getElem?_cons_succ, List.getElem?_cons_zero, Option.getD_some] at e1
              have ev1 := Lib.hid ((eval_tmp FA 1).trans e1)
              have ev111 : FA.eval (.tmp 111) = _ := hD 15 111 (by kernel_rfl)
              have e111 := (eval_tmp FA 111).symm.trans ev111
              replace ev111 := Lib.hid ev111
              first | have ge111 := slot_of e111 | have ge111 := slot_un e111
              clear hO hD
              first | (go_simp; exact hK.out _ _ (Ex.refl _) rfl) | (rcases ge111 with ge111 | ge111 <;> (go_simp; exact hK.out _ _ (Ex.refl _) rfl))
            apply Steps.one (MP.eq _) 26 rfl
            · intro o ho FA x hO hD K hK
              obtain rfl := Option.some.inj ho.symm
              clear ho
              have ev120 : FA.eval (.tmp 120) = _ := hD 24 120 (by kernel_rfl)
              have e120 := (eval_tmp FA 120).symm.trans ev120
              replace ev120 := Lib.hid ev120
              have ev111 : FA.eval (.tmp 111) = _ := hD 15 111 (by kernel_rfl)
              have e111 := (eval_tmp FA 111).symm.trans ev111
              replace ev111 := Lib.hid ev111
              first | have ge111 := slot_of e111 | have ge111 := slot_un e111
              clear hO hD
              first | (go_simp; exact hK.out _ _ (Ex.refl _) rfl) | (rcases ge111 with ge111 | ge111 <;> (go_simp; exact hK.out _ _ (Ex.refl _) rfl))
            apply Steps.one (MP.eq _) 27 rfl
            · intro o ho FA x hO hD K hK
              obtain rfl := Option.some.inj ho.symm
              clear ho
              have ev119 : FA.eval (.tmp 119) = _ := hD 23 119 (by kernel_rfl)
              have e119 := (eval_tmp FA 119).symm.trans ev119
              replace ev119 := Lib.hid ev119
              have ev121 : FA.eval (.tmp 121) = _ := hD 25 121 (by kernel_rfl)
              have e121 := (eval_tmp FA 121).symm.trans ev121
              replace ev121 := Lib.hid ev121
              have ev111 : FA.eval (.tmp 111) = _ := hD 15 111 (by kernel_rfl)
              have e111 := (eval_tmp FA 111).symm.trans ev111
              replace ev111 := Lib.hid ev111
              first | have ge111 := slot_of e111 | have ge111 := slot_un e111
              clear hO hD
              first | (go_simp; exact hK.out _ _ (Ex.refl _) rfl) | (rcases ge111 with ge111 | ge111 <;> (go_simp; exact hK.out _ _ (Ex.refl _) rfl))
            apply Steps.one (MP.eq _) 28 rfl
            · intro o ho FA x hO hD K hK
              obtain rfl := Option.some.inj ho.symm
              clear ho
              have ev122 : FA.eval (.tmp 122) = _ := hD 26 122 (by kernel_rfl)
              have e122 := (eval_tmp FA 122).symm.trans ev122
              replace ev122 := Lib.hid ev122
              have ev111 : FA.eval (.tmp 111) = _ := hD 15 111 (by kernel_rfl)
              have e111 := (eval_tmp FA 111).symm.trans ev111
              replace ev111 := Lib.hid ev111
              first | have ge111 := slot_of e111 | have ge111 := slot_un e111
              clear hO hD
              first | (go_simp; exact hK.out _ _ (Ex.refl _) rfl) | (rcases ge111 with ge111 | ge111 <;> (go_simp; exact hK.out _ _ (Ex.refl _) rfl))
            apply Steps.one (MP.eq _) 29 rfl
            · intro o ho FA x hO hD K hK
              obtain rfl := Option.some.inj ho.symm
              clear ho
              have ev116 : FA.eval (.tmp 116) = _ := hD 20 116 (by kernel_rfl)
              have e116 := (eval_tmp FA 116).symm.trans ev116
              replace ev116 := Lib.hid ev116
              have ev123 : FA.eval (.tmp 123) = _ := hD 27 123 (by kernel_rfl)
              have e123 := (eval_tmp FA 123).symm.trans ev123
              replace ev123 := Lib.hid ev123
              have ev111 : FA.eval (.tmp 111) = _ := hD 15 111 (by kernel_rfl)
              have e111 := (eval_tmp FA 111).symm.trans ev111
              replace ev111 := Lib.hid ev111
              first | have ge111 := slot_of e111 | have ge111 := slot_un e111
              clear hO hD
              first | (go_simp; exact hK.out _ _ (Ex.refl _) rfl) | (rcases ge111 with ge111 | ge111 <;> (go_simp; exact hK.out _ _ (Ex.refl _) rfl))
            apply Steps.one (MP.eq _) 30 rfl
            · intro o ho FA x hO hD K hK
              obtain rfl := Option.some.inj ho.symm
              clear ho
              have ev124 : FA.eval (.tmp 124) = _ := hD 28 124 (by kernel_rfl)
              have e124 := (eval_tmp FA 124).symm.trans ev124
              replace ev124 := Lib.hid ev124
              have ev111 : FA.eval (.tmp 111) = _ := hD 15 111 (by kernel_rfl)
              have e111 := (eval_tmp FA 111).symm.trans ev111
              replace ev111 := Lib.hid ev111
              first | have ge111 := slot_of e111 | have ge111 := slot_un e111
              clear hO hD
              refine wanted_ifG (by go_simp) ?_
              have q9 := (HC.out (plus W6 x.bs x.d) (below_plus _ _ _)).2.1
              go_simp
              exact hK.out _ _ (Ex.refl _) rfl
            apply Steps.one (MP.eq _) 31 rfl
            · intro o ho FA x hO hD K hK
              obtain rfl := Option.some.inj ho.symm
              clear ho
              have ev115 : FA.eval (.tmp 115) = _ := hD 19 115 (by kernel_rfl)
              have e115 := (eval_tmp FA 115).symm.trans ev115
              replace ev115 := Lib.hid ev115
              have ev125 : FA.eval (.tmp 125) = _ := hD 29 125 (by kernel_rfl)
              have e125 := (eval_tmp FA 125).symm.trans ev125
              replace ev125 := Lib.hid ev125
              have ev111 : FA.eval (.tmp 111) = _ := hD 15 111 (by kernel_rfl)
              have e111 := (eval_tmp FA 111).symm.trans ev111
              replace ev111 := Lib.hid ev111
              first | have ge111 := slot_of e111 | have ge111 := slot_un e111
              clear hO hD
              first | (go_simp; exact hK.out _ _ (Ex.refl _) rfl) | (rcases ge111 with ge111 | ge111 <;> (go_simp; exact hK.out _ _ (Ex.refl _) rfl))
            apply Steps.one (MP.eq _) 32 rfl
            · intro o ho FA x hO hD K hK
              obtain rfl := Option.some.inj ho.symm
              clear ho
              have ev111 : FA.eval (.tmp 111) = _ := hD 15 111 (by kernel_rfl)
              have e111 := (eval_tmp FA 111).symm.trans ev111
              replace ev111 := Lib.hid ev111
              have ev126 : FA.eval (.tmp 126) = _ := hD 30 126 (by kernel_rfl)
              have e126 := (eval_tmp FA 126).symm.trans ev126
              replace ev126 := Lib.hid ev126
              clear hO hD
              go_simp
              exact hK.out _ _ (Ex.refl _) rfl
            apply Steps.one (MP.eq _) 33 rfl
            · intro o ho FA x hO hD K hK
              obtain rfl := Option.some.inj ho.symm
              clear ho
              have ev127 : FA.eval (.tmp 127) = _ := hD 31 127 (by kernel_rfl)
              have e127 := (eval_tmp FA 127).symm.trans ev127
              replace ev127 := Lib.hid ev127
              clear hO hD
              go_simp
              exact hK.out _ _ (Ex.refl _) rfl
            apply Steps.one (MP.eq _) 34 rfl
            · intro o ho FA x hO hD K hK
              obtain rfl := Option.some.inj ho.symm
              clear ho
              have ev128 : FA.eval (.tmp 128) = _ := hD 32 128 (by kernel_rfl)
              have e128 := (eval_tmp FA 128).symm.trans ev128
              replace ev128 := Lib.hid ev128
              first | have ge128 := slot_of e128 | have ge128 := slot_un e128
              clear hO hD
              refine wanted_ifG (by go_simp) ?_
              go_simp
              refine (awake42 _ (HTAB.out _ (below_plus W6 x.bs x.d))).mono ?_
              rintro e w1 ⟨bs9, d9, rfl, rfl⟩
              exact hK.out _ _ (Ex.plus_ _ _ _) rfl
            apply Steps.one (MP.eq _) 35 rfl
            · intro o ho FA x hO hD K hK
              obtain rfl := Option.some.inj ho.symm
              clear ho
              have ev128 : FA.eval (.tmp 128) = _ := hD 32 128 (by kernel_rfl)
              have e128 := (eval_tmp FA 128).symm.trans ev128
              replace ev128 := Lib.hid ev128
              have ev129 : FA.eval (.tmp 129) = _ := hD 33 129 (by kernel_rfl)
              have e129 := (eval_tmp FA 129).symm.trans ev129
              replace ev129 := Lib.hid ev129
              clear hO hD
              go_simp
              exact hK.out _ _ (Ex.refl _) rfl
            apply Steps.one (MP.eq _) 36 rfl
            · intro o ho FA x hO hD K hK
              obtain rfl := Option.some.inj ho.symm
              clear ho
              have ev130 : FA.eval (.tmp 130) = _ := hD 34 130 (by kernel_rfl)
              have e130 := (eval_tmp FA 130).symm.trans ev130
              replace ev130 := Lib.hid ev130
              clear hO hD
              go_simp
              exact hK.out _ _ (Ex.refl _) rfl
            refine Steps.fin_ (fun vs x hp => ?_)
            have p0 : vs 0 = _ := hp 0 (by omega)
            have p1 : vs 1 = _ := hp 1 (by omega)
            have p2 : vs 2 = _ := hp 2 (by omega)
            have p3 : vs 3 = _ := hp 3 (by omega)
            have p4 : vs 4 = _ := hp 4 (by omega)
            have p5 : vs 5 = _ := hp 5 (by omega)
            have p6 : vs 6 = _ := hp 6 (by omega)
            have p7 : vs 7 = _ := hp 7 (by omega)
            have p8 : vs 8 = _ := hp 8 (by omega)
            have p9 : vs 9 = _ := hp 9 (by omega)
            have p10 : vs 10 = _ := hp 10 (by omega)
            have p11 : vs 11 = _ := hp 11 (by omega)
            have p12 : vs 12 = _ := hp 12 (by omega)
            have p13 : vs 13 = _ := hp 13 (by omega)
            have p14 : vs 14 = _ := hp 14 (by omega)
            have p15 : vs 15 = _ := hp 15 (by omega)
            have p16 : vs 16 = _ := hp 16 (by omega)
            have p17 : vs 17 = _ := hp 17 (by omega)
            have p18 : vs 18 = _ := hp 18 (by omega)
            have p19 : vs 19 = _ := hp 19 (by omega)
            have p20 : vs 20 = _ := hp 20 (by omega)
            have p21 : vs 21 = _ := hp 21 (by omega)
            have p22 : vs 22 = _ := hp 22 (by omega)
            have p23 : vs 23 = _ := hp 23 (by omega)
            have p24 : vs 24 = _ := hp 24 (by omega)
            have p25 : vs 25 = _ := hp 25 (by omega)
            have p26 : vs 26 = _ := hp 26 (by omega)
            have p27 : vs 27 = _ := hp 27 (by omega)
            have p28 : vs 28 = _ := hp 28 (by omega)
            have p29 : vs 29 = _ := hp 29 (by omega)
            have p30 : vs 30 = _ := hp 30 (by omega)
            have p31 : vs 31 = _ := hp 31 (by omega)
            have p32 : vs 32 = _ := hp 32 (by omega)
            have p33 : vs 33 = _ := hp 33 (by omega)
            have p34 : vs 34 = _ := hp 34 (by omega)
            have p35 : vs 35 = _ := hp 35 (by omega)
            clear hp
            simp only [List.take_succ_cons, List.take_zero, List.drop_succ_cons, List.drop_zero, putAll, Nat.zero_add, Nat.reduceAdd, Act.put, List.setIfInBounds_toArray, List.set_cons_zero, List.set_cons_succ, p0, p1, p2, p3, p4, p5, p6, p7, p8, p9, p10, p11, p12, p13, p14, p15, p16, p17, p18, p19, p20, p21, p22, p23, p24, p25, p26, p27, p28, p29, p30, p31, p32, p33, p34, p35]
            clear p0 p1 p2 p3 p4 p5 p6 p7 p8 p9 p10 p11 p12 p13 p14 p15 p16 p17 p18 p19 p20 p21 p22 p23 p24 p25 p26 p27 p28 p29 p30 p31 p32 p33 p34 p35
            clear vs
            go_wp2
            go_ret
            exact RetV.mk (belowP be x.bs x.d)
  · have HBU := Lib.hid (build_no key hk0 s l A n c V hl (by omega) hs3 hs1 hs2 hTabV hR)
    have HRR := Lib.hid (fun w (h : Rs 1 w A n c (its l)) => refRight_any s l A n c w h (by omega) hs3 hs1 hs2 false (by simp [hR]))
    clear hR
    by_cases i3 : (300 : Int) ≤ s
    · have i4 : ¬ s ≤ 2048 := i300 i3
      clear i300
      go_upto_region 3 with (fail)
      refine wp_region_lit ?_
      refine wpList_ldA (t := 22) 22 (.tmp 5) rfl rfl (bcs key) rfl (hk) (whole_ _) u1 u2 (szK16a key hk0) ?_
      iterate 2 (refine wpList_plain rfl (fun K hK => ?_); go_simp; with_reducible refine hK _ _ ?_; clear hK K)
      refine wpList_plain rfl (fun K hK => ?_)
      go_simp
      refine (HBU.out).mono ?_
      rintro e w1 ⟨bs1, d1, rfl, rfl⟩
      with_reducible refine hK _ _ ?_
      clear hK K
      iterate 4 (refine wpList_plain rfl (fun K hK => ?_); go_simp; with_reducible refine hK _ _ ?_; clear hK K)
      refine wpList_stA (t := 27) 27 (.tmp 11) (.tmp 38) rfl rfl (tbC none 0 0) ([.slice none 0 0]) rfl (tbC_one _ _ _) rfl rfl (Bk.newK (k := V.heap.size + bs1.length) _ _ _ (by simp [size_plus]) rfl) (szTb _ _ _) ?_
      intro W2 hT g2
      refine wpList_plain rfl (fun K hK => ?_); go_simp; with_reducible refine hK _ _ ?_; clear hK K
      have hb2 : Below V.heap.size V W2 := below_grown (Below.allocS (below_plus V bs1 d1) _) g2 (by simp [size_plus])
      replace be := be.trans (hb2.mono be.size)
      replace hk := hk.later hb2
      replace hl := hl.later hb2
      replace hb := hb.later hb2
      have hTab2 := hTabV.later hb2
      generalize V.heap.size + bs1.length = gT at *
      clear g2 hb2 HBU
      go_upto_region 5 with (go_at_call 7; refine (HRR.out _ hl).mono ?_; rintro e w1 ⟨bs2, d2, rfl, rfl⟩)
      replace be := belowP be bs2 d2
      replace hk := hk.later (below_plus W2 bs2 d2)
      replace hb := hb.later (below_plus W2 bs2 d2)
      replace hT := hT.later (below_plus W2 bs2 d2)
      have hTab3 := hTab2.later (below_plus W2 bs2 d2)
      clear hTab2 hl HRR
      generalize plus W2 bs2 d2 = W3 at *
      have z1 : getZ [] at_ = 0 := by
        by_cases h : at_ < 0
        · exact getZ_lo _ _ h
        · exact getZ_hi _ _ (by simp; omega)
      have z2 : pickZ key b [] = 0 := by unfold pickZ; simp
      refine wp_region_lit ?_
      iterate 3 (refine wpList_plain rfl (fun K hK => ?_); go_simp; with_reducible refine hK _ _ ?_; clear hK K)
      refine wpList_ldG (t := 27) 27 (.tmp 11) rfl (by go_simp) (tbC none 0 0) rfl (hT) (whole_ _) o1 o2 (szTb _ _ _) ?_
      refine wpList_step (fun K hK => ?_)
      go_simp
      refine (len_tb none 0 0 _).mono ?_
      rintro e w1 ⟨bs5, d5, rfl, rfl⟩
      with_reducible refine hK _ _ ?_
      clear hK K
      refine wpList_step (fun K hK => ?_); go_simp; with_reducible refine hK _ _ ?_; clear hK K
      refine wpList_plain rfl (fun K hK => ?_); go_simp; with_reducible refine hK _ _ ?_; clear hK K
      refine wpList_plain rfl (fun K hK => ?_); go_simp; with_reducible refine hK _ _ ?_; clear hK K
      refine wpList_ldG (t := 27) 27 (.tmp 11) rfl (by go_simp) (tbC none 0 0) rfl ((hT.later (below_plus _ _ _))) (whole_ _) o1 o2 (szTb _ _ _) ?_
      refine wpList_step (fun K hK => ?_); go_simp; with_reducible refine hK _ _ ?_; clear hK K
      refine wpList_step (fun K hK => ?_)
      go_simp
      refine (at_tb [] at_ none 0 0 _ Rs.nil_ ha1 ha2).mono ?_
      rintro e w1 ⟨bs6, d6, rfl, rfl⟩
      with_reducible refine hK _ _ ?_
      clear hK K
      refine wpList_step (fun K hK => ?_); go_simp; with_reducible refine hK _ _ ?_; clear hK K
      refine wpList_plain rfl (fun K hK => ?_); go_simp; with_reducible refine hK _ _ ?_; clear hK K
      refine wpList_plain rfl (fun K hK => ?_); go_simp; with_reducible refine hK _ _ ?_; clear hK K
      refine wpList_ldG (t := 27) 27 (.tmp 11) rfl (by go_simp) (tbC none 0 0) rfl (((hT.later (below_plus _ _ _)).later (below_plus _ _ _))) (whole_ _) o1 o2 (szTb _ _ _) ?_
      simp only [Act.put, List.setIfInBounds_toArray, List.set_cons_zero, List.set_cons_succ]
      refine wpList_ldG (t := 22) 22 (.tmp 5) rfl (by go_simp) (bcs key) rfl (((hk.later (below_plus _ _ _)).later (below_plus _ _ _))) (whole_ _) u1 u2 (szK16a key hk0) ?_
      refine wpList_step (fun K hK => ?_); go_simp; with_reducible refine hK _ _ ?_; clear hK K
      refine wpList_step (fun K hK => ?_)
      go_simp
      refine (pick_tb key hk0 [] none 0 0 B nb cb b _ Rs.nil_ ((hb.later (below_plus _ _ _)).later (below_plus _ _ _)) (by omega) (by omega)).mono ?_
      rintro e w1 ⟨bs7, d7, rfl, rfl⟩
      with_reducible refine hK _ _ ?_
      clear hK K
      refine wpList_step (fun K hK => ?_); go_simp; with_reducible refine hK _ _ ?_; clear hK K
      iterate 2 (refine wpList_plain rfl (fun K hK => ?_); go_simp; with_reducible refine hK _ _ ?_; clear hK K)
      refine wpList_step (fun K hK => ?_)
      go_simp
      refine (awake42 _ (((hTab3.later (below_plus _ _ _)).later (below_plus _ _ _)).later (below_plus _ _ _))).mono ?_
      rintro e w1 ⟨bs8, d8, rfl, rfl⟩
      with_reducible refine hK _ _ ?_
      clear hK K
      iterate 2 (refine wpList_plain rfl (fun K hK => ?_); go_simp; with_reducible refine hK _ _ ?_; clear hK K)
      go_wp2
      go_ret
      exact RetV.mk (belowP (belowP (belowP (belowP be bs5 d5) bs6 d6) bs7 d7) bs8 d8)
    · clear i300
      go_upto_region 3 with (fail)
      refine wp_region_lit ?_
      refine wpList_ldA (t := 22) 22 (.tmp 5) rfl rfl (bcs key) rfl (hk) (whole_ _) u1 u2 (szK16a key hk0) ?_
      iterate 2 (refine wpList_plain rfl (fun K hK => ?_); go_simp; with_reducible refine hK _ _ ?_; clear hK K)
      refine wpList_plain rfl (fun K hK => ?_)
      go_simp
      refine (HBU.out).mono ?_
      rintro e w1 ⟨bs1, d1, rfl, rfl⟩
      with_reducible refine hK _ _ ?_
      clear hK K
      iterate 4 (refine wpList_plain rfl (fun K hK => ?_); go_simp; with_reducible refine hK _ _ ?_; clear hK K)
      refine wpList_stA (t := 27) 27 (.tmp 11) (.tmp 38) rfl rfl (tbC none 0 0) ([.slice none 0 0]) rfl (tbC_one _ _ _) rfl rfl (Bk.newK (k := V.heap.size + bs1.length) _ _ _ (by simp [size_plus]) rfl) (szTb _ _ _) ?_
      intro W2 hT g2
      refine wpList_plain rfl (fun K hK => ?_); go_simp; with_reducible refine hK _ _ ?_; clear hK K
      have hb2 : Below V.heap.size V W2 := below_grown (Below.allocS (below_plus V bs1 d1) _) g2 (by simp [size_plus])
      replace be := be.trans (hb2.mono be.size)
      replace hk := hk.later hb2
      replace hl := hl.later hb2
      replace hb := hb.later hb2
      have hTab2 := hTabV.later hb2
      generalize V.heap.size + bs1.length = gT at *
      clear g2 hb2 HBU
      go_upto_region 5 with (go_at_call 7; refine (HRR.out _ hl).mono ?_; rintro e w1 ⟨bs2, d2, rfl, rfl⟩)
      replace be := belowP be bs2 d2
      replace hk := hk.later (below_plus W2 bs2 d2)
      replace hb := hb.later (below_plus W2 bs2 d2)
      replace hT := hT.later (below_plus W2 bs2 d2)
      have hTab3 := hTab2.later (below_plus W2 bs2 d2)
      clear hTab2 hl HRR
      generalize plus W2 bs2 d2 = W3 at *
      have z1 : getZ [] at_ = 0 := by
        by_cases h : at_ < 0
        · exact getZ_lo _ _ h
        · exact getZ_hi _ _ (by simp; omega)
      have z2 : pickZ key b [] = 0 := by unfold pickZ; simp
      refine wp_region_lit ?_
      iterate 3 (refine wpList_plain rfl (fun K hK => ?_); go_simp; with_reducible refine hK _ _ ?_; clear hK K)
      refine wpList_ldG (t := 27) 27 (.tmp 11) rfl (by go_simp) (tbC none 0 0) rfl (hT) (whole_ _) o1 o2 (szTb _ _ _) ?_
      refine wpList_step (fun K hK => ?_)
      go_simp
      refine (len_tb none 0 0 _).mono ?_
      rintro e w1 ⟨bs5, d5, rfl, rfl⟩
      with_reducible refine hK _ _ ?_
      clear hK K
      refine wpList_step (fun K hK => ?_); go_simp; with_reducible refine hK _ _ ?_; clear hK K
      refine wpList_plain rfl (fun K hK => ?_); go_simp; with_reducible refine hK _ _ ?_; clear hK K
      refine wpList_plain rfl (fun K hK => ?_); go_simp; with_reducible refine hK _ _ ?_; clear hK K
      refine wpList_ldG (t := 27) 27 (.tmp 11) rfl (by go_simp) (tbC none 0 0) rfl ((hT.later (below_plus _ _ _))) (whole_ _) o1 o2 (szTb _ _ _) ?_
      refine wpList_step (fun K hK => ?_); go_simp; with_reducible refine hK _ _ ?_; clear hK K
      refine wpList_step (fun K hK => ?_)
      go_simp
      refine (at_tb [] at_ none 0 0 _ Rs.nil_ ha1 ha2).mono ?_
      rintro e w1 ⟨bs6, d6, rfl, rfl⟩
      with_reducible refine hK _ _ ?_
      clear hK K
      refine wpList_step (fun K hK => ?_); go_simp; with_reducible refine hK _ _ ?_; clear hK K
      refine wpList_plain rfl (fun K hK => ?_); go_simp; with_reducible refine hK _ _ ?_; clear hK K
      refine wpList_plain rfl (fun K hK => ?_); go_simp; with_reducible refine hK _ _ ?_; clear hK K
      refine wpList_ldG (t := 27) 27 (.tmp 11) rfl (by go_simp) (tbC none 0 0) rfl (((hT.later (below_plus _ _ _)).later (below_plus _ _ _))) (whole_ _) o1 o2 (szTb _ _ _) ?_
      simp only [Act.put, List.setIfInBounds_toArray, List.set_cons_zero, List.set_cons_succ]
      refine wpList_ldG (t := 22) 22 (.tmp 5) rfl (by go_simp) (bcs key) rfl (((hk.later (below_plus _ _ _)).later (below_plus _ _ _))) (whole_ _) u1 u2 (szK16a key hk0) ?_
      refine wpList_step (fun K hK => ?_); go_simp; with_reducible refine hK _ _ ?_; clear hK K
      refine wpList_step (fun K hK => ?_)
      go_simp
      refine (pick_tb key hk0 [] none 0 0 B nb cb b _ Rs.nil_ ((hb.later (below_plus _ _ _)).later (below_plus _ _ _)) (by omega) (by omega)).mono ?_
      rintro e w1 ⟨bs7, d7, rfl, rfl⟩
      with_reducible refine hK _ _ ?_
      clear hK K
      refine wpList_step (fun K hK => ?_); go_simp; with_reducible refine hK _ _ ?_; clear hK K
      iterate 2 (refine wpList_plain rfl (fun K hK => ?_); go_simp; with_reducible refine hK _ _ ?_; clear hK K)
      refine wpList_step (fun K hK => ?_)
      go_simp
      refine (awake42 _ (((hTab3.later (below_plus _ _ _)).later (below_plus _ _ _)).later (below_plus _ _ _))).mono ?_
      rintro e w1 ⟨bs8, d8, rfl, rfl⟩
      with_reducible refine hK _ _ ?_
      clear hK K
      iterate 2 (refine wpList_plain rfl (fun K hK => ?_); go_simp; with_reducible refine hK _ _ ?_; clear hK K)
      go_wp2
      go_ret
      exact RetV.mk (belowP (belowP (belowP (belowP be bs5 d5) bs6 d6) bs7 d7) bs8 d8)
end Go.Proofs.YtknoenceccpkhaaDoor

