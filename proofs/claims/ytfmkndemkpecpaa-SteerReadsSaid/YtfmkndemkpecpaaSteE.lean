/- The reference's Read (chapter 29): what tells nothing. -/
import Derived.Test.YtfmkndemkpecpaaSteC
import Derived.Test.YtfmkndemkpecpaaTcpQ
namespace Go.Proofs.Ytfmkndemkpecpaa
open Go.RowKit
set_option linter.unusedVariables false
set_option linter.unusedSimpArgs false
attribute [local go_sem ↓] sliced_cut
attribute [local go_sem] cutA_zero

theorem szRQ (s1 : Bool) (h1 l1 : Nat) (s2 : Bool) (h2 l2 sp dp p st : Nat) (has : Bool) : (Try.prog.info? 35).map (·.size) = some (qC s1 h1 l1 s2 h2 l2 sp dp p st has).length := by kernel_rfl
theorem rowRQ : ∃ d, Try.prog.underlying 35 = some d ∧ d.isRow = true := ⟨_, Try.underlying35, rfl⟩
set_option maxHeartbeats 4000000 in
set_option maxRecDepth 100000 in
theorem refRead4_v (A : Option Addr) (n c : Nat) (l : List UInt8) (w : World) (h : Rb w A n c l) (hm : n ≤ 1000000) (x p9 p6 f : Nat) (hx : num ((l.drop 0).take 1) = x) (hx9 : num ((l.drop 9).take 1) = p9) (hx6 : num ((l.drop 6).take 1) = p6) (hxf : num ((l.drop 6).take 2) = f) (hn : 20 ≤ n) (hv : x / 16 ≠ 4) : Calls Try.prog 14 #[.slice A n c, .bool false] w (RetV w (.tuple #[.agg (qC false 0 0 false 0 0 0 0 0 0 false).toArray, .bool false])) := by
  obtain ⟨dq, r1, r2⟩ := rowRQ
  have hc := h.2.1
  have hl := h.1
  obtain ⟨b, off, rfl, hbl, hcell⟩ := h.2.2.at_ (by rw [bcs_length, h.1]; omega)
  have y0 := num_cell hcell 0 (by omega)
  rw [hx, Nat.add_zero] at y0
  have y9 := num_cell hcell 9 (by omega)
  have y6 := num_cell hcell 6 (by omega)
  rw [hx9] at y9
  rw [hx6] at y6
  have hx8 : x < 256 := by rw [← hx]; exact num_lt' l 0 1 256 (by decide)
  have hp9 : p9 < 256 := by rw [← hx9]; exact num_lt' l 9 1 256 (by decide)
  have hp6 : p6 < 256 := by rw [← hx6]; exact num_lt' l 6 1 256 (by decide)
  have i0 : (0 : Int) < (n : Int) := by omega
  have i0n : 0 < n := by omega
  have i6 : (6 : Int) < (n : Int) := by omega
  have i6n : 6 < n := by omega
  have i9 : (9 : Int) < (n : Int) := by omega
  have i9n : 9 < n := by omega
  have tai : decide ((n : Int) < 20) = false := by simp only [decide_eq_false_iff_not]; omega
  have tan : decide (n < 20) = false := by simp only [decide_eq_false_iff_not]; omega
  obtain ⟨q, hq⟩ : ∃ q : Nat, q = x / 16 := ⟨_, rfl⟩
  have e1 : (x : Int) / 16 = (q : Int) := by omega
  have e1m : (q : Int) % 256 = (q : Int) := by omega
  obtain ⟨m, hm0⟩ : ∃ m : Nat, x % 16 = m := ⟨_, rfl⟩
  have v0 : (x : Int) % 16 = (m : Int) := by omega
  have v0t : (x : Int).tmod 16 = (m : Int) := by rw [Int.tmod_eq_emod_of_nonneg (by omega)]; omega
  have v1 : IntKind.i64.wrap (m : Int) = (m : Int) := IntWalk.i64_in _ (by omega)
  obtain ⟨z, hz⟩ : ∃ z : Nat, z = 4 * m := ⟨_, rfl⟩
  have v2 : IntKind.i64.wrap ((m : Int) * 4) = (z : Int) := by rw [IntWalk.i64_in _ (by omega)]; omega
  have v3 : IntKind.i64.wrap (p9 : Int) = (p9 : Int) := IntWalk.i64_in _ (by omega)
  have v4 : IntKind.i64.wrap (p6 : Int) = (p6 : Int) := IntWalk.i64_in _ (by omega)
  obtain ⟨z8, hz8⟩ : ∃ k : Nat, k = z + 8 := ⟨_, rfl⟩
  have v5 : IntKind.i64.wrap ((z : Int) + 8) = (z8 : Int) := by rw [IntWalk.i64_in _ (by omega)]; omega
  have nv : ((q : Int) != 4) = true := by rw [bne_iff_ne]; omega
  clear hv hx hx9 hx6 hxf hq hm0 hz hz8 hm hn
  have b4 : Bk (w.alloc (.cells #[.bool false, .int .u64 0, .int .u64 0, .bool false, .int .u64 0, .int .u64 0, .int .u16 0, .int .u16 0, .int .u8 0, .int .u32 0, .bool false] 35)) w.heap.size 35 (qC false 0 0 false 0 0 0 0 0 0 false) := Bk.new w 35 #[.bool false, .int .u64 0, .int .u64 0, .bool false, .int .u64 0, .int .u64 0, .int .u16 0, .int .u16 0, .int .u8 0, .int .u32 0, .bool false]
  have be : Below w.heap.size w (w.alloc (.cells #[.bool false, .int .u64 0, .int .u64 0, .bool false, .int .u64 0, .int .u64 0, .int .u16 0, .int .u16 0, .int .u8 0, .int .u32 0, .bool false] 35)) := Below.allocS (Below.refl _ _) _
  have yV0 := (be.cell (p := ⟨b, off, none⟩) hbl).trans y0
  have yV9 := (be.cell (p := ⟨b, off + 9, none⟩) hbl).trans y9
  have yV6 := (be.cell (p := ⟨b, off + 6, none⟩) hbl).trans y6
  have zV := be.size
  clear hcell y0 y9 y6
  go_enter Try.func14, Try.ntmps14
  go_upto_region 3 with (fail)
  generalize w.alloc (.cells #[.bool false, .int .u64 0, .int .u64 0, .bool false, .int .u64 0, .int .u64 0, .int .u16 0, .int .u16 0, .int .u8 0, .int .u32 0, .bool false] 35) = V at *
  have zb : b < V.heap.size := by omega
  go_wp2
  refine wp_relS 15 143 rfl (by kernel_rfl) (by kernel_rfl) ?_
  apply Steps.one (MP.eq _) 1 rfl
  · intro o ho FA x hO hD K hK
    obtain rfl := Option.some.inj ho.symm
    clear ho
    have e0 := hO 0 (by kernel_rfl)
    simp only [eval_tmp, List.getElem?_toArray, List.getElem?_cons_succ, List.getElem?_cons_zero, Option.getD_some] at e0
    have ev0 := Lib.hid ((eval_tmp FA 0).trans e0)
    clear hO hD
    go_simp
    exact hK.out _ _ (Ex.refl _) rfl
  apply Steps.one (MP.eq _) 2 rfl
  · intro o ho FA x hO hD K hK
    obtain rfl := Option.some.inj ho.symm
    clear ho
    have ev19 : FA.eval (.tmp 19) = _ := hD 0 19 (by kernel_rfl)
    have e19 := (eval_tmp FA 19).symm.trans ev19
    replace ev19 := Lib.hid ev19
    clear hO hD
    go_simp
    exact hK.out _ _ (Ex.refl _) rfl
  apply Steps.one (MP.eq _) 3 rfl
  · intro o ho FA x hO hD K hK
    obtain rfl := Option.some.inj ho.symm
    clear ho
    have ev20 : FA.eval (.tmp 20) = _ := hD 1 20 (by kernel_rfl)
    have e20 := (eval_tmp FA 20).symm.trans ev20
    replace ev20 := Lib.hid ev20
    clear hO hD
    go_simp
    exact hK.out _ _ (Ex.refl _) rfl
  apply Steps.one (MP.eq _) 4 rfl
  · intro o ho FA x hO hD K hK
    obtain rfl := Option.some.inj ho.symm
    clear ho
    have ev21 : FA.eval (.tmp 21) = _ := hD 2 21 (by kernel_rfl)
    have e21 := (eval_tmp FA 21).symm.trans ev21
    replace ev21 := Lib.hid ev21
    clear hO hD
    go_simp
    exact hK.out _ _ (Ex.refl _) rfl
  apply Steps.one (MP.eq _) 5 rfl
  · intro o ho FA x hO hD K hK
    obtain rfl := Option.some.inj ho.symm
    clear ho
    have ev22 : FA.eval (.tmp 22) = _ := hD 3 22 (by kernel_rfl)
    have e22 := (eval_tmp FA 22).symm.trans ev22
    replace ev22 := Lib.hid ev22
    clear hO hD
    go_simp
    exact hK.out _ _ (Ex.refl _) rfl
  apply Steps.one (MP.eq _) 6 rfl
  · intro o ho FA x hO hD K hK
    obtain rfl := Option.some.inj ho.symm
    clear ho
    have ev23 : FA.eval (.tmp 23) = _ := hD 4 23 (by kernel_rfl)
    have e23 := (eval_tmp FA 23).symm.trans ev23
    replace ev23 := Lib.hid ev23
    clear hO hD
    go_simp
    exact hK.out _ _ (Ex.refl _) rfl
  apply Steps.one (MP.eq _) 7 rfl
  · intro o ho FA x hO hD K hK
    obtain rfl := Option.some.inj ho.symm
    clear ho
    have e0 := hO 0 (by kernel_rfl)
    simp only [eval_tmp, List.getElem?_toArray, List.getElem?_cons_succ, List.getElem?_cons_zero, Option.getD_some] at e0
    have ev0 := Lib.hid ((eval_tmp FA 0).trans e0)
    clear hO hD
    go_simp
    exact hK.out _ _ (Ex.refl _) rfl
  apply Steps.one (MP.eq _) 8 rfl
  · intro o ho FA x hO hD K hK
    obtain rfl := Option.some.inj ho.symm
    clear ho
    have ev25 : FA.eval (.tmp 25) = _ := hD 6 25 (by kernel_rfl)
    have e25 := (eval_tmp FA 25).symm.trans ev25
    replace ev25 := Lib.hid ev25
    clear hO hD
    go_simp
    exact hK.out _ _ (Ex.refl _) rfl
  apply Steps.one (MP.eq _) 9 rfl
  · intro o ho FA x hO hD K hK
    obtain rfl := Option.some.inj ho.symm
    clear ho
    have ev26 : FA.eval (.tmp 26) = _ := hD 7 26 (by kernel_rfl)
    have e26 := (eval_tmp FA 26).symm.trans ev26
    replace ev26 := Lib.hid ev26
    clear hO hD
    go_simp
    exact hK.out _ _ (Ex.refl _) rfl
  apply Steps.one (MP.eq _) 10 rfl
  · intro o ho FA x hO hD K hK
    obtain rfl := Option.some.inj ho.symm
    clear ho
    have ev27 : FA.eval (.tmp 27) = _ := hD 8 27 (by kernel_rfl)
    have e27 := (eval_tmp FA 27).symm.trans ev27
    replace ev27 := Lib.hid ev27
    clear hO hD
    go_simp
    exact hK.out _ _ (Ex.refl _) rfl
  apply Steps.one (MP.eq _) 11 rfl
  · intro o ho FA x hO hD K hK
    obtain rfl := Option.some.inj ho.symm
    clear ho
    have ev24 : FA.eval (.tmp 24) = _ := hD 5 24 (by kernel_rfl)
    have e24 := (eval_tmp FA 24).symm.trans ev24
    replace ev24 := Lib.hid ev24
    clear hO hD
    go_simp
    exact hK.out _ _ (Ex.refl _) rfl
  apply Steps.one (MP.eq _) 12 rfl
  · intro o ho FA x hO hD K hK
    obtain rfl := Option.some.inj ho.symm
    clear ho
    clear hO hD
    go_simp
    exact hK.out _ _ (Ex.refl _) rfl
  apply Steps.one (MP.eq _) 13 rfl
  · intro o ho FA x hO hD K hK
    obtain rfl := Option.some.inj ho.symm
    clear ho
    clear hO hD
    go_simp
    exact hK.out _ _ (Ex.refl _) rfl
  apply Steps.one (MP.eq _) 14 rfl
  · intro o ho FA x hO hD K hK
    obtain rfl := Option.some.inj ho.symm
    clear ho
    have ev28 : FA.eval (.tmp 28) = _ := hD 9 28 (by kernel_rfl)
    have e28 := (eval_tmp FA 28).symm.trans ev28
    replace ev28 := Lib.hid ev28
    clear hO hD
    go_simp
    exact hK.out _ _ (Ex.refl _) rfl
  apply Steps.one (MP.eq _) 15 rfl
  · intro o ho FA x hO hD K hK
    obtain rfl := Option.some.inj ho.symm
    clear ho
    clear hO hD
    go_simp
    exact hK.out _ _ (Ex.refl _) rfl
  refine Steps.fin_ (fun vs x hp => ?_)
  have p0 : vs 0 = _ := hp 0 (by omega)
  have p1 : vs 1 = _ := hp 1 (by omega)
  have p2 : vs 2 = _ := hp 2 (by omega)
  have p3 : vs 3 = _ := hp 3 (by omega)
  have p4 : vs 4 = _ := hp 4 (by omega)
  have p5 : vs 5 = _ := hp 5 (by omega)
  have p6 : vs 6 = _ := hp 6 (by omega)
  have p7 : vs 7 = _ := hp 7 (by omega)
  have p8 : vs 8 = _ := hp 8 (by omega)
  have p9 : vs 9 = _ := hp 9 (by omega)
  have p10 : vs 10 = _ := hp 10 (by omega)
  have p11 : vs 11 = _ := hp 11 (by omega)
  have p12 : vs 12 = _ := hp 12 (by omega)
  have p13 : vs 13 = _ := hp 13 (by omega)
  have p14 : vs 14 = _ := hp 14 (by omega)
  clear hp
  simp only [List.take_succ_cons, List.take_zero, List.drop_succ_cons, List.drop_zero, putAll, Nat.zero_add, Nat.reduceAdd, Act.put, List.setIfInBounds_toArray, List.set_cons_zero, List.set_cons_succ, p0, p1, p2, p3, p4, p5, p6, p7, p8, p9, p10, p11, p12, p13, p14]
  clear p0 p1 p2 p3 p4 p5 p6 p7 p8 p9 p10 p11 p12 p13 p14
  clear vs
  have zs := be.size
  have yW0 := (cell_plus V x.bs x.d b off zb).trans yV0
  have yW6 := (cell_plus V x.bs x.d b (off + 6) zb).trans yV6
  replace be := belowP be x.bs x.d
  replace b4 := b4.later (below_plus _ x.bs x.d)
  clear yV0 yV6 yV9
  generalize plus V x.bs x.d = V1 at *
  have zb1 : b < V1.heap.size := Nat.lt_of_lt_of_le hbl be.size
  go_wp2_with (first
    | (go_at_call 54; refine (HG.out _ (h.later be)).mono ?_; rintro e w1 ⟨rfl, rfl⟩)
    | (refine at_op (.store 35 (.tmp 4) (.tmp 69)) rfl ?_; refine wpList_stA (t := 35) 35 (.tmp 4) (.tmp 69) rfl rfl (qC false 0 0 false 0 0 0 0 0 0 false) (qC false 0 0 false 0 0 0 0 0 0 false) rfl (qC_one _ _ _ _ _ _ _ _ _ _ _) rfl rfl b4 (szRQ _ _ _ _ _ _ _ _ _ _ _) ?_; intro W9 h9 g9))
  refine bodyPost_agg2 Try.results14 rfl rfl h9.range r1 r2 (szRQ _ _ _ _ _ _ _ _ _ _ _) rfl (RetV.mk ?_)
  exact below_grown be g9 (by omega)
set_option maxHeartbeats 4000000 in
set_option maxRecDepth 100000 in
theorem refRead4_s (A : Option Addr) (n c : Nat) (l : List UInt8) (w : World) (h : Rb w A n c l) (hm : n ≤ 1000000) (x p9 p6 f : Nat) (hx : num ((l.drop 0).take 1) = x) (hx9 : num ((l.drop 9).take 1) = p9) (hx6 : num ((l.drop 6).take 1) = p6) (hxf : num ((l.drop 6).take 2) = f) (hn : 20 ≤ n) (hv : x / 16 = 4) (hs : 4 * (x % 16) < 20) : Calls Try.prog 14 #[.slice A n c, .bool false] w (RetV w (.tuple #[.agg (qC false 0 0 false 0 0 0 0 0 0 false).toArray, .bool false])) := by
  obtain ⟨dq, r1, r2⟩ := rowRQ
  have hc := h.2.1
  have hl := h.1
  obtain ⟨b, off, rfl, hbl, hcell⟩ := h.2.2.at_ (by rw [bcs_length, h.1]; omega)
  have y0 := num_cell hcell 0 (by omega)
  rw [hx, Nat.add_zero] at y0
  have y9 := num_cell hcell 9 (by omega)
  have y6 := num_cell hcell 6 (by omega)
  rw [hx9] at y9
  rw [hx6] at y6
  have hx8 : x < 256 := by rw [← hx]; exact num_lt' l 0 1 256 (by decide)
  have hp9 : p9 < 256 := by rw [← hx9]; exact num_lt' l 9 1 256 (by decide)
  have hp6 : p6 < 256 := by rw [← hx6]; exact num_lt' l 6 1 256 (by decide)
  have i0 : (0 : Int) < (n : Int) := by omega
  have i0n : 0 < n := by omega
  have i6 : (6 : Int) < (n : Int) := by omega
  have i6n : 6 < n := by omega
  have i9 : (9 : Int) < (n : Int) := by omega
  have i9n : 9 < n := by omega
  have tai : decide ((n : Int) < 20) = false := by simp only [decide_eq_false_iff_not]; omega
  have tan : decide (n < 20) = false := by simp only [decide_eq_false_iff_not]; omega
  obtain ⟨q, hq⟩ : ∃ q : Nat, q = x / 16 := ⟨_, rfl⟩
  have e1 : (x : Int) / 16 = (q : Int) := by omega
  have e1m : (q : Int) % 256 = (q : Int) := by omega
  obtain ⟨m, hm0⟩ : ∃ m : Nat, x % 16 = m := ⟨_, rfl⟩
  have v0 : (x : Int) % 16 = (m : Int) := by omega
  have v0t : (x : Int).tmod 16 = (m : Int) := by rw [Int.tmod_eq_emod_of_nonneg (by omega)]; omega
  have v1 : IntKind.i64.wrap (m : Int) = (m : Int) := IntWalk.i64_in _ (by omega)
  obtain ⟨z, hz⟩ : ∃ z : Nat, z = 4 * m := ⟨_, rfl⟩
  have v2 : IntKind.i64.wrap ((m : Int) * 4) = (z : Int) := by rw [IntWalk.i64_in _ (by omega)]; omega
  have v3 : IntKind.i64.wrap (p9 : Int) = (p9 : Int) := IntWalk.i64_in _ (by omega)
  have v4 : IntKind.i64.wrap (p6 : Int) = (p6 : Int) := IntWalk.i64_in _ (by omega)
  obtain ⟨z8, hz8⟩ : ∃ k : Nat, k = z + 8 := ⟨_, rfl⟩
  have v5 : IntKind.i64.wrap ((z : Int) + 8) = (z8 : Int) := by rw [IntWalk.i64_in _ (by omega)]; omega
  have nv : ((q : Int) != 4) = false := by rw [bne_eq_false_iff_eq]; omega
  have tbi : decide ((z : Int) < 20) = true := by simp only [decide_eq_true_eq]; omega
  have tbn : decide (z < 20) = true := by simp only [decide_eq_true_eq]; omega
  clear hv hs hx hx9 hx6 hxf hq hm0 hz hz8 hm hn
  have b4 : Bk (w.alloc (.cells #[.bool false, .int .u64 0, .int .u64 0, .bool false, .int .u64 0, .int .u64 0, .int .u16 0, .int .u16 0, .int .u8 0, .int .u32 0, .bool false] 35)) w.heap.size 35 (qC false 0 0 false 0 0 0 0 0 0 false) := Bk.new w 35 #[.bool false, .int .u64 0, .int .u64 0, .bool false, .int .u64 0, .int .u64 0, .int .u16 0, .int .u16 0, .int .u8 0, .int .u32 0, .bool false]
  have be : Below w.heap.size w (w.alloc (.cells #[.bool false, .int .u64 0, .int .u64 0, .bool false, .int .u64 0, .int .u64 0, .int .u16 0, .int .u16 0, .int .u8 0, .int .u32 0, .bool false] 35)) := Below.allocS (Below.refl _ _) _
  have yV0 := (be.cell (p := ⟨b, off, none⟩) hbl).trans y0
  have yV9 := (be.cell (p := ⟨b, off + 9, none⟩) hbl).trans y9
  have yV6 := (be.cell (p := ⟨b, off + 6, none⟩) hbl).trans y6
  have zV := be.size
  clear hcell y0 y9 y6
  go_enter Try.func14, Try.ntmps14
  go_upto_region 3 with (fail)
  generalize w.alloc (.cells #[.bool false, .int .u64 0, .int .u64 0, .bool false, .int .u64 0, .int .u64 0, .int .u16 0, .int .u16 0, .int .u8 0, .int .u32 0, .bool false] 35) = V at *
  have zb : b < V.heap.size := by omega
  go_wp2
  refine wp_relS 15 143 rfl (by kernel_rfl) (by kernel_rfl) ?_
  apply Steps.one (MP.eq _) 1 rfl
  · intro o ho FA x hO hD K hK
    obtain rfl := Option.some.inj ho.symm
    clear ho
    have e0 := hO 0 (by kernel_rfl)
    simp only [eval_tmp, List.getElem?_toArray, List.getElem?_cons_succ, List.getElem?_cons_zero, Option.getD_some] at e0
    have ev0 := Lib.hid ((eval_tmp FA 0).trans e0)
    clear hO hD
    go_simp
    exact hK.out _ _ (Ex.refl _) rfl
  apply Steps.one (MP.eq _) 2 rfl
  · intro o ho FA x hO hD K hK
    obtain rfl := Option.some.inj ho.symm
    clear ho
    have ev19 : FA.eval (.tmp 19) = _ := hD 0 19 (by kernel_rfl)
    have e19 := (eval_tmp FA 19).symm.trans ev19
    replace ev19 := Lib.hid ev19
    clear hO hD
    go_simp
    exact hK.out _ _ (Ex.refl _) rfl
  apply Steps.one (MP.eq _) 3 rfl
  · intro o ho FA x hO hD K hK
    obtain rfl := Option.some.inj ho.symm
    clear ho
    have ev20 : FA.eval (.tmp 20) = _ := hD 1 20 (by kernel_rfl)
    have e20 := (eval_tmp FA 20).symm.trans ev20
    replace ev20 := Lib.hid ev20
    clear hO hD
    go_simp
    exact hK.out _ _ (Ex.refl _) rfl
  apply Steps.one (MP.eq _) 4 rfl
  · intro o ho FA x hO hD K hK
    obtain rfl := Option.some.inj ho.symm
    clear ho
    have ev21 : FA.eval (.tmp 21) = _ := hD 2 21 (by kernel_rfl)
    have e21 := (eval_tmp FA 21).symm.trans ev21
    replace ev21 := Lib.hid ev21
    clear hO hD
    go_simp
    exact hK.out _ _ (Ex.refl _) rfl
  apply Steps.one (MP.eq _) 5 rfl
  · intro o ho FA x hO hD K hK
    obtain rfl := Option.some.inj ho.symm
    clear ho
    have ev22 : FA.eval (.tmp 22) = _ := hD 3 22 (by kernel_rfl)
    have e22 := (eval_tmp FA 22).symm.trans ev22
    replace ev22 := Lib.hid ev22
    clear hO hD
    go_simp
    exact hK.out _ _ (Ex.refl _) rfl
  apply Steps.one (MP.eq _) 6 rfl
  · intro o ho FA x hO hD K hK
    obtain rfl := Option.some.inj ho.symm
    clear ho
    have ev23 : FA.eval (.tmp 23) = _ := hD 4 23 (by kernel_rfl)
    have e23 := (eval_tmp FA 23).symm.trans ev23
    replace ev23 := Lib.hid ev23
    clear hO hD
    go_simp
    exact hK.out _ _ (Ex.refl _) rfl
  apply Steps.one (MP.eq _) 7 rfl
  · intro o ho FA x hO hD K hK
    obtain rfl := Option.some.inj ho.symm
    clear ho
    have e0 := hO 0 (by kernel_rfl)
    simp only [eval_tmp, List.getElem?_toArray, List.getElem?_cons_succ, List.getElem?_cons_zero, Option.getD_some] at e0
    have ev0 := Lib.hid ((eval_tmp FA 0).trans e0)
    clear hO hD
    go_simp
    exact hK.out _ _ (Ex.refl _) rfl
  apply Steps.one (MP.eq _) 8 rfl
  · intro o ho FA x hO hD K hK
    obtain rfl := Option.some.inj ho.symm
    clear ho
    have ev25 : FA.eval (.tmp 25) = _ := hD 6 25 (by kernel_rfl)
    have e25 := (eval_tmp FA 25).symm.trans ev25
    replace ev25 := Lib.hid ev25
    clear hO hD
    go_simp
    exact hK.out _ _ (Ex.refl _) rfl
  apply Steps.one (MP.eq _) 9 rfl
  · intro o ho FA x hO hD K hK
    obtain rfl := Option.some.inj ho.symm
    clear ho
    have ev26 : FA.eval (.tmp 26) = _ := hD 7 26 (by kernel_rfl)
    have e26 := (eval_tmp FA 26).symm.trans ev26
    replace ev26 := Lib.hid ev26
    clear hO hD
    go_simp
    exact hK.out _ _ (Ex.refl _) rfl
  apply Steps.one (MP.eq _) 10 rfl
  · intro o ho FA x hO hD K hK
    obtain rfl := Option.some.inj ho.symm
    clear ho
    have ev27 : FA.eval (.tmp 27) = _ := hD 8 27 (by kernel_rfl)
    have e27 := (eval_tmp FA 27).symm.trans ev27
    replace ev27 := Lib.hid ev27
    clear hO hD
    go_simp
    exact hK.out _ _ (Ex.refl _) rfl
  apply Steps.one (MP.eq _) 11 rfl
  · intro o ho FA x hO hD K hK
    obtain rfl := Option.some.inj ho.symm
    clear ho
    have ev24 : FA.eval (.tmp 24) = _ := hD 5 24 (by kernel_rfl)
    have e24 := (eval_tmp FA 24).symm.trans ev24
    replace ev24 := Lib.hid ev24
    clear hO hD
    go_simp
    exact hK.out _ _ (Ex.refl _) rfl
  apply Steps.one (MP.eq _) 12 rfl
  · intro o ho FA x hO hD K hK
    obtain rfl := Option.some.inj ho.symm
    clear ho
    clear hO hD
    go_simp
    exact hK.out _ _ (Ex.refl _) rfl
  apply Steps.one (MP.eq _) 13 rfl
  · intro o ho FA x hO hD K hK
    obtain rfl := Option.some.inj ho.symm
    clear ho
    clear hO hD
    go_simp
    exact hK.out _ _ (Ex.refl _) rfl
  apply Steps.one (MP.eq _) 14 rfl
  · intro o ho FA x hO hD K hK
    obtain rfl := Option.some.inj ho.symm
    clear ho
    have ev28 : FA.eval (.tmp 28) = _ := hD 9 28 (by kernel_rfl)
    have e28 := (eval_tmp FA 28).symm.trans ev28
    replace ev28 := Lib.hid ev28
    clear hO hD
    go_simp
    exact hK.out _ _ (Ex.refl _) rfl
  apply Steps.one (MP.eq _) 15 rfl
  · intro o ho FA x hO hD K hK
    obtain rfl := Option.some.inj ho.symm
    clear ho
    clear hO hD
    go_simp
    exact hK.out _ _ (Ex.refl _) rfl
  refine Steps.fin_ (fun vs x hp => ?_)
  have p0 : vs 0 = _ := hp 0 (by omega)
  have p1 : vs 1 = _ := hp 1 (by omega)
  have p2 : vs 2 = _ := hp 2 (by omega)
  have p3 : vs 3 = _ := hp 3 (by omega)
  have p4 : vs 4 = _ := hp 4 (by omega)
  have p5 : vs 5 = _ := hp 5 (by omega)
  have p6 : vs 6 = _ := hp 6 (by omega)
  have p7 : vs 7 = _ := hp 7 (by omega)
  have p8 : vs 8 = _ := hp 8 (by omega)
  have p9 : vs 9 = _ := hp 9 (by omega)
  have p10 : vs 10 = _ := hp 10 (by omega)
  have p11 : vs 11 = _ := hp 11 (by omega)
  have p12 : vs 12 = _ := hp 12 (by omega)
  have p13 : vs 13 = _ := hp 13 (by omega)
  have p14 : vs 14 = _ := hp 14 (by omega)
  clear hp
  simp only [List.take_succ_cons, List.take_zero, List.drop_succ_cons, List.drop_zero, putAll, Nat.zero_add, Nat.reduceAdd, Act.put, List.setIfInBounds_toArray, List.set_cons_zero, List.set_cons_succ, p0, p1, p2, p3, p4, p5, p6, p7, p8, p9, p10, p11, p12, p13, p14]
  clear p0 p1 p2 p3 p4 p5 p6 p7 p8 p9 p10 p11 p12 p13 p14
  clear vs
  have zs := be.size
  have yW0 := (cell_plus V x.bs x.d b off zb).trans yV0
  have yW6 := (cell_plus V x.bs x.d b (off + 6) zb).trans yV6
  replace be := belowP be x.bs x.d
  replace b4 := b4.later (below_plus _ x.bs x.d)
  clear yV0 yV6 yV9
  generalize plus V x.bs x.d = V1 at *
  have zb1 : b < V1.heap.size := Nat.lt_of_lt_of_le hbl be.size
  go_wp2_with (first
    | (go_at_call 54; refine (HG.out _ (h.later be)).mono ?_; rintro e w1 ⟨rfl, rfl⟩)
    | (refine at_op (.store 35 (.tmp 4) (.tmp 69)) rfl ?_; refine wpList_stA (t := 35) 35 (.tmp 4) (.tmp 69) rfl rfl (qC false 0 0 false 0 0 0 0 0 0 false) (qC false 0 0 false 0 0 0 0 0 0 false) rfl (qC_one _ _ _ _ _ _ _ _ _ _ _) rfl rfl b4 (szRQ _ _ _ _ _ _ _ _ _ _ _) ?_; intro W9 h9 g9))
  refine bodyPost_agg2 Try.results14 rfl rfl h9.range r1 r2 (szRQ _ _ _ _ _ _ _ _ _ _ _) rfl (RetV.mk ?_)
  exact below_grown be g9 (by omega)
set_option maxHeartbeats 4000000 in
set_option maxRecDepth 100000 in
theorem refRead4_l (A : Option Addr) (n c : Nat) (l : List UInt8) (w : World) (h : Rb w A n c l) (hm : n ≤ 1000000) (x p9 p6 f : Nat) (hx : num ((l.drop 0).take 1) = x) (hx9 : num ((l.drop 9).take 1) = p9) (hx6 : num ((l.drop 6).take 1) = p6) (hxf : num ((l.drop 6).take 2) = f) (hn : 20 ≤ n) (hv : x / 16 = 4) (hs : 20 ≤ 4 * (x % 16)) (hs8 : n < 4 * (x % 16) + 8) : Calls Try.prog 14 #[.slice A n c, .bool false] w (RetV w (.tuple #[.agg (qC false 0 0 false 0 0 0 0 0 0 false).toArray, .bool false])) := by
  obtain ⟨dq, r1, r2⟩ := rowRQ
  have hc := h.2.1
  have hl := h.1
  obtain ⟨b, off, rfl, hbl, hcell⟩ := h.2.2.at_ (by rw [bcs_length, h.1]; omega)
  have y0 := num_cell hcell 0 (by omega)
  rw [hx, Nat.add_zero] at y0
  have y9 := num_cell hcell 9 (by omega)
  have y6 := num_cell hcell 6 (by omega)
  rw [hx9] at y9
  rw [hx6] at y6
  have hx8 : x < 256 := by rw [← hx]; exact num_lt' l 0 1 256 (by decide)
  have hp9 : p9 < 256 := by rw [← hx9]; exact num_lt' l 9 1 256 (by decide)
  have hp6 : p6 < 256 := by rw [← hx6]; exact num_lt' l 6 1 256 (by decide)
  have i0 : (0 : Int) < (n : Int) := by omega
  have i0n : 0 < n := by omega
  have i6 : (6 : Int) < (n : Int) := by omega
  have i6n : 6 < n := by omega
  have i9 : (9 : Int) < (n : Int) := by omega
  have i9n : 9 < n := by omega
  have tai : decide ((n : Int) < 20) = false := by simp only [decide_eq_false_iff_not]; omega
  have tan : decide (n < 20) = false := by simp only [decide_eq_false_iff_not]; omega
  obtain ⟨q, hq⟩ : ∃ q : Nat, q = x / 16 := ⟨_, rfl⟩
  have e1 : (x : Int) / 16 = (q : Int) := by omega
  have e1m : (q : Int) % 256 = (q : Int) := by omega
  obtain ⟨m, hm0⟩ : ∃ m : Nat, x % 16 = m := ⟨_, rfl⟩
  have v0 : (x : Int) % 16 = (m : Int) := by omega
  have v0t : (x : Int).tmod 16 = (m : Int) := by rw [Int.tmod_eq_emod_of_nonneg (by omega)]; omega
  have v1 : IntKind.i64.wrap (m : Int) = (m : Int) := IntWalk.i64_in _ (by omega)
  obtain ⟨z, hz⟩ : ∃ z : Nat, z = 4 * m := ⟨_, rfl⟩
  have v2 : IntKind.i64.wrap ((m : Int) * 4) = (z : Int) := by rw [IntWalk.i64_in _ (by omega)]; omega
  have v3 : IntKind.i64.wrap (p9 : Int) = (p9 : Int) := IntWalk.i64_in _ (by omega)
  have v4 : IntKind.i64.wrap (p6 : Int) = (p6 : Int) := IntWalk.i64_in _ (by omega)
  obtain ⟨z8, hz8⟩ : ∃ k : Nat, k = z + 8 := ⟨_, rfl⟩
  have v5 : IntKind.i64.wrap ((z : Int) + 8) = (z8 : Int) := by rw [IntWalk.i64_in _ (by omega)]; omega
  have nv : ((q : Int) != 4) = false := by rw [bne_eq_false_iff_eq]; omega
  have tbi : decide ((z : Int) < 20) = false := by simp only [decide_eq_false_iff_not]; omega
  have tbn : decide (z < 20) = false := by simp only [decide_eq_false_iff_not]; omega
  have tci : decide ((n : Int) < (z8 : Int)) = true := by simp only [decide_eq_true_eq]; omega
  have tcn : decide (n < z8) = true := by simp only [decide_eq_true_eq]; omega
  clear hv hs hs8 hx hx9 hx6 hxf hq hm0 hz hz8 hm hn
  have b4 : Bk (w.alloc (.cells #[.bool false, .int .u64 0, .int .u64 0, .bool false, .int .u64 0, .int .u64 0, .int .u16 0, .int .u16 0, .int .u8 0, .int .u32 0, .bool false] 35)) w.heap.size 35 (qC false 0 0 false 0 0 0 0 0 0 false) := Bk.new w 35 #[.bool false, .int .u64 0, .int .u64 0, .bool false, .int .u64 0, .int .u64 0, .int .u16 0, .int .u16 0, .int .u8 0, .int .u32 0, .bool false]
  have be : Below w.heap.size w (w.alloc (.cells #[.bool false, .int .u64 0, .int .u64 0, .bool false, .int .u64 0, .int .u64 0, .int .u16 0, .int .u16 0, .int .u8 0, .int .u32 0, .bool false] 35)) := Below.allocS (Below.refl _ _) _
  have yV0 := (be.cell (p := ⟨b, off, none⟩) hbl).trans y0
  have yV9 := (be.cell (p := ⟨b, off + 9, none⟩) hbl).trans y9
  have yV6 := (be.cell (p := ⟨b, off + 6, none⟩) hbl).trans y6
  have zV := be.size
  clear hcell y0 y9 y6
  go_enter Try.func14, Try.ntmps14
  go_upto_region 3 with (fail)
  generalize w.alloc (.cells #[.bool false, .int .u64 0, .int .u64 0, .bool false, .int .u64 0, .int .u64 0, .int .u16 0, .int .u16 0, .int .u8 0, .int .u32 0, .bool false] 35) = V at *
  have zb : b < V.heap.size := by omega
  go_wp2
  refine wp_relS 15 143 rfl (by kernel_rfl) (by kernel_rfl) ?_
  apply Steps.one (MP.eq _) 1 rfl
  · intro o ho FA x hO hD K hK
    obtain rfl := Option.some.inj ho.symm
    clear ho
    have e0 := hO 0 (by kernel_rfl)
    simp only [eval_tmp, List.getElem?_toArray, List.getElem?_cons_succ, List.getElem?_cons_zero, Option.getD_some] at e0
    have ev0 := Lib.hid ((eval_tmp FA 0).trans e0)
    clear hO hD
    go_simp
    exact hK.out _ _ (Ex.refl _) rfl
  apply Steps.one (MP.eq _) 2 rfl
  · intro o ho FA x hO hD K hK
    obtain rfl := Option.some.inj ho.symm
    clear ho
    have ev19 : FA.eval (.tmp 19) = _ := hD 0 19 (by kernel_rfl)
    have e19 := (eval_tmp FA 19).symm.trans ev19
    replace ev19 := Lib.hid ev19
    clear hO hD
    go_simp
    exact hK.out _ _ (Ex.refl _) rfl
  apply Steps.one (MP.eq _) 3 rfl
  · intro o ho FA x hO hD K hK
    obtain rfl := Option.some.inj ho.symm
    clear ho
    have ev20 : FA.eval (.tmp 20) = _ := hD 1 20 (by kernel_rfl)
    have e20 := (eval_tmp FA 20).symm.trans ev20
    replace ev20 := Lib.hid ev20
    clear hO hD
    go_simp
    exact hK.out _ _ (Ex.refl _) rfl
  apply Steps.one (MP.eq _) 4 rfl
  · intro o ho FA x hO hD K hK
    obtain rfl := Option.some.inj ho.symm
    clear ho
    have ev21 : FA.eval (.tmp 21) = _ := hD 2 21 (by kernel_rfl)
    have e21 := (eval_tmp FA 21).symm.trans ev21
    replace ev21 := Lib.hid ev21
    clear hO hD
    go_simp
    exact hK.out _ _ (Ex.refl _) rfl
  apply Steps.one (MP.eq _) 5 rfl
  · intro o ho FA x hO hD K hK
    obtain rfl := Option.some.inj ho.symm
    clear ho
    have ev22 : FA.eval (.tmp 22) = _ := hD 3 22 (by kernel_rfl)
    have e22 := (eval_tmp FA 22).symm.trans ev22
    replace ev22 := Lib.hid ev22
    clear hO hD
    go_simp
    exact hK.out _ _ (Ex.refl _) rfl
  apply Steps.one (MP.eq _) 6 rfl
  · intro o ho FA x hO hD K hK
    obtain rfl := Option.some.inj ho.symm
    clear ho
    have ev23 : FA.eval (.tmp 23) = _ := hD 4 23 (by kernel_rfl)
    have e23 := (eval_tmp FA 23).symm.trans ev23
    replace ev23 := Lib.hid ev23
    clear hO hD
    go_simp
    exact hK.out _ _ (Ex.refl _) rfl
  apply Steps.one (MP.eq _) 7 rfl
  · intro o ho FA x hO hD K hK
    obtain rfl := Option.some.inj ho.symm
    clear ho
    have e0 := hO 0 (by kernel_rfl)
    simp only [eval_tmp, List.getElem?_toArray, List.getElem?_cons_succ, List.getElem?_cons_zero, Option.getD_some] at e0
    have ev0 := Lib.hid ((eval_tmp FA 0).trans e0)
    clear hO hD
    go_simp
    exact hK.out _ _ (Ex.refl _) rfl
  apply Steps.one (MP.eq _) 8 rfl
  · intro o ho FA x hO hD K hK
    obtain rfl := Option.some.inj ho.symm
    clear ho
    have ev25 : FA.eval (.tmp 25) = _ := hD 6 25 (by kernel_rfl)
    have e25 := (eval_tmp FA 25).symm.trans ev25
    replace ev25 := Lib.hid ev25
    clear hO hD
    go_simp
    exact hK.out _ _ (Ex.refl _) rfl
  apply Steps.one (MP.eq _) 9 rfl
  · intro o ho FA x hO hD K hK
    obtain rfl := Option.some.inj ho.symm
    clear ho
    have ev26 : FA.eval (.tmp 26) = _ := hD 7 26 (by kernel_rfl)
    have e26 := (eval_tmp FA 26).symm.trans ev26
    replace ev26 := Lib.hid ev26
    clear hO hD
    go_simp
    exact hK.out _ _ (Ex.refl _) rfl
  apply Steps.one (MP.eq _) 10 rfl
  · intro o ho FA x hO hD K hK
    obtain rfl := Option.some.inj ho.symm
    clear ho
    have ev27 : FA.eval (.tmp 27) = _ := hD 8 27 (by kernel_rfl)
    have e27 := (eval_tmp FA 27).symm.trans ev27
    replace ev27 := Lib.hid ev27
    clear hO hD
    go_simp
    exact hK.out _ _ (Ex.refl _) rfl
  apply Steps.one (MP.eq _) 11 rfl
  · intro o ho FA x hO hD K hK
    obtain rfl := Option.some.inj ho.symm
    clear ho
    have ev24 : FA.eval (.tmp 24) = _ := hD 5 24 (by kernel_rfl)
    have e24 := (eval_tmp FA 24).symm.trans ev24
    replace ev24 := Lib.hid ev24
    clear hO hD
    go_simp
    exact hK.out _ _ (Ex.refl _) rfl
  apply Steps.one (MP.eq _) 12 rfl
  · intro o ho FA x hO hD K hK
    obtain rfl := Option.some.inj ho.symm
    clear ho
    clear hO hD
    go_simp
    exact hK.out _ _ (Ex.refl _) rfl
  apply Steps.one (MP.eq _) 13 rfl
  · intro o ho FA x hO hD K hK
    obtain rfl := Option.some.inj ho.symm
    clear ho
    clear hO hD
    go_simp
    exact hK.out _ _ (Ex.refl _) rfl
  apply Steps.one (MP.eq _) 14 rfl
  · intro o ho FA x hO hD K hK
    obtain rfl := Option.some.inj ho.symm
    clear ho
    have ev28 : FA.eval (.tmp 28) = _ := hD 9 28 (by kernel_rfl)
    have e28 := (eval_tmp FA 28).symm.trans ev28
    replace ev28 := Lib.hid ev28
    clear hO hD
    go_simp
    exact hK.out _ _ (Ex.refl _) rfl
  apply Steps.one (MP.eq _) 15 rfl
  · intro o ho FA x hO hD K hK
    obtain rfl := Option.some.inj ho.symm
    clear ho
    clear hO hD
    go_simp
    exact hK.out _ _ (Ex.refl _) rfl
  refine Steps.fin_ (fun vs x hp => ?_)
  have p0 : vs 0 = _ := hp 0 (by omega)
  have p1 : vs 1 = _ := hp 1 (by omega)
  have p2 : vs 2 = _ := hp 2 (by omega)
  have p3 : vs 3 = _ := hp 3 (by omega)
  have p4 : vs 4 = _ := hp 4 (by omega)
  have p5 : vs 5 = _ := hp 5 (by omega)
  have p6 : vs 6 = _ := hp 6 (by omega)
  have p7 : vs 7 = _ := hp 7 (by omega)
  have p8 : vs 8 = _ := hp 8 (by omega)
  have p9 : vs 9 = _ := hp 9 (by omega)
  have p10 : vs 10 = _ := hp 10 (by omega)
  have p11 : vs 11 = _ := hp 11 (by omega)
  have p12 : vs 12 = _ := hp 12 (by omega)
  have p13 : vs 13 = _ := hp 13 (by omega)
  have p14 : vs 14 = _ := hp 14 (by omega)
  clear hp
  simp only [List.take_succ_cons, List.take_zero, List.drop_succ_cons, List.drop_zero, putAll, Nat.zero_add, Nat.reduceAdd, Act.put, List.setIfInBounds_toArray, List.set_cons_zero, List.set_cons_succ, p0, p1, p2, p3, p4, p5, p6, p7, p8, p9, p10, p11, p12, p13, p14]
  clear p0 p1 p2 p3 p4 p5 p6 p7 p8 p9 p10 p11 p12 p13 p14
  clear vs
  have zs := be.size
  have yW0 := (cell_plus V x.bs x.d b off zb).trans yV0
  have yW6 := (cell_plus V x.bs x.d b (off + 6) zb).trans yV6
  replace be := belowP be x.bs x.d
  replace b4 := b4.later (below_plus _ x.bs x.d)
  clear yV0 yV6 yV9
  generalize plus V x.bs x.d = V1 at *
  have zb1 : b < V1.heap.size := Nat.lt_of_lt_of_le hbl be.size
  go_wp2_with (first
    | (go_at_call 54; refine (HG.out _ (h.later be)).mono ?_; rintro e w1 ⟨rfl, rfl⟩)
    | (refine at_op (.store 35 (.tmp 4) (.tmp 69)) rfl ?_; refine wpList_stA (t := 35) 35 (.tmp 4) (.tmp 69) rfl rfl (qC false 0 0 false 0 0 0 0 0 0 false) (qC false 0 0 false 0 0 0 0 0 0 false) rfl (qC_one _ _ _ _ _ _ _ _ _ _ _) rfl rfl b4 (szRQ _ _ _ _ _ _ _ _ _ _ _) ?_; intro W9 h9 g9))
  refine bodyPost_agg2 Try.results14 rfl rfl h9.range r1 r2 (szRQ _ _ _ _ _ _ _ _ _ _ _) rfl (RetV.mk ?_)
  exact below_grown be g9 (by omega)
set_option maxHeartbeats 4000000 in
set_option maxRecDepth 100000 in
theorem refRead4_f (A : Option Addr) (n c : Nat) (l : List UInt8) (w : World) (h : Rb w A n c l) (hm : n ≤ 1000000) (x p9 p6 f : Nat) (hx : num ((l.drop 0).take 1) = x) (hx9 : num ((l.drop 9).take 1) = p9) (hx6 : num ((l.drop 6).take 1) = p6) (hxf : num ((l.drop 6).take 2) = f) (hn : 20 ≤ n) (hv : x / 16 = 4) (hs : 20 ≤ 4 * (x % 16)) (hs8 : 4 * (x % 16) + 8 ≤ n) (hf : f % 16384 ≠ 0) : Calls Try.prog 14 #[.slice A n c, .bool false] w (RetV w (.tuple #[.agg (qC false 0 0 false 0 0 0 0 0 0 false).toArray, .bool false])) := by
  obtain ⟨dq, r1, r2⟩ := rowRQ
  have hc := h.2.1
  have hl := h.1
  obtain ⟨b, off, rfl, hbl, hcell⟩ := h.2.2.at_ (by rw [bcs_length, h.1]; omega)
  have y0 := num_cell hcell 0 (by omega)
  rw [hx, Nat.add_zero] at y0
  have y9 := num_cell hcell 9 (by omega)
  have y6 := num_cell hcell 6 (by omega)
  rw [hx9] at y9
  rw [hx6] at y6
  have hx8 : x < 256 := by rw [← hx]; exact num_lt' l 0 1 256 (by decide)
  have hp9 : p9 < 256 := by rw [← hx9]; exact num_lt' l 9 1 256 (by decide)
  have hp6 : p6 < 256 := by rw [← hx6]; exact num_lt' l 6 1 256 (by decide)
  have i0 : (0 : Int) < (n : Int) := by omega
  have i0n : 0 < n := by omega
  have i6 : (6 : Int) < (n : Int) := by omega
  have i6n : 6 < n := by omega
  have i9 : (9 : Int) < (n : Int) := by omega
  have i9n : 9 < n := by omega
  have tai : decide ((n : Int) < 20) = false := by simp only [decide_eq_false_iff_not]; omega
  have tan : decide (n < 20) = false := by simp only [decide_eq_false_iff_not]; omega
  obtain ⟨q, hq⟩ : ∃ q : Nat, q = x / 16 := ⟨_, rfl⟩
  have e1 : (x : Int) / 16 = (q : Int) := by omega
  have e1m : (q : Int) % 256 = (q : Int) := by omega
  obtain ⟨m, hm0⟩ : ∃ m : Nat, x % 16 = m := ⟨_, rfl⟩
  have v0 : (x : Int) % 16 = (m : Int) := by omega
  have v0t : (x : Int).tmod 16 = (m : Int) := by rw [Int.tmod_eq_emod_of_nonneg (by omega)]; omega
  have v1 : IntKind.i64.wrap (m : Int) = (m : Int) := IntWalk.i64_in _ (by omega)
  obtain ⟨z, hz⟩ : ∃ z : Nat, z = 4 * m := ⟨_, rfl⟩
  have v2 : IntKind.i64.wrap ((m : Int) * 4) = (z : Int) := by rw [IntWalk.i64_in _ (by omega)]; omega
  have v3 : IntKind.i64.wrap (p9 : Int) = (p9 : Int) := IntWalk.i64_in _ (by omega)
  have v4 : IntKind.i64.wrap (p6 : Int) = (p6 : Int) := IntWalk.i64_in _ (by omega)
  obtain ⟨z8, hz8⟩ : ∃ k : Nat, k = z + 8 := ⟨_, rfl⟩
  have v5 : IntKind.i64.wrap ((z : Int) + 8) = (z8 : Int) := by rw [IntWalk.i64_in _ (by omega)]; omega
  have nv : ((q : Int) != 4) = false := by rw [bne_eq_false_iff_eq]; omega
  have tbi : decide ((z : Int) < 20) = false := by simp only [decide_eq_false_iff_not]; omega
  have tbn : decide (z < 20) = false := by simp only [decide_eq_false_iff_not]; omega
  have tci : decide ((n : Int) < (z8 : Int)) = false := by simp only [decide_eq_false_iff_not]; omega
  have tcn : decide (n < z8) = false := by simp only [decide_eq_false_iff_not]; omega
  have hf16 : f < 65536 := by rw [← hxf]; exact num_lt' l 6 2 65536 (by decide)
  obtain ⟨fm, hfm⟩ : ∃ k : Nat, f % 16384 = k := ⟨_, rfl⟩
  have v6 : (f : Int) % 16384 = (fm : Int) := by omega
  have v6t : (f : Int).tmod 16384 = (fm : Int) := by rw [Int.tmod_eq_emod_of_nonneg (by omega)]; omega
  have v7 : IntKind.u64.wrap (fm : Int) = (fm : Int) := IntWalk.u64_in _ (by omega)
  have nf : ((fm : Int) != 0) = true := by rw [bne_iff_ne]; omega
  have HG := Lib.hid (fun w (h : Rb w (some ⟨b, off, none⟩) n c l) => refGetV _ n c l _ _ 6 2 f w h rfl rfl hxf (by omega) (by omega) (by omega))
  clear hv hs hs8 hf hfm hf16 hx hx9 hx6 hxf hq hm0 hz hz8 hm hn
  have b4 : Bk (w.alloc (.cells #[.bool false, .int .u64 0, .int .u64 0, .bool false, .int .u64 0, .int .u64 0, .int .u16 0, .int .u16 0, .int .u8 0, .int .u32 0, .bool false] 35)) w.heap.size 35 (qC false 0 0 false 0 0 0 0 0 0 false) := Bk.new w 35 #[.bool false, .int .u64 0, .int .u64 0, .bool false, .int .u64 0, .int .u64 0, .int .u16 0, .int .u16 0, .int .u8 0, .int .u32 0, .bool false]
  have be : Below w.heap.size w (w.alloc (.cells #[.bool false, .int .u64 0, .int .u64 0, .bool false, .int .u64 0, .int .u64 0, .int .u16 0, .int .u16 0, .int .u8 0, .int .u32 0, .bool false] 35)) := Below.allocS (Below.refl _ _) _
  have yV0 := (be.cell (p := ⟨b, off, none⟩) hbl).trans y0
  have yV9 := (be.cell (p := ⟨b, off + 9, none⟩) hbl).trans y9
  have yV6 := (be.cell (p := ⟨b, off + 6, none⟩) hbl).trans y6
  have zV := be.size
  clear hcell y0 y9 y6
  go_enter Try.func14, Try.ntmps14
  go_upto_region 3 with (fail)
  generalize w.alloc (.cells #[.bool false, .int .u64 0, .int .u64 0, .bool false, .int .u64 0, .int .u64 0, .int .u16 0, .int .u16 0, .int .u8 0, .int .u32 0, .bool false] 35) = V at *
  have zb : b < V.heap.size := by omega
  go_wp2
  refine wp_relS 15 143 rfl (by kernel_rfl) (by kernel_rfl) ?_
  apply Steps.one (MP.eq _) 1 rfl
  · intro o ho FA x hO hD K hK
    obtain rfl := Option.some.inj ho.symm
    clear ho
    have e0 := hO 0 (by kernel_rfl)
    simp only [eval_tmp, List.getElem?_toArray, List.getElem?_cons_succ, List.getElem?_cons_zero, Option.getD_some] at e0
    have ev0 := Lib.hid ((eval_tmp FA 0).trans e0)
    clear hO hD
    go_simp
    exact hK.out _ _ (Ex.refl _) rfl
  apply Steps.one (MP.eq _) 2 rfl
  · intro o ho FA x hO hD K hK
    obtain rfl := Option.some.inj ho.symm
    clear ho
    have ev19 : FA.eval (.tmp 19) = _ := hD 0 19 (by kernel_rfl)
    have e19 := (eval_tmp FA 19).symm.trans ev19
    replace ev19 := Lib.hid ev19
    clear hO hD
    go_simp
    exact hK.out _ _ (Ex.refl _) rfl
  apply Steps.one (MP.eq _) 3 rfl
  · intro o ho FA x hO hD K hK
    obtain rfl := Option.some.inj ho.symm
    clear ho
    have ev20 : FA.eval (.tmp 20) = _ := hD 1 20 (by kernel_rfl)
    have e20 := (eval_tmp FA 20).symm.trans ev20
    replace ev20 := Lib.hid ev20
    clear hO hD
    go_simp
    exact hK.out _ _ (Ex.refl _) rfl
  apply Steps.one (MP.eq _) 4 rfl
  · intro o ho FA x hO hD K hK
    obtain rfl := Option.some.inj ho.symm
    clear ho
    have ev21 : FA.eval (.tmp 21) = _ := hD 2 21 (by kernel_rfl)
    have e21 := (eval_tmp FA 21).symm.trans ev21
    replace ev21 := Lib.hid ev21
    clear hO hD
    go_simp
    exact hK.out _ _ (Ex.refl _) rfl
  apply Steps.one (MP.eq _) 5 rfl
  · intro o ho FA x hO hD K hK
    obtain rfl := Option.some.inj ho.symm
    clear ho
    have ev22 : FA.eval (.tmp 22) = _ := hD 3 22 (by kernel_rfl)
    have e22 := (eval_tmp FA 22).symm.trans ev22
    replace ev22 := Lib.hid ev22
    clear hO hD
    go_simp
    exact hK.out _ _ (Ex.refl _) rfl
  apply Steps.one (MP.eq _) 6 rfl
  · intro o ho FA x hO hD K hK
    obtain rfl := Option.some.inj ho.symm
    clear ho
    have ev23 : FA.eval (.tmp 23) = _ := hD 4 23 (by kernel_rfl)
    have e23 := (eval_tmp FA 23).symm.trans ev23
    replace ev23 := Lib.hid ev23
    clear hO hD
    go_simp
    exact hK.out _ _ (Ex.refl _) rfl
  apply Steps.one (MP.eq _) 7 rfl
  · intro o ho FA x hO hD K hK
    obtain rfl := Option.some.inj ho.symm
    clear ho
    have e0 := hO 0 (by kernel_rfl)
    simp only [eval_tmp, List.getElem?_toArray, List.getElem?_cons_succ, List.getElem?_cons_zero, Option.getD_some] at e0
    have ev0 := Lib.hid ((eval_tmp FA 0).trans e0)
    clear hO hD
    go_simp
    exact hK.out _ _ (Ex.refl _) rfl
  apply Steps.one (MP.eq _) 8 rfl
  · intro o ho FA x hO hD K hK
    obtain rfl := Option.some.inj ho.symm
    clear ho
    have ev25 : FA.eval (.tmp 25) = _ := hD 6 25 (by kernel_rfl)
    have e25 := (eval_tmp FA 25).symm.trans ev25
    replace ev25 := Lib.hid ev25
    clear hO hD
    go_simp
    exact hK.out _ _ (Ex.refl _) rfl
  apply Steps.one (MP.eq _) 9 rfl
  · intro o ho FA x hO hD K hK
    obtain rfl := Option.some.inj ho.symm
    clear ho
    have ev26 : FA.eval (.tmp 26) = _ := hD 7 26 (by kernel_rfl)
    have e26 := (eval_tmp FA 26).symm.trans ev26
    replace ev26 := Lib.hid ev26
    clear hO hD
    go_simp
    exact hK.out _ _ (Ex.refl _) rfl
  apply Steps.one (MP.eq _) 10 rfl
  · intro o ho FA x hO hD K hK
    obtain rfl := Option.some.inj ho.symm
    clear ho
    have ev27 : FA.eval (.tmp 27) = _ := hD 8 27 (by kernel_rfl)
    have e27 := (eval_tmp FA 27).symm.trans ev27
    replace ev27 := Lib.hid ev27
    clear hO hD
    go_simp
    exact hK.out _ _ (Ex.refl _) rfl
  apply Steps.one (MP.eq _) 11 rfl
  · intro o ho FA x hO hD K hK
    obtain rfl := Option.some.inj ho.symm
    clear ho
    have ev24 : FA.eval (.tmp 24) = _ := hD 5 24 (by kernel_rfl)
    have e24 := (eval_tmp FA 24).symm.trans ev24
    replace ev24 := Lib.hid ev24
    clear hO hD
    go_simp
    exact hK.out _ _ (Ex.refl _) rfl
  apply Steps.one (MP.eq _) 12 rfl
  · intro o ho FA x hO hD K hK
    obtain rfl := Option.some.inj ho.symm
    clear ho
    clear hO hD
    go_simp
    exact hK.out _ _ (Ex.refl _) rfl
  apply Steps.one (MP.eq _) 13 rfl
  · intro o ho FA x hO hD K hK
    obtain rfl := Option.some.inj ho.symm
    clear ho
    clear hO hD
    go_simp
    exact hK.out _ _ (Ex.refl _) rfl
  apply Steps.one (MP.eq _) 14 rfl
  · intro o ho FA x hO hD K hK
    obtain rfl := Option.some.inj ho.symm
    clear ho
    have ev28 : FA.eval (.tmp 28) = _ := hD 9 28 (by kernel_rfl)
    have e28 := (eval_tmp FA 28).symm.trans ev28
    replace ev28 := Lib.hid ev28
    clear hO hD
    go_simp
    exact hK.out _ _ (Ex.refl _) rfl
  apply Steps.one (MP.eq _) 15 rfl
  · intro o ho FA x hO hD K hK
    obtain rfl := Option.some.inj ho.symm
    clear ho
    clear hO hD
    go_simp
    exact hK.out _ _ (Ex.refl _) rfl
  refine Steps.fin_ (fun vs x hp => ?_)
  have p0 : vs 0 = _ := hp 0 (by omega)
  have p1 : vs 1 = _ := hp 1 (by omega)
  have p2 : vs 2 = _ := hp 2 (by omega)
  have p3 : vs 3 = _ := hp 3 (by omega)
  have p4 : vs 4 = _ := hp 4 (by omega)
  have p5 : vs 5 = _ := hp 5 (by omega)
  have p6 : vs 6 = _ := hp 6 (by omega)
  have p7 : vs 7 = _ := hp 7 (by omega)
  have p8 : vs 8 = _ := hp 8 (by omega)
  have p9 : vs 9 = _ := hp 9 (by omega)
  have p10 : vs 10 = _ := hp 10 (by omega)
  have p11 : vs 11 = _ := hp 11 (by omega)
  have p12 : vs 12 = _ := hp 12 (by omega)
  have p13 : vs 13 = _ := hp 13 (by omega)
  have p14 : vs 14 = _ := hp 14 (by omega)
  clear hp
  simp only [List.take_succ_cons, List.take_zero, List.drop_succ_cons, List.drop_zero, putAll, Nat.zero_add, Nat.reduceAdd, Act.put, List.setIfInBounds_toArray, List.set_cons_zero, List.set_cons_succ, p0, p1, p2, p3, p4, p5, p6, p7, p8, p9, p10, p11, p12, p13, p14]
  clear p0 p1 p2 p3 p4 p5 p6 p7 p8 p9 p10 p11 p12 p13 p14
  clear vs
  have zs := be.size
  have yW0 := (cell_plus V x.bs x.d b off zb).trans yV0
  have yW6 := (cell_plus V x.bs x.d b (off + 6) zb).trans yV6
  replace be := belowP be x.bs x.d
  replace b4 := b4.later (below_plus _ x.bs x.d)
  clear yV0 yV6 yV9
  generalize plus V x.bs x.d = V1 at *
  have zb1 : b < V1.heap.size := Nat.lt_of_lt_of_le hbl be.size
  go_wp2_with (first
    | (go_at_call 54; refine (HG.out _ (h.later be)).mono ?_; rintro e w1 ⟨rfl, rfl⟩)
    | (refine at_op (.store 35 (.tmp 4) (.tmp 69)) rfl ?_; refine wpList_stA (t := 35) 35 (.tmp 4) (.tmp 69) rfl rfl (qC false 0 0 false 0 0 0 0 0 0 false) (qC false 0 0 false 0 0 0 0 0 0 false) rfl (qC_one _ _ _ _ _ _ _ _ _ _ _) rfl rfl b4 (szRQ _ _ _ _ _ _ _ _ _ _ _) ?_; intro W9 h9 g9))
  refine bodyPost_agg2 Try.results14 rfl rfl h9.range r1 r2 (szRQ _ _ _ _ _ _ _ _ _ _ _) rfl (RetV.mk ?_)
  exact below_grown be g9 (by omega)
set_option maxHeartbeats 4000000 in
set_option maxRecDepth 100000 in
theorem refRead4_p (A : Option Addr) (n c : Nat) (l : List UInt8) (w : World) (h : Rb w A n c l) (hm : n ≤ 1000000) (x p9 p6 f : Nat) (hx : num ((l.drop 0).take 1) = x) (hx9 : num ((l.drop 9).take 1) = p9) (hx6 : num ((l.drop 6).take 1) = p6) (hxf : num ((l.drop 6).take 2) = f) (hn : 20 ≤ n) (hv : x / 16 = 4) (hs : 20 ≤ 4 * (x % 16)) (hs8 : 4 * (x % 16) + 8 ≤ n) (hf : f % 16384 = 0) (hpa : p9 ≠ 6) (hpb : p9 ≠ 17) : Calls Try.prog 14 #[.slice A n c, .bool false] w (RetV w (.tuple #[.agg (qC false 0 0 false 0 0 0 0 0 0 false).toArray, .bool false])) := by
  obtain ⟨dq, r1, r2⟩ := rowRQ
  have hc := h.2.1
  have hl := h.1
  obtain ⟨b, off, rfl, hbl, hcell⟩ := h.2.2.at_ (by rw [bcs_length, h.1]; omega)
  have y0 := num_cell hcell 0 (by omega)
  rw [hx, Nat.add_zero] at y0
  have y9 := num_cell hcell 9 (by omega)
  have y6 := num_cell hcell 6 (by omega)
  rw [hx9] at y9
  rw [hx6] at y6
  have hx8 : x < 256 := by rw [← hx]; exact num_lt' l 0 1 256 (by decide)
  have hp9 : p9 < 256 := by rw [← hx9]; exact num_lt' l 9 1 256 (by decide)
  have hp6 : p6 < 256 := by rw [← hx6]; exact num_lt' l 6 1 256 (by decide)
  have i0 : (0 : Int) < (n : Int) := by omega
  have i0n : 0 < n := by omega
  have i6 : (6 : Int) < (n : Int) := by omega
  have i6n : 6 < n := by omega
  have i9 : (9 : Int) < (n : Int) := by omega
  have i9n : 9 < n := by omega
  have tai : decide ((n : Int) < 20) = false := by simp only [decide_eq_false_iff_not]; omega
  have tan : decide (n < 20) = false := by simp only [decide_eq_false_iff_not]; omega
  obtain ⟨q, hq⟩ : ∃ q : Nat, q = x / 16 := ⟨_, rfl⟩
  have e1 : (x : Int) / 16 = (q : Int) := by omega
  have e1m : (q : Int) % 256 = (q : Int) := by omega
  obtain ⟨m, hm0⟩ : ∃ m : Nat, x % 16 = m := ⟨_, rfl⟩
  have v0 : (x : Int) % 16 = (m : Int) := by omega
  have v0t : (x : Int).tmod 16 = (m : Int) := by rw [Int.tmod_eq_emod_of_nonneg (by omega)]; omega
  have v1 : IntKind.i64.wrap (m : Int) = (m : Int) := IntWalk.i64_in _ (by omega)
  obtain ⟨z, hz⟩ : ∃ z : Nat, z = 4 * m := ⟨_, rfl⟩
  have v2 : IntKind.i64.wrap ((m : Int) * 4) = (z : Int) := by rw [IntWalk.i64_in _ (by omega)]; omega
  have v3 : IntKind.i64.wrap (p9 : Int) = (p9 : Int) := IntWalk.i64_in _ (by omega)
  have v4 : IntKind.i64.wrap (p6 : Int) = (p6 : Int) := IntWalk.i64_in _ (by omega)
  obtain ⟨z8, hz8⟩ : ∃ k : Nat, k = z + 8 := ⟨_, rfl⟩
  have v5 : IntKind.i64.wrap ((z : Int) + 8) = (z8 : Int) := by rw [IntWalk.i64_in _ (by omega)]; omega
  have nv : ((q : Int) != 4) = false := by rw [bne_eq_false_iff_eq]; omega
  have tbi : decide ((z : Int) < 20) = false := by simp only [decide_eq_false_iff_not]; omega
  have tbn : decide (z < 20) = false := by simp only [decide_eq_false_iff_not]; omega
  have tci : decide ((n : Int) < (z8 : Int)) = false := by simp only [decide_eq_false_iff_not]; omega
  have tcn : decide (n < z8) = false := by simp only [decide_eq_false_iff_not]; omega
  have hf16 : f < 65536 := by rw [← hxf]; exact num_lt' l 6 2 65536 (by decide)
  obtain ⟨fm, hfm⟩ : ∃ k : Nat, f % 16384 = k := ⟨_, rfl⟩
  have v6 : (f : Int) % 16384 = (fm : Int) := by omega
  have v6t : (f : Int).tmod 16384 = (fm : Int) := by rw [Int.tmod_eq_emod_of_nonneg (by omega)]; omega
  have v7 : IntKind.u64.wrap (fm : Int) = (fm : Int) := IntWalk.u64_in _ (by omega)
  have nf : ((fm : Int) != 0) = false := by rw [bne_eq_false_iff_eq]; omega
  have HG := Lib.hid (fun w (h : Rb w (some ⟨b, off, none⟩) n c l) => refGetV _ n c l _ _ 6 2 f w h rfl rfl hxf (by omega) (by omega) (by omega))
  have n6 : ((p9 : Int) != 6) = true := by rw [bne_iff_ne]; omega
  have n17 : ((p9 : Int) != 17) = true := by rw [bne_iff_ne]; omega
  clear hv hs hs8 hf hpa hpb hfm hf16 hx hx9 hx6 hxf hq hm0 hz hz8 hm hn
  have b4 : Bk (w.alloc (.cells #[.bool false, .int .u64 0, .int .u64 0, .bool false, .int .u64 0, .int .u64 0, .int .u16 0, .int .u16 0, .int .u8 0, .int .u32 0, .bool false] 35)) w.heap.size 35 (qC false 0 0 false 0 0 0 0 0 0 false) := Bk.new w 35 #[.bool false, .int .u64 0, .int .u64 0, .bool false, .int .u64 0, .int .u64 0, .int .u16 0, .int .u16 0, .int .u8 0, .int .u32 0, .bool false]
  have be : Below w.heap.size w (w.alloc (.cells #[.bool false, .int .u64 0, .int .u64 0, .bool false, .int .u64 0, .int .u64 0, .int .u16 0, .int .u16 0, .int .u8 0, .int .u32 0, .bool false] 35)) := Below.allocS (Below.refl _ _) _
  have yV0 := (be.cell (p := ⟨b, off, none⟩) hbl).trans y0
  have yV9 := (be.cell (p := ⟨b, off + 9, none⟩) hbl).trans y9
  have yV6 := (be.cell (p := ⟨b, off + 6, none⟩) hbl).trans y6
  have zV := be.size
  clear hcell y0 y9 y6
  go_enter Try.func14, Try.ntmps14
  go_upto_region 3 with (fail)
  generalize w.alloc (.cells #[.bool false, .int .u64 0, .int .u64 0, .bool false, .int .u64 0, .int .u64 0, .int .u16 0, .int .u16 0, .int .u8 0, .int .u32 0, .bool false] 35) = V at *
  have zb : b < V.heap.size := by omega
  go_wp2
  refine wp_relS 15 143 rfl (by kernel_rfl) (by kernel_rfl) ?_
  apply Steps.one (MP.eq _) 1 rfl
  · intro o ho FA x hO hD K hK
    obtain rfl := Option.some.inj ho.symm
    clear ho
    have e0 := hO 0 (by kernel_rfl)
    simp only [eval_tmp, List.getElem?_toArray, List.getElem?_cons_succ, List.getElem?_cons_zero, Option.getD_some] at e0
    have ev0 := Lib.hid ((eval_tmp FA 0).trans e0)
    clear hO hD
    go_simp
    exact hK.out _ _ (Ex.refl _) rfl
  apply Steps.one (MP.eq _) 2 rfl
  · intro o ho FA x hO hD K hK
    obtain rfl := Option.some.inj ho.symm
    clear ho
    have ev19 : FA.eval (.tmp 19) = _ := hD 0 19 (by kernel_rfl)
    have e19 := (eval_tmp FA 19).symm.trans ev19
    replace ev19 := Lib.hid ev19
    clear hO hD
    go_simp
    exact hK.out _ _ (Ex.refl _) rfl
  apply Steps.one (MP.eq _) 3 rfl
  · intro o ho FA x hO hD K hK
    obtain rfl := Option.some.inj ho.symm
    clear ho
    have ev20 : FA.eval (.tmp 20) = _ := hD 1 20 (by kernel_rfl)
    have e20 := (eval_tmp FA 20).symm.trans ev20
    replace ev20 := Lib.hid ev20
    clear hO hD
    go_simp
    exact hK.out _ _ (Ex.refl _) rfl
  apply Steps.one (MP.eq _) 4 rfl
  · intro o ho FA x hO hD K hK
    obtain rfl := Option.some.inj ho.symm
    clear ho
    have ev21 : FA.eval (.tmp 21) = _ := hD 2 21 (by kernel_rfl)
    have e21 := (eval_tmp FA 21).symm.trans ev21
    replace ev21 := Lib.hid ev21
    clear hO hD
    go_simp
    exact hK.out _ _ (Ex.refl _) rfl
  apply Steps.one (MP.eq _) 5 rfl
  · intro o ho FA x hO hD K hK
    obtain rfl := Option.some.inj ho.symm
    clear ho
    have ev22 : FA.eval (.tmp 22) = _ := hD 3 22 (by kernel_rfl)
    have e22 := (eval_tmp FA 22).symm.trans ev22
    replace ev22 := Lib.hid ev22
    clear hO hD
    go_simp
    exact hK.out _ _ (Ex.refl _) rfl
  apply Steps.one (MP.eq _) 6 rfl
  · intro o ho FA x hO hD K hK
    obtain rfl := Option.some.inj ho.symm
    clear ho
    have ev23 : FA.eval (.tmp 23) = _ := hD 4 23 (by kernel_rfl)
    have e23 := (eval_tmp FA 23).symm.trans ev23
    replace ev23 := Lib.hid ev23
    clear hO hD
    go_simp
    exact hK.out _ _ (Ex.refl _) rfl
  apply Steps.one (MP.eq _) 7 rfl
  · intro o ho FA x hO hD K hK
    obtain rfl := Option.some.inj ho.symm
    clear ho
    have e0 := hO 0 (by kernel_rfl)
    simp only [eval_tmp, List.getElem?_toArray, List.getElem?_cons_succ, List.getElem?_cons_zero, Option.getD_some] at e0
    have ev0 := Lib.hid ((eval_tmp FA 0).trans e0)
    clear hO hD
    go_simp
    exact hK.out _ _ (Ex.refl _) rfl
  apply Steps.one (MP.eq _) 8 rfl
  · intro o ho FA x hO hD K hK
    obtain rfl := Option.some.inj ho.symm
    clear ho
    have ev25 : FA.eval (.tmp 25) = _ := hD 6 25 (by kernel_rfl)
    have e25 := (eval_tmp FA 25).symm.trans ev25
    replace ev25 := Lib.hid ev25
    clear hO hD
    go_simp
    exact hK.out _ _ (Ex.refl _) rfl
  apply Steps.one (MP.eq _) 9 rfl
  · intro o ho FA x hO hD K hK
    obtain rfl := Option.some.inj ho.symm
    clear ho
    have ev26 : FA.eval (.tmp 26) = _ := hD 7 26 (by kernel_rfl)
    have e26 := (eval_tmp FA 26).symm.trans ev26
    replace ev26 := Lib.hid ev26
    clear hO hD
    go_simp
    exact hK.out _ _ (Ex.refl _) rfl
  apply Steps.one (MP.eq _) 10 rfl
  · intro o ho FA x hO hD K hK
    obtain rfl := Option.some.inj ho.symm
    clear ho
    have ev27 : FA.eval (.tmp 27) = _ := hD 8 27 (by kernel_rfl)
    have e27 := (eval_tmp FA 27).symm.trans ev27
    replace ev27 := Lib.hid ev27
    clear hO hD
    go_simp
    exact hK.out _ _ (Ex.refl _) rfl
  apply Steps.one (MP.eq _) 11 rfl
  · intro o ho FA x hO hD K hK
    obtain rfl := Option.some.inj ho.symm
    clear ho
    have ev24 : FA.eval (.tmp 24) = _ := hD 5 24 (by kernel_rfl)
    have e24 := (eval_tmp FA 24).symm.trans ev24
    replace ev24 := Lib.hid ev24
    clear hO hD
    go_simp
    exact hK.out _ _ (Ex.refl _) rfl
  apply Steps.one (MP.eq _) 12 rfl
  · intro o ho FA x hO hD K hK
    obtain rfl := Option.some.inj ho.symm
    clear ho
    clear hO hD
    go_simp
    exact hK.out _ _ (Ex.refl _) rfl
  apply Steps.one (MP.eq _) 13 rfl
  · intro o ho FA x hO hD K hK
    obtain rfl := Option.some.inj ho.symm
    clear ho
    clear hO hD
    go_simp
    exact hK.out _ _ (Ex.refl _) rfl
  apply Steps.one (MP.eq _) 14 rfl
  · intro o ho FA x hO hD K hK
    obtain rfl := Option.some.inj ho.symm
    clear ho
    have ev28 : FA.eval (.tmp 28) = _ := hD 9 28 (by kernel_rfl)
    have e28 := (eval_tmp FA 28).symm.trans ev28
    replace ev28 := Lib.hid ev28
    clear hO hD
    go_simp
    exact hK.out _ _ (Ex.refl _) rfl
  apply Steps.one (MP.eq _) 15 rfl
  · intro o ho FA x hO hD K hK
    obtain rfl := Option.some.inj ho.symm
    clear ho
    clear hO hD
    go_simp
    exact hK.out _ _ (Ex.refl _) rfl
  refine Steps.fin_ (fun vs x hp => ?_)
  have p0 : vs 0 = _ := hp 0 (by omega)
  have p1 : vs 1 = _ := hp 1 (by omega)
  have p2 : vs 2 = _ := hp 2 (by omega)
  have p3 : vs 3 = _ := hp 3 (by omega)
  have p4 : vs 4 = _ := hp 4 (by omega)
  have p5 : vs 5 = _ := hp 5 (by omega)
  have p6 : vs 6 = _ := hp 6 (by omega)
  have p7 : vs 7 = _ := hp 7 (by omega)
  have p8 : vs 8 = _ := hp 8 (by omega)
  have p9 : vs 9 = _ := hp 9 (by omega)
  have p10 : vs 10 = _ := hp 10 (by omega)
  have p11 : vs 11 = _ := hp 11 (by omega)
  have p12 : vs 12 = _ := hp 12 (by omega)
  have p13 : vs 13 = _ := hp 13 (by omega)
  have p14 : vs 14 = _ := hp 14 (by omega)
  clear hp
  simp only [List.take_succ_cons, List.take_zero, List.drop_succ_cons, List.drop_zero, putAll, Nat.zero_add, Nat.reduceAdd, Act.put, List.setIfInBounds_toArray, List.set_cons_zero, List.set_cons_succ, p0, p1, p2, p3, p4, p5, p6, p7, p8, p9, p10, p11, p12, p13, p14]
  clear p0 p1 p2 p3 p4 p5 p6 p7 p8 p9 p10 p11 p12 p13 p14
  clear vs
  have zs := be.size
  have yW0 := (cell_plus V x.bs x.d b off zb).trans yV0
  have yW6 := (cell_plus V x.bs x.d b (off + 6) zb).trans yV6
  replace be := belowP be x.bs x.d
  replace b4 := b4.later (below_plus _ x.bs x.d)
  clear yV0 yV6 yV9
  generalize plus V x.bs x.d = V1 at *
  have zb1 : b < V1.heap.size := Nat.lt_of_lt_of_le hbl be.size
  go_wp2_with (first
    | (go_at_call 54; refine (HG.out _ (h.later be)).mono ?_; rintro e w1 ⟨rfl, rfl⟩)
    | (refine at_op (.store 35 (.tmp 4) (.tmp 69)) rfl ?_; refine wpList_stA (t := 35) 35 (.tmp 4) (.tmp 69) rfl rfl (qC false 0 0 false 0 0 0 0 0 0 false) (qC false 0 0 false 0 0 0 0 0 0 false) rfl (qC_one _ _ _ _ _ _ _ _ _ _ _) rfl rfl b4 (szRQ _ _ _ _ _ _ _ _ _ _ _) ?_; intro W9 h9 g9))
  refine bodyPost_agg2 Try.results14 rfl rfl h9.range r1 r2 (szRQ _ _ _ _ _ _ _ _ _ _ _) rfl (RetV.mk ?_)
  exact below_grown be g9 (by omega)
set_option maxHeartbeats 4000000 in
set_option maxRecDepth 100000 in
theorem refRead6_v (A : Option Addr) (n c : Nat) (l : List UInt8) (w : World) (h : Rb w A n c l) (hm : n ≤ 1000000) (x p9 p6 f : Nat) (hx : num ((l.drop 0).take 1) = x) (hx9 : num ((l.drop 9).take 1) = p9) (hx6 : num ((l.drop 6).take 1) = p6) (hxf : num ((l.drop 6).take 2) = f) (hn : 20 ≤ n) (hv : x / 16 ≠ 6) : Calls Try.prog 14 #[.slice A n c, .bool true] w (RetV w (.tuple #[.agg (qC false 0 0 false 0 0 0 0 0 0 false).toArray, .bool false])) := by
  obtain ⟨dq, r1, r2⟩ := rowRQ
  have hc := h.2.1
  have hl := h.1
  obtain ⟨b, off, rfl, hbl, hcell⟩ := h.2.2.at_ (by rw [bcs_length, h.1]; omega)
  have y0 := num_cell hcell 0 (by omega)
  rw [hx, Nat.add_zero] at y0
  have y9 := num_cell hcell 9 (by omega)
  have y6 := num_cell hcell 6 (by omega)
  rw [hx9] at y9
  rw [hx6] at y6
  have hx8 : x < 256 := by rw [← hx]; exact num_lt' l 0 1 256 (by decide)
  have hp9 : p9 < 256 := by rw [← hx9]; exact num_lt' l 9 1 256 (by decide)
  have hp6 : p6 < 256 := by rw [← hx6]; exact num_lt' l 6 1 256 (by decide)
  have i0 : (0 : Int) < (n : Int) := by omega
  have i0n : 0 < n := by omega
  have i6 : (6 : Int) < (n : Int) := by omega
  have i6n : 6 < n := by omega
  have i9 : (9 : Int) < (n : Int) := by omega
  have i9n : 9 < n := by omega
  have tai : decide ((n : Int) < 20) = false := by simp only [decide_eq_false_iff_not]; omega
  have tan : decide (n < 20) = false := by simp only [decide_eq_false_iff_not]; omega
  obtain ⟨q, hq⟩ : ∃ q : Nat, q = x / 16 := ⟨_, rfl⟩
  have e1 : (x : Int) / 16 = (q : Int) := by omega
  have e1m : (q : Int) % 256 = (q : Int) := by omega
  obtain ⟨m, hm0⟩ : ∃ m : Nat, x % 16 = m := ⟨_, rfl⟩
  have v0 : (x : Int) % 16 = (m : Int) := by omega
  have v0t : (x : Int).tmod 16 = (m : Int) := by rw [Int.tmod_eq_emod_of_nonneg (by omega)]; omega
  have v1 : IntKind.i64.wrap (m : Int) = (m : Int) := IntWalk.i64_in _ (by omega)
  obtain ⟨z, hz⟩ : ∃ z : Nat, z = 4 * m := ⟨_, rfl⟩
  have v2 : IntKind.i64.wrap ((m : Int) * 4) = (z : Int) := by rw [IntWalk.i64_in _ (by omega)]; omega
  have v3 : IntKind.i64.wrap (p9 : Int) = (p9 : Int) := IntWalk.i64_in _ (by omega)
  have v4 : IntKind.i64.wrap (p6 : Int) = (p6 : Int) := IntWalk.i64_in _ (by omega)
  obtain ⟨z8, hz8⟩ : ∃ k : Nat, k = z + 8 := ⟨_, rfl⟩
  have v5 : IntKind.i64.wrap ((z : Int) + 8) = (z8 : Int) := by rw [IntWalk.i64_in _ (by omega)]; omega
  have nv : ((q : Int) != 6) = true := by rw [bne_iff_ne]; omega
  clear hv hx hx9 hx6 hxf hq hm0 hz hz8 hm hn
  have b4 : Bk (w.alloc (.cells #[.bool false, .int .u64 0, .int .u64 0, .bool false, .int .u64 0, .int .u64 0, .int .u16 0, .int .u16 0, .int .u8 0, .int .u32 0, .bool false] 35)) w.heap.size 35 (qC false 0 0 false 0 0 0 0 0 0 false) := Bk.new w 35 #[.bool false, .int .u64 0, .int .u64 0, .bool false, .int .u64 0, .int .u64 0, .int .u16 0, .int .u16 0, .int .u8 0, .int .u32 0, .bool false]
  have be : Below w.heap.size w (w.alloc (.cells #[.bool false, .int .u64 0, .int .u64 0, .bool false, .int .u64 0, .int .u64 0, .int .u16 0, .int .u16 0, .int .u8 0, .int .u32 0, .bool false] 35)) := Below.allocS (Below.refl _ _) _
  have yV0 := (be.cell (p := ⟨b, off, none⟩) hbl).trans y0
  have yV9 := (be.cell (p := ⟨b, off + 9, none⟩) hbl).trans y9
  have yV6 := (be.cell (p := ⟨b, off + 6, none⟩) hbl).trans y6
  have zV := be.size
  clear hcell y0 y9 y6
  go_enter Try.func14, Try.ntmps14
  go_upto_region 3 with (fail)
  generalize w.alloc (.cells #[.bool false, .int .u64 0, .int .u64 0, .bool false, .int .u64 0, .int .u64 0, .int .u16 0, .int .u16 0, .int .u8 0, .int .u32 0, .bool false] 35) = V at *
  have zb : b < V.heap.size := by omega
  go_wp2
  refine wp_relS 15 143 rfl (by kernel_rfl) (by kernel_rfl) ?_
  apply Steps.one (MP.eq _) 1 rfl
  · intro o ho FA x hO hD K hK
    obtain rfl := Option.some.inj ho.symm
    clear ho
    have e0 := hO 0 (by kernel_rfl)
    simp only [eval_tmp, List.getElem?_toArray, List.getElem?_cons_succ, List.getElem?_cons_zero, Option.getD_some] at e0
    have ev0 := Lib.hid ((eval_tmp FA 0).trans e0)
    clear hO hD
    go_simp
    exact hK.out _ _ (Ex.refl _) rfl
  apply Steps.one (MP.eq _) 2 rfl
  · intro o ho FA x hO hD K hK
    obtain rfl := Option.some.inj ho.symm
    clear ho
    have ev19 : FA.eval (.tmp 19) = _ := hD 0 19 (by kernel_rfl)
    have e19 := (eval_tmp FA 19).symm.trans ev19
    replace ev19 := Lib.hid ev19
    clear hO hD
    go_simp
    exact hK.out _ _ (Ex.refl _) rfl
  apply Steps.one (MP.eq _) 3 rfl
  · intro o ho FA x hO hD K hK
    obtain rfl := Option.some.inj ho.symm
    clear ho
    have ev20 : FA.eval (.tmp 20) = _ := hD 1 20 (by kernel_rfl)
    have e20 := (eval_tmp FA 20).symm.trans ev20
    replace ev20 := Lib.hid ev20
    clear hO hD
    go_simp
    exact hK.out _ _ (Ex.refl _) rfl
  apply Steps.one (MP.eq _) 4 rfl
  · intro o ho FA x hO hD K hK
    obtain rfl := Option.some.inj ho.symm
    clear ho
    have ev21 : FA.eval (.tmp 21) = _ := hD 2 21 (by kernel_rfl)
    have e21 := (eval_tmp FA 21).symm.trans ev21
    replace ev21 := Lib.hid ev21
    clear hO hD
    go_simp
    exact hK.out _ _ (Ex.refl _) rfl
  apply Steps.one (MP.eq _) 5 rfl
  · intro o ho FA x hO hD K hK
    obtain rfl := Option.some.inj ho.symm
    clear ho
    have ev22 : FA.eval (.tmp 22) = _ := hD 3 22 (by kernel_rfl)
    have e22 := (eval_tmp FA 22).symm.trans ev22
    replace ev22 := Lib.hid ev22
    clear hO hD
    go_simp
    exact hK.out _ _ (Ex.refl _) rfl
  apply Steps.one (MP.eq _) 6 rfl
  · intro o ho FA x hO hD K hK
    obtain rfl := Option.some.inj ho.symm
    clear ho
    have ev23 : FA.eval (.tmp 23) = _ := hD 4 23 (by kernel_rfl)
    have e23 := (eval_tmp FA 23).symm.trans ev23
    replace ev23 := Lib.hid ev23
    clear hO hD
    go_simp
    exact hK.out _ _ (Ex.refl _) rfl
  apply Steps.one (MP.eq _) 7 rfl
  · intro o ho FA x hO hD K hK
    obtain rfl := Option.some.inj ho.symm
    clear ho
    have e0 := hO 0 (by kernel_rfl)
    simp only [eval_tmp, List.getElem?_toArray, List.getElem?_cons_succ, List.getElem?_cons_zero, Option.getD_some] at e0
    have ev0 := Lib.hid ((eval_tmp FA 0).trans e0)
    clear hO hD
    go_simp
    exact hK.out _ _ (Ex.refl _) rfl
  apply Steps.one (MP.eq _) 8 rfl
  · intro o ho FA x hO hD K hK
    obtain rfl := Option.some.inj ho.symm
    clear ho
    have ev25 : FA.eval (.tmp 25) = _ := hD 6 25 (by kernel_rfl)
    have e25 := (eval_tmp FA 25).symm.trans ev25
    replace ev25 := Lib.hid ev25
    clear hO hD
    go_simp
    exact hK.out _ _ (Ex.refl _) rfl
  apply Steps.one (MP.eq _) 9 rfl
  · intro o ho FA x hO hD K hK
    obtain rfl := Option.some.inj ho.symm
    clear ho
    have ev26 : FA.eval (.tmp 26) = _ := hD 7 26 (by kernel_rfl)
    have e26 := (eval_tmp FA 26).symm.trans ev26
    replace ev26 := Lib.hid ev26
    clear hO hD
    go_simp
    exact hK.out _ _ (Ex.refl _) rfl
  apply Steps.one (MP.eq _) 10 rfl
  · intro o ho FA x hO hD K hK
    obtain rfl := Option.some.inj ho.symm
    clear ho
    have ev27 : FA.eval (.tmp 27) = _ := hD 8 27 (by kernel_rfl)
    have e27 := (eval_tmp FA 27).symm.trans ev27
    replace ev27 := Lib.hid ev27
    clear hO hD
    go_simp
    exact hK.out _ _ (Ex.refl _) rfl
  apply Steps.one (MP.eq _) 11 rfl
  · intro o ho FA x hO hD K hK
    obtain rfl := Option.some.inj ho.symm
    clear ho
    have ev24 : FA.eval (.tmp 24) = _ := hD 5 24 (by kernel_rfl)
    have e24 := (eval_tmp FA 24).symm.trans ev24
    replace ev24 := Lib.hid ev24
    clear hO hD
    go_simp
    exact hK.out _ _ (Ex.refl _) rfl
  apply Steps.one (MP.eq _) 12 rfl
  · intro o ho FA x hO hD K hK
    obtain rfl := Option.some.inj ho.symm
    clear ho
    clear hO hD
    go_simp
    exact hK.out _ _ (Ex.refl _) rfl
  apply Steps.one (MP.eq _) 13 rfl
  · intro o ho FA x hO hD K hK
    obtain rfl := Option.some.inj ho.symm
    clear ho
    clear hO hD
    go_simp
    exact hK.out _ _ (Ex.refl _) rfl
  apply Steps.one (MP.eq _) 14 rfl
  · intro o ho FA x hO hD K hK
    obtain rfl := Option.some.inj ho.symm
    clear ho
    have ev28 : FA.eval (.tmp 28) = _ := hD 9 28 (by kernel_rfl)
    have e28 := (eval_tmp FA 28).symm.trans ev28
    replace ev28 := Lib.hid ev28
    clear hO hD
    go_simp
    exact hK.out _ _ (Ex.refl _) rfl
  apply Steps.one (MP.eq _) 15 rfl
  · intro o ho FA x hO hD K hK
    obtain rfl := Option.some.inj ho.symm
    clear ho
    clear hO hD
    go_simp
    exact hK.out _ _ (Ex.refl _) rfl
  refine Steps.fin_ (fun vs x hp => ?_)
  have p0 : vs 0 = _ := hp 0 (by omega)
  have p1 : vs 1 = _ := hp 1 (by omega)
  have p2 : vs 2 = _ := hp 2 (by omega)
  have p3 : vs 3 = _ := hp 3 (by omega)
  have p4 : vs 4 = _ := hp 4 (by omega)
  have p5 : vs 5 = _ := hp 5 (by omega)
  have p6 : vs 6 = _ := hp 6 (by omega)
  have p7 : vs 7 = _ := hp 7 (by omega)
  have p8 : vs 8 = _ := hp 8 (by omega)
  have p9 : vs 9 = _ := hp 9 (by omega)
  have p10 : vs 10 = _ := hp 10 (by omega)
  have p11 : vs 11 = _ := hp 11 (by omega)
  have p12 : vs 12 = _ := hp 12 (by omega)
  have p13 : vs 13 = _ := hp 13 (by omega)
  have p14 : vs 14 = _ := hp 14 (by omega)
  clear hp
  simp only [List.take_succ_cons, List.take_zero, List.drop_succ_cons, List.drop_zero, putAll, Nat.zero_add, Nat.reduceAdd, Act.put, List.setIfInBounds_toArray, List.set_cons_zero, List.set_cons_succ, p0, p1, p2, p3, p4, p5, p6, p7, p8, p9, p10, p11, p12, p13, p14]
  clear p0 p1 p2 p3 p4 p5 p6 p7 p8 p9 p10 p11 p12 p13 p14
  clear vs
  have zs := be.size
  have yW0 := (cell_plus V x.bs x.d b off zb).trans yV0
  have yW6 := (cell_plus V x.bs x.d b (off + 6) zb).trans yV6
  replace be := belowP be x.bs x.d
  replace b4 := b4.later (below_plus _ x.bs x.d)
  clear yV0 yV6 yV9
  generalize plus V x.bs x.d = V1 at *
  have zb1 : b < V1.heap.size := Nat.lt_of_lt_of_le hbl be.size
  go_upto_region 5 with (fail)
  go_wp2
  refine wp_relS 9 143 rfl (by kernel_rfl) (by kernel_rfl) ?_
  apply Steps.one (MP.eq _) 1 rfl
  · intro o ho FA x hO hD K hK
    obtain rfl := Option.some.inj ho.symm
    clear ho
    have e0 := hO 0 (by kernel_rfl)
    simp only [eval_tmp, List.getElem?_toArray, List.getElem?_cons_succ, List.getElem?_cons_zero, Option.getD_some] at e0
    have ev0 := Lib.hid ((eval_tmp FA 0).trans e0)
    clear hO hD
    go_simp
    exact hK.out _ _ (Ex.refl _) rfl
  apply Steps.one (MP.eq _) 2 rfl
  · intro o ho FA x hO hD K hK
    obtain rfl := Option.some.inj ho.symm
    clear ho
    have ev30 : FA.eval (.tmp 30) = _ := hD 0 30 (by kernel_rfl)
    have e30 := (eval_tmp FA 30).symm.trans ev30
    replace ev30 := Lib.hid ev30
    clear hO hD
    go_simp
    exact hK.out _ _ (Ex.refl _) rfl
  apply Steps.one (MP.eq _) 3 rfl
  · intro o ho FA x hO hD K hK
    obtain rfl := Option.some.inj ho.symm
    clear ho
    have ev31 : FA.eval (.tmp 31) = _ := hD 1 31 (by kernel_rfl)
    have e31 := (eval_tmp FA 31).symm.trans ev31
    replace ev31 := Lib.hid ev31
    clear hO hD
    go_simp
    exact hK.out _ _ (Ex.refl _) rfl
  apply Steps.one (MP.eq _) 4 rfl
  · intro o ho FA x hO hD K hK
    obtain rfl := Option.some.inj ho.symm
    clear ho
    have ev32 : FA.eval (.tmp 32) = _ := hD 2 32 (by kernel_rfl)
    have e32 := (eval_tmp FA 32).symm.trans ev32
    replace ev32 := Lib.hid ev32
    clear hO hD
    go_simp
    exact hK.out _ _ (Ex.refl _) rfl
  apply Steps.one (MP.eq _) 5 rfl
  · intro o ho FA x hO hD K hK
    obtain rfl := Option.some.inj ho.symm
    clear ho
    clear hO hD
    go_simp
    exact hK.out _ _ (Ex.refl _) rfl
  apply Steps.one (MP.eq _) 6 rfl
  · intro o ho FA x hO hD K hK
    obtain rfl := Option.some.inj ho.symm
    clear ho
    clear hO hD
    go_simp
    exact hK.out _ _ (Ex.refl _) rfl
  apply Steps.one (MP.eq _) 7 rfl
  · intro o ho FA x hO hD K hK
    obtain rfl := Option.some.inj ho.symm
    clear ho
    clear hO hD
    go_simp
    exact hK.out _ _ (Ex.refl _) rfl
  apply Steps.one (MP.eq _) 8 rfl
  · intro o ho FA x hO hD K hK
    obtain rfl := Option.some.inj ho.symm
    clear ho
    have ev33 : FA.eval (.tmp 33) = _ := hD 3 33 (by kernel_rfl)
    have e33 := (eval_tmp FA 33).symm.trans ev33
    replace ev33 := Lib.hid ev33
    clear hO hD
    go_simp
    exact hK.out _ _ (Ex.refl _) rfl
  apply Steps.one (MP.eq _) 9 rfl
  · intro o ho FA x hO hD K hK
    obtain rfl := Option.some.inj ho.symm
    clear ho
    clear hO hD
    go_simp
    exact hK.out _ _ (Ex.refl _) rfl
  refine Steps.fin_ (fun vs x hp => ?_)
  have p0 : vs 0 = _ := hp 0 (by omega)
  have p1 : vs 1 = _ := hp 1 (by omega)
  have p2 : vs 2 = _ := hp 2 (by omega)
  have p3 : vs 3 = _ := hp 3 (by omega)
  have p4 : vs 4 = _ := hp 4 (by omega)
  have p5 : vs 5 = _ := hp 5 (by omega)
  have p6 : vs 6 = _ := hp 6 (by omega)
  have p7 : vs 7 = _ := hp 7 (by omega)
  have p8 : vs 8 = _ := hp 8 (by omega)
  clear hp
  simp only [List.take_succ_cons, List.take_zero, List.drop_succ_cons, List.drop_zero, putAll, Nat.zero_add, Nat.reduceAdd, Act.put, List.setIfInBounds_toArray, List.set_cons_zero, List.set_cons_succ, p0, p1, p2, p3, p4, p5, p6, p7, p8]
  clear p0 p1 p2 p3 p4 p5 p6 p7 p8
  clear vs
  have zs2 := be.size
  have yX0 := (cell_plus V1 x.bs x.d b off zb1).trans yW0
  have yX6 := (cell_plus V1 x.bs x.d b (off + 6) zb1).trans yW6
  replace be := belowP be x.bs x.d
  replace b4 := b4.later (below_plus _ x.bs x.d)
  clear yW0 yW6
  generalize plus V1 x.bs x.d = V2 at *
  have zb2 : b < V2.heap.size := Nat.lt_of_lt_of_le hbl be.size
  go_wp2_with (first
    | (refine at_op (.store 35 (.tmp 4) (.tmp 69)) rfl ?_; refine wpList_stA (t := 35) 35 (.tmp 4) (.tmp 69) rfl rfl (qC false 0 0 false 0 0 0 0 0 0 false) (qC false 0 0 false 0 0 0 0 0 0 false) rfl (qC_one _ _ _ _ _ _ _ _ _ _ _) rfl rfl b4 (szRQ _ _ _ _ _ _ _ _ _ _ _) ?_; intro W9 h9 g9))
  refine bodyPost_agg2 Try.results14 rfl rfl h9.range r1 r2 (szRQ _ _ _ _ _ _ _ _ _ _ _) rfl (RetV.mk ?_)
  exact below_grown be g9 (by omega)
set_option maxHeartbeats 4000000 in
set_option maxRecDepth 100000 in
theorem refRead6_l (A : Option Addr) (n c : Nat) (l : List UInt8) (w : World) (h : Rb w A n c l) (hm : n ≤ 1000000) (x p9 p6 f : Nat) (hx : num ((l.drop 0).take 1) = x) (hx9 : num ((l.drop 9).take 1) = p9) (hx6 : num ((l.drop 6).take 1) = p6) (hxf : num ((l.drop 6).take 2) = f) (hn : 20 ≤ n) (hv : x / 16 = 6) (hs8 : n < 48) : Calls Try.prog 14 #[.slice A n c, .bool true] w (RetV w (.tuple #[.agg (qC false 0 0 false 0 0 0 0 0 0 false).toArray, .bool false])) := by
  obtain ⟨dq, r1, r2⟩ := rowRQ
  have hc := h.2.1
  have hl := h.1
  obtain ⟨b, off, rfl, hbl, hcell⟩ := h.2.2.at_ (by rw [bcs_length, h.1]; omega)
  have y0 := num_cell hcell 0 (by omega)
  rw [hx, Nat.add_zero] at y0
  have y9 := num_cell hcell 9 (by omega)
  have y6 := num_cell hcell 6 (by omega)
  rw [hx9] at y9
  rw [hx6] at y6
  have hx8 : x < 256 := by rw [← hx]; exact num_lt' l 0 1 256 (by decide)
  have hp9 : p9 < 256 := by rw [← hx9]; exact num_lt' l 9 1 256 (by decide)
  have hp6 : p6 < 256 := by rw [← hx6]; exact num_lt' l 6 1 256 (by decide)
  have i0 : (0 : Int) < (n : Int) := by omega
  have i0n : 0 < n := by omega
  have i6 : (6 : Int) < (n : Int) := by omega
  have i6n : 6 < n := by omega
  have i9 : (9 : Int) < (n : Int) := by omega
  have i9n : 9 < n := by omega
  have tai : decide ((n : Int) < 20) = false := by simp only [decide_eq_false_iff_not]; omega
  have tan : decide (n < 20) = false := by simp only [decide_eq_false_iff_not]; omega
  obtain ⟨q, hq⟩ : ∃ q : Nat, q = x / 16 := ⟨_, rfl⟩
  have e1 : (x : Int) / 16 = (q : Int) := by omega
  have e1m : (q : Int) % 256 = (q : Int) := by omega
  obtain ⟨m, hm0⟩ : ∃ m : Nat, x % 16 = m := ⟨_, rfl⟩
  have v0 : (x : Int) % 16 = (m : Int) := by omega
  have v0t : (x : Int).tmod 16 = (m : Int) := by rw [Int.tmod_eq_emod_of_nonneg (by omega)]; omega
  have v1 : IntKind.i64.wrap (m : Int) = (m : Int) := IntWalk.i64_in _ (by omega)
  obtain ⟨z, hz⟩ : ∃ z : Nat, z = 4 * m := ⟨_, rfl⟩
  have v2 : IntKind.i64.wrap ((m : Int) * 4) = (z : Int) := by rw [IntWalk.i64_in _ (by omega)]; omega
  have v3 : IntKind.i64.wrap (p9 : Int) = (p9 : Int) := IntWalk.i64_in _ (by omega)
  have v4 : IntKind.i64.wrap (p6 : Int) = (p6 : Int) := IntWalk.i64_in _ (by omega)
  obtain ⟨z8, hz8⟩ : ∃ k : Nat, k = z + 8 := ⟨_, rfl⟩
  have v5 : IntKind.i64.wrap ((z : Int) + 8) = (z8 : Int) := by rw [IntWalk.i64_in _ (by omega)]; omega
  have nv : ((q : Int) != 6) = false := by rw [bne_eq_false_iff_eq]; omega
  have tci : decide ((n : Int) < 48) = true := by simp only [decide_eq_true_eq]; omega
  have tcn : decide (n < 48) = true := by simp only [decide_eq_true_eq]; omega
  clear hv hs8 hx hx9 hx6 hxf hq hm0 hz hz8 hm hn
  have b4 : Bk (w.alloc (.cells #[.bool false, .int .u64 0, .int .u64 0, .bool false, .int .u64 0, .int .u64 0, .int .u16 0, .int .u16 0, .int .u8 0, .int .u32 0, .bool false] 35)) w.heap.size 35 (qC false 0 0 false 0 0 0 0 0 0 false) := Bk.new w 35 #[.bool false, .int .u64 0, .int .u64 0, .bool false, .int .u64 0, .int .u64 0, .int .u16 0, .int .u16 0, .int .u8 0, .int .u32 0, .bool false]
  have be : Below w.heap.size w (w.alloc (.cells #[.bool false, .int .u64 0, .int .u64 0, .bool false, .int .u64 0, .int .u64 0, .int .u16 0, .int .u16 0, .int .u8 0, .int .u32 0, .bool false] 35)) := Below.allocS (Below.refl _ _) _
  have yV0 := (be.cell (p := ⟨b, off, none⟩) hbl).trans y0
  have yV9 := (be.cell (p := ⟨b, off + 9, none⟩) hbl).trans y9
  have yV6 := (be.cell (p := ⟨b, off + 6, none⟩) hbl).trans y6
  have zV := be.size
  clear hcell y0 y9 y6
  go_enter Try.func14, Try.ntmps14
  go_upto_region 3 with (fail)
  generalize w.alloc (.cells #[.bool false, .int .u64 0, .int .u64 0, .bool false, .int .u64 0, .int .u64 0, .int .u16 0, .int .u16 0, .int .u8 0, .int .u32 0, .bool false] 35) = V at *
  have zb : b < V.heap.size := by omega
  go_wp2
  refine wp_relS 15 143 rfl (by kernel_rfl) (by kernel_rfl) ?_
  apply Steps.one (MP.eq _) 1 rfl
  · intro o ho FA x hO hD K hK
    obtain rfl := Option.some.inj ho.symm
    clear ho
    have e0 := hO 0 (by kernel_rfl)
    simp only [eval_tmp, List.getElem?_toArray, List.getElem?_cons_succ, List.getElem?_cons_zero, Option.getD_some] at e0
    have ev0 := Lib.hid ((eval_tmp FA 0).trans e0)
    clear hO hD
    go_simp
    exact hK.out _ _ (Ex.refl _) rfl
  apply Steps.one (MP.eq _) 2 rfl
  · intro o ho FA x hO hD K hK
    obtain rfl := Option.some.inj ho.symm
    clear ho
    have ev19 : FA.eval (.tmp 19) = _ := hD 0 19 (by kernel_rfl)
    have e19 := (eval_tmp FA 19).symm.trans ev19
    replace ev19 := Lib.hid ev19
    clear hO hD
    go_simp
    exact hK.out _ _ (Ex.refl _) rfl
  apply Steps.one (MP.eq _) 3 rfl
  · intro o ho FA x hO hD K hK
    obtain rfl := Option.some.inj ho.symm
    clear ho
    have ev20 : FA.eval (.tmp 20) = _ := hD 1 20 (by kernel_rfl)
    have e20 := (eval_tmp FA 20).symm.trans ev20
    replace ev20 := Lib.hid ev20
    clear hO hD
    go_simp
    exact hK.out _ _ (Ex.refl _) rfl
  apply Steps.one (MP.eq _) 4 rfl
  · intro o ho FA x hO hD K hK
    obtain rfl := Option.some.inj ho.symm
    clear ho
    have ev21 : FA.eval (.tmp 21) = _ := hD 2 21 (by kernel_rfl)
    have e21 := (eval_tmp FA 21).symm.trans ev21
    replace ev21 := Lib.hid ev21
    clear hO hD
    go_simp
    exact hK.out _ _ (Ex.refl _) rfl
  apply Steps.one (MP.eq _) 5 rfl
  · intro o ho FA x hO hD K hK
    obtain rfl := Option.some.inj ho.symm
    clear ho
    have ev22 : FA.eval (.tmp 22) = _ := hD 3 22 (by kernel_rfl)
    have e22 := (eval_tmp FA 22).symm.trans ev22
    replace ev22 := Lib.hid ev22
    clear hO hD
    go_simp
    exact hK.out _ _ (Ex.refl _) rfl
  apply Steps.one (MP.eq _) 6 rfl
  · intro o ho FA x hO hD K hK
    obtain rfl := Option.some.inj ho.symm
    clear ho
    have ev23 : FA.eval (.tmp 23) = _ := hD 4 23 (by kernel_rfl)
    have e23 := (eval_tmp FA 23).symm.trans ev23
    replace ev23 := Lib.hid ev23
    clear hO hD
    go_simp
    exact hK.out _ _ (Ex.refl _) rfl
  apply Steps.one (MP.eq _) 7 rfl
  · intro o ho FA x hO hD K hK
    obtain rfl := Option.some.inj ho.symm
    clear ho
    have e0 := hO 0 (by kernel_rfl)
    simp only [eval_tmp, List.getElem?_toArray, List.getElem?_cons_succ, List.getElem?_cons_zero, Option.getD_some] at e0
    have ev0 := Lib.hid ((eval_tmp FA 0).trans e0)
    clear hO hD
    go_simp
    exact hK.out _ _ (Ex.refl _) rfl
  apply Steps.one (MP.eq _) 8 rfl
  · intro o ho FA x hO hD K hK
    obtain rfl := Option.some.inj ho.symm
    clear ho
    have ev25 : FA.eval (.tmp 25) = _ := hD 6 25 (by kernel_rfl)
    have e25 := (eval_tmp FA 25).symm.trans ev25
    replace ev25 := Lib.hid ev25
    clear hO hD
    go_simp
    exact hK.out _ _ (Ex.refl _) rfl
  apply Steps.one (MP.eq _) 9 rfl
  · intro o ho FA x hO hD K hK
    obtain rfl := Option.some.inj ho.symm
    clear ho
    have ev26 : FA.eval (.tmp 26) = _ := hD 7 26 (by kernel_rfl)
    have e26 := (eval_tmp FA 26).symm.trans ev26
    replace ev26 := Lib.hid ev26
    clear hO hD
    go_simp
    exact hK.out _ _ (Ex.refl _) rfl
  apply Steps.one (MP.eq _) 10 rfl
  · intro o ho FA x hO hD K hK
    obtain rfl := Option.some.inj ho.symm
    clear ho
    have ev27 : FA.eval (.tmp 27) = _ := hD 8 27 (by kernel_rfl)
    have e27 := (eval_tmp FA 27).symm.trans ev27
    replace ev27 := Lib.hid ev27
    clear hO hD
    go_simp
    exact hK.out _ _ (Ex.refl _) rfl
  apply Steps.one (MP.eq _) 11 rfl
  · intro o ho FA x hO hD K hK
    obtain rfl := Option.some.inj ho.symm
    clear ho
    have ev24 : FA.eval (.tmp 24) = _ := hD 5 24 (by kernel_rfl)
    have e24 := (eval_tmp FA 24).symm.trans ev24
    replace ev24 := Lib.hid ev24
    clear hO hD
    go_simp
    exact hK.out _ _ (Ex.refl _) rfl
  apply Steps.one (MP.eq _) 12 rfl
  · intro o ho FA x hO hD K hK
    obtain rfl := Option.some.inj ho.symm
    clear ho
    clear hO hD
    go_simp
    exact hK.out _ _ (Ex.refl _) rfl
  apply Steps.one (MP.eq _) 13 rfl
  · intro o ho FA x hO hD K hK
    obtain rfl := Option.some.inj ho.symm
    clear ho
    clear hO hD
    go_simp
    exact hK.out _ _ (Ex.refl _) rfl
  apply Steps.one (MP.eq _) 14 rfl
  · intro o ho FA x hO hD K hK
    obtain rfl := Option.some.inj ho.symm
    clear ho
    have ev28 : FA.eval (.tmp 28) = _ := hD 9 28 (by kernel_rfl)
    have e28 := (eval_tmp FA 28).symm.trans ev28
    replace ev28 := Lib.hid ev28
    clear hO hD
    go_simp
    exact hK.out _ _ (Ex.refl _) rfl
  apply Steps.one (MP.eq _) 15 rfl
  · intro o ho FA x hO hD K hK
    obtain rfl := Option.some.inj ho.symm
    clear ho
    clear hO hD
    go_simp
    exact hK.out _ _ (Ex.refl _) rfl
  refine Steps.fin_ (fun vs x hp => ?_)
  have p0 : vs 0 = _ := hp 0 (by omega)
  have p1 : vs 1 = _ := hp 1 (by omega)
  have p2 : vs 2 = _ := hp 2 (by omega)
  have p3 : vs 3 = _ := hp 3 (by omega)
  have p4 : vs 4 = _ := hp 4 (by omega)
  have p5 : vs 5 = _ := hp 5 (by omega)
  have p6 : vs 6 = _ := hp 6 (by omega)
  have p7 : vs 7 = _ := hp 7 (by omega)
  have p8 : vs 8 = _ := hp 8 (by omega)
  have p9 : vs 9 = _ := hp 9 (by omega)
  have p10 : vs 10 = _ := hp 10 (by omega)
  have p11 : vs 11 = _ := hp 11 (by omega)
  have p12 : vs 12 = _ := hp 12 (by omega)
  have p13 : vs 13 = _ := hp 13 (by omega)
  have p14 : vs 14 = _ := hp 14 (by omega)
  clear hp
  simp only [List.take_succ_cons, List.take_zero, List.drop_succ_cons, List.drop_zero, putAll, Nat.zero_add, Nat.reduceAdd, Act.put, List.setIfInBounds_toArray, List.set_cons_zero, List.set_cons_succ, p0, p1, p2, p3, p4, p5, p6, p7, p8, p9, p10, p11, p12, p13, p14]
  clear p0 p1 p2 p3 p4 p5 p6 p7 p8 p9 p10 p11 p12 p13 p14
  clear vs
  have zs := be.size
  have yW0 := (cell_plus V x.bs x.d b off zb).trans yV0
  have yW6 := (cell_plus V x.bs x.d b (off + 6) zb).trans yV6
  replace be := belowP be x.bs x.d
  replace b4 := b4.later (below_plus _ x.bs x.d)
  clear yV0 yV6 yV9
  generalize plus V x.bs x.d = V1 at *
  have zb1 : b < V1.heap.size := Nat.lt_of_lt_of_le hbl be.size
  go_upto_region 5 with (fail)
  go_wp2
  refine wp_relS 9 143 rfl (by kernel_rfl) (by kernel_rfl) ?_
  apply Steps.one (MP.eq _) 1 rfl
  · intro o ho FA x hO hD K hK
    obtain rfl := Option.some.inj ho.symm
    clear ho
    have e0 := hO 0 (by kernel_rfl)
    simp only [eval_tmp, List.getElem?_toArray, List.getElem?_cons_succ, List.getElem?_cons_zero, Option.getD_some] at e0
    have ev0 := Lib.hid ((eval_tmp FA 0).trans e0)
    clear hO hD
    go_simp
    exact hK.out _ _ (Ex.refl _) rfl
  apply Steps.one (MP.eq _) 2 rfl
  · intro o ho FA x hO hD K hK
    obtain rfl := Option.some.inj ho.symm
    clear ho
    have ev30 : FA.eval (.tmp 30) = _ := hD 0 30 (by kernel_rfl)
    have e30 := (eval_tmp FA 30).symm.trans ev30
    replace ev30 := Lib.hid ev30
    clear hO hD
    go_simp
    exact hK.out _ _ (Ex.refl _) rfl
  apply Steps.one (MP.eq _) 3 rfl
  · intro o ho FA x hO hD K hK
    obtain rfl := Option.some.inj ho.symm
    clear ho
    have ev31 : FA.eval (.tmp 31) = _ := hD 1 31 (by kernel_rfl)
    have e31 := (eval_tmp FA 31).symm.trans ev31
    replace ev31 := Lib.hid ev31
    clear hO hD
    go_simp
    exact hK.out _ _ (Ex.refl _) rfl
  apply Steps.one (MP.eq _) 4 rfl
  · intro o ho FA x hO hD K hK
    obtain rfl := Option.some.inj ho.symm
    clear ho
    have ev32 : FA.eval (.tmp 32) = _ := hD 2 32 (by kernel_rfl)
    have e32 := (eval_tmp FA 32).symm.trans ev32
    replace ev32 := Lib.hid ev32
    clear hO hD
    go_simp
    exact hK.out _ _ (Ex.refl _) rfl
  apply Steps.one (MP.eq _) 5 rfl
  · intro o ho FA x hO hD K hK
    obtain rfl := Option.some.inj ho.symm
    clear ho
    clear hO hD
    go_simp
    exact hK.out _ _ (Ex.refl _) rfl
  apply Steps.one (MP.eq _) 6 rfl
  · intro o ho FA x hO hD K hK
    obtain rfl := Option.some.inj ho.symm
    clear ho
    clear hO hD
    go_simp
    exact hK.out _ _ (Ex.refl _) rfl
  apply Steps.one (MP.eq _) 7 rfl
  · intro o ho FA x hO hD K hK
    obtain rfl := Option.some.inj ho.symm
    clear ho
    clear hO hD
    go_simp
    exact hK.out _ _ (Ex.refl _) rfl
  apply Steps.one (MP.eq _) 8 rfl
  · intro o ho FA x hO hD K hK
    obtain rfl := Option.some.inj ho.symm
    clear ho
    have ev33 : FA.eval (.tmp 33) = _ := hD 3 33 (by kernel_rfl)
    have e33 := (eval_tmp FA 33).symm.trans ev33
    replace ev33 := Lib.hid ev33
    clear hO hD
    go_simp
    exact hK.out _ _ (Ex.refl _) rfl
  apply Steps.one (MP.eq _) 9 rfl
  · intro o ho FA x hO hD K hK
    obtain rfl := Option.some.inj ho.symm
    clear ho
    clear hO hD
    go_simp
    exact hK.out _ _ (Ex.refl _) rfl
  refine Steps.fin_ (fun vs x hp => ?_)
  have p0 : vs 0 = _ := hp 0 (by omega)
  have p1 : vs 1 = _ := hp 1 (by omega)
  have p2 : vs 2 = _ := hp 2 (by omega)
  have p3 : vs 3 = _ := hp 3 (by omega)
  have p4 : vs 4 = _ := hp 4 (by omega)
  have p5 : vs 5 = _ := hp 5 (by omega)
  have p6 : vs 6 = _ := hp 6 (by omega)
  have p7 : vs 7 = _ := hp 7 (by omega)
  have p8 : vs 8 = _ := hp 8 (by omega)
  clear hp
  simp only [List.take_succ_cons, List.take_zero, List.drop_succ_cons, List.drop_zero, putAll, Nat.zero_add, Nat.reduceAdd, Act.put, List.setIfInBounds_toArray, List.set_cons_zero, List.set_cons_succ, p0, p1, p2, p3, p4, p5, p6, p7, p8]
  clear p0 p1 p2 p3 p4 p5 p6 p7 p8
  clear vs
  have zs2 := be.size
  have yX0 := (cell_plus V1 x.bs x.d b off zb1).trans yW0
  have yX6 := (cell_plus V1 x.bs x.d b (off + 6) zb1).trans yW6
  replace be := belowP be x.bs x.d
  replace b4 := b4.later (below_plus _ x.bs x.d)
  clear yW0 yW6
  generalize plus V1 x.bs x.d = V2 at *
  have zb2 : b < V2.heap.size := Nat.lt_of_lt_of_le hbl be.size
  go_wp2_with (first
    | (refine at_op (.store 35 (.tmp 4) (.tmp 69)) rfl ?_; refine wpList_stA (t := 35) 35 (.tmp 4) (.tmp 69) rfl rfl (qC false 0 0 false 0 0 0 0 0 0 false) (qC false 0 0 false 0 0 0 0 0 0 false) rfl (qC_one _ _ _ _ _ _ _ _ _ _ _) rfl rfl b4 (szRQ _ _ _ _ _ _ _ _ _ _ _) ?_; intro W9 h9 g9))
  refine bodyPost_agg2 Try.results14 rfl rfl h9.range r1 r2 (szRQ _ _ _ _ _ _ _ _ _ _ _) rfl (RetV.mk ?_)
  exact below_grown be g9 (by omega)
set_option maxHeartbeats 4000000 in
set_option maxRecDepth 100000 in
theorem refRead6_p (A : Option Addr) (n c : Nat) (l : List UInt8) (w : World) (h : Rb w A n c l) (hm : n ≤ 1000000) (x p9 p6 f : Nat) (hx : num ((l.drop 0).take 1) = x) (hx9 : num ((l.drop 9).take 1) = p9) (hx6 : num ((l.drop 6).take 1) = p6) (hxf : num ((l.drop 6).take 2) = f) (hn : 20 ≤ n) (hv : x / 16 = 6) (hs8 : 48 ≤ n) (hpa : p6 ≠ 6) (hpb : p6 ≠ 17) : Calls Try.prog 14 #[.slice A n c, .bool true] w (RetV w (.tuple #[.agg (qC false 0 0 false 0 0 0 0 0 0 false).toArray, .bool false])) := by
  obtain ⟨dq, r1, r2⟩ := rowRQ
  have hc := h.2.1
  have hl := h.1
  obtain ⟨b, off, rfl, hbl, hcell⟩ := h.2.2.at_ (by rw [bcs_length, h.1]; omega)
  have y0 := num_cell hcell 0 (by omega)
  rw [hx, Nat.add_zero] at y0
  have y9 := num_cell hcell 9 (by omega)
  have y6 := num_cell hcell 6 (by omega)
  rw [hx9] at y9
  rw [hx6] at y6
  have hx8 : x < 256 := by rw [← hx]; exact num_lt' l 0 1 256 (by decide)
  have hp9 : p9 < 256 := by rw [← hx9]; exact num_lt' l 9 1 256 (by decide)
  have hp6 : p6 < 256 := by rw [← hx6]; exact num_lt' l 6 1 256 (by decide)
  have i0 : (0 : Int) < (n : Int) := by omega
  have i0n : 0 < n := by omega
  have i6 : (6 : Int) < (n : Int) := by omega
  have i6n : 6 < n := by omega
  have i9 : (9 : Int) < (n : Int) := by omega
  have i9n : 9 < n := by omega
  have tai : decide ((n : Int) < 20) = false := by simp only [decide_eq_false_iff_not]; omega
  have tan : decide (n < 20) = false := by simp only [decide_eq_false_iff_not]; omega
  obtain ⟨q, hq⟩ : ∃ q : Nat, q = x / 16 := ⟨_, rfl⟩
  have e1 : (x : Int) / 16 = (q : Int) := by omega
  have e1m : (q : Int) % 256 = (q : Int) := by omega
  obtain ⟨m, hm0⟩ : ∃ m : Nat, x % 16 = m := ⟨_, rfl⟩
  have v0 : (x : Int) % 16 = (m : Int) := by omega
  have v0t : (x : Int).tmod 16 = (m : Int) := by rw [Int.tmod_eq_emod_of_nonneg (by omega)]; omega
  have v1 : IntKind.i64.wrap (m : Int) = (m : Int) := IntWalk.i64_in _ (by omega)
  obtain ⟨z, hz⟩ : ∃ z : Nat, z = 4 * m := ⟨_, rfl⟩
  have v2 : IntKind.i64.wrap ((m : Int) * 4) = (z : Int) := by rw [IntWalk.i64_in _ (by omega)]; omega
  have v3 : IntKind.i64.wrap (p9 : Int) = (p9 : Int) := IntWalk.i64_in _ (by omega)
  have v4 : IntKind.i64.wrap (p6 : Int) = (p6 : Int) := IntWalk.i64_in _ (by omega)
  obtain ⟨z8, hz8⟩ : ∃ k : Nat, k = z + 8 := ⟨_, rfl⟩
  have v5 : IntKind.i64.wrap ((z : Int) + 8) = (z8 : Int) := by rw [IntWalk.i64_in _ (by omega)]; omega
  have nv : ((q : Int) != 6) = false := by rw [bne_eq_false_iff_eq]; omega
  have tci : decide ((n : Int) < 48) = false := by simp only [decide_eq_false_iff_not]; omega
  have tcn : decide (n < 48) = false := by simp only [decide_eq_false_iff_not]; omega
  have n6 : ((p6 : Int) != 6) = true := by rw [bne_iff_ne]; omega
  have n17 : ((p6 : Int) != 17) = true := by rw [bne_iff_ne]; omega
  clear hv hs8 hpa hpb hx hx9 hx6 hxf hq hm0 hz hz8 hm hn
  have b4 : Bk (w.alloc (.cells #[.bool false, .int .u64 0, .int .u64 0, .bool false, .int .u64 0, .int .u64 0, .int .u16 0, .int .u16 0, .int .u8 0, .int .u32 0, .bool false] 35)) w.heap.size 35 (qC false 0 0 false 0 0 0 0 0 0 false) := Bk.new w 35 #[.bool false, .int .u64 0, .int .u64 0, .bool false, .int .u64 0, .int .u64 0, .int .u16 0, .int .u16 0, .int .u8 0, .int .u32 0, .bool false]
  have be : Below w.heap.size w (w.alloc (.cells #[.bool false, .int .u64 0, .int .u64 0, .bool false, .int .u64 0, .int .u64 0, .int .u16 0, .int .u16 0, .int .u8 0, .int .u32 0, .bool false] 35)) := Below.allocS (Below.refl _ _) _
  have yV0 := (be.cell (p := ⟨b, off, none⟩) hbl).trans y0
  have yV9 := (be.cell (p := ⟨b, off + 9, none⟩) hbl).trans y9
  have yV6 := (be.cell (p := ⟨b, off + 6, none⟩) hbl).trans y6
  have zV := be.size
  clear hcell y0 y9 y6
  go_enter Try.func14, Try.ntmps14
  go_upto_region 3 with (fail)
  generalize w.alloc (.cells #[.bool false, .int .u64 0, .int .u64 0, .bool false, .int .u64 0, .int .u64 0, .int .u16 0, .int .u16 0, .int .u8 0, .int .u32 0, .bool false] 35) = V at *
  have zb : b < V.heap.size := by omega
  go_wp2
  refine wp_relS 15 143 rfl (by kernel_rfl) (by kernel_rfl) ?_
  apply Steps.one (MP.eq _) 1 rfl
  · intro o ho FA x hO hD K hK
    obtain rfl := Option.some.inj ho.symm
    clear ho
    have e0 := hO 0 (by kernel_rfl)
    simp only [eval_tmp, List.getElem?_toArray, List.getElem?_cons_succ, List.getElem?_cons_zero, Option.getD_some] at e0
    have ev0 := Lib.hid ((eval_tmp FA 0).trans e0)
    clear hO hD
    go_simp
    exact hK.out _ _ (Ex.refl _) rfl
  apply Steps.one (MP.eq _) 2 rfl
  · intro o ho FA x hO hD K hK
    obtain rfl := Option.some.inj ho.symm
    clear ho
    have ev19 : FA.eval (.tmp 19) = _ := hD 0 19 (by kernel_rfl)
    have e19 := (eval_tmp FA 19).symm.trans ev19
    replace ev19 := Lib.hid ev19
    clear hO hD
    go_simp
    exact hK.out _ _ (Ex.refl _) rfl
  apply Steps.one (MP.eq _) 3 rfl
  · intro o ho FA x hO hD K hK
    obtain rfl := Option.some.inj ho.symm
    clear ho
    have ev20 : FA.eval (.tmp 20) = _ := hD 1 20 (by kernel_rfl)
    have e20 := (eval_tmp FA 20).symm.trans ev20
    replace ev20 := Lib.hid ev20
    clear hO hD
    go_simp
    exact hK.out _ _ (Ex.refl _) rfl
  apply Steps.one (MP.eq _) 4 rfl
  · intro o ho FA x hO hD K hK
    obtain rfl := Option.some.inj ho.symm
    clear ho
    have ev21 : FA.eval (.tmp 21) = _ := hD 2 21 (by kernel_rfl)
    have e21 := (eval_tmp FA 21).symm.trans ev21
    replace ev21 := Lib.hid ev21
    clear hO hD
    go_simp
    exact hK.out _ _ (Ex.refl _) rfl
  apply Steps.one (MP.eq _) 5 rfl
  · intro o ho FA x hO hD K hK
    obtain rfl := Option.some.inj ho.symm
    clear ho
    have ev22 : FA.eval (.tmp 22) = _ := hD 3 22 (by kernel_rfl)
    have e22 := (eval_tmp FA 22).symm.trans ev22
    replace ev22 := Lib.hid ev22
    clear hO hD
    go_simp
    exact hK.out _ _ (Ex.refl _) rfl
  apply Steps.one (MP.eq _) 6 rfl
  · intro o ho FA x hO hD K hK
    obtain rfl := Option.some.inj ho.symm
    clear ho
    have ev23 : FA.eval (.tmp 23) = _ := hD 4 23 (by kernel_rfl)
    have e23 := (eval_tmp FA 23).symm.trans ev23
    replace ev23 := Lib.hid ev23
    clear hO hD
    go_simp
    exact hK.out _ _ (Ex.refl _) rfl
  apply Steps.one (MP.eq _) 7 rfl
  · intro o ho FA x hO hD K hK
    obtain rfl := Option.some.inj ho.symm
    clear ho
    have e0 := hO 0 (by kernel_rfl)
    simp only [eval_tmp, List.getElem?_toArray, List.getElem?_cons_succ, List.getElem?_cons_zero, Option.getD_some] at e0
    have ev0 := Lib.hid ((eval_tmp FA 0).trans e0)
    clear hO hD
    go_simp
    exact hK.out _ _ (Ex.refl _) rfl
  apply Steps.one (MP.eq _) 8 rfl
  · intro o ho FA x hO hD K hK
    obtain rfl := Option.some.inj ho.symm
    clear ho
    have ev25 : FA.eval (.tmp 25) = _ := hD 6 25 (by kernel_rfl)
    have e25 := (eval_tmp FA 25).symm.trans ev25
    replace ev25 := Lib.hid ev25
    clear hO hD
    go_simp
    exact hK.out _ _ (Ex.refl _) rfl
  apply Steps.one (MP.eq _) 9 rfl
  · intro o ho FA x hO hD K hK
    obtain rfl := Option.some.inj ho.symm
    clear ho
    have ev26 : FA.eval (.tmp 26) = _ := hD 7 26 (by kernel_rfl)
    have e26 := (eval_tmp FA 26).symm.trans ev26
    replace ev26 := Lib.hid ev26
    clear hO hD
    go_simp
    exact hK.out _ _ (Ex.refl _) rfl
  apply Steps.one (MP.eq _) 10 rfl
  · intro o ho FA x hO hD K hK
    obtain rfl := Option.some.inj ho.symm
    clear ho
    have ev27 : FA.eval (.tmp 27) = _ := hD 8 27 (by kernel_rfl)
    have e27 := (eval_tmp FA 27).symm.trans ev27
    replace ev27 := Lib.hid ev27
    clear hO hD
    go_simp
    exact hK.out _ _ (Ex.refl _) rfl
  apply Steps.one (MP.eq _) 11 rfl
  · intro o ho FA x hO hD K hK
    obtain rfl := Option.some.inj ho.symm
    clear ho
    have ev24 : FA.eval (.tmp 24) = _ := hD 5 24 (by kernel_rfl)
    have e24 := (eval_tmp FA 24).symm.trans ev24
    replace ev24 := Lib.hid ev24
    clear hO hD
    go_simp
    exact hK.out _ _ (Ex.refl _) rfl
  apply Steps.one (MP.eq _) 12 rfl
  · intro o ho FA x hO hD K hK
    obtain rfl := Option.some.inj ho.symm
    clear ho
    clear hO hD
    go_simp
    exact hK.out _ _ (Ex.refl _) rfl
  apply Steps.one (MP.eq _) 13 rfl
  · intro o ho FA x hO hD K hK
    obtain rfl := Option.some.inj ho.symm
    clear ho
    clear hO hD
    go_simp
    exact hK.out _ _ (Ex.refl _) rfl
  apply Steps.one (MP.eq _) 14 rfl
  · intro o ho FA x hO hD K hK
    obtain rfl := Option.some.inj ho.symm
    clear ho
    have ev28 : FA.eval (.tmp 28) = _ := hD 9 28 (by kernel_rfl)
    have e28 := (eval_tmp FA 28).symm.trans ev28
    replace ev28 := Lib.hid ev28
    clear hO hD
    go_simp
    exact hK.out _ _ (Ex.refl _) rfl
  apply Steps.one (MP.eq _) 15 rfl
  · intro o ho FA x hO hD K hK
    obtain rfl := Option.some.inj ho.symm
    clear ho
    clear hO hD
    go_simp
    exact hK.out _ _ (Ex.refl _) rfl
  refine Steps.fin_ (fun vs x hp => ?_)
  have p0 : vs 0 = _ := hp 0 (by omega)
  have p1 : vs 1 = _ := hp 1 (by omega)
  have p2 : vs 2 = _ := hp 2 (by omega)
  have p3 : vs 3 = _ := hp 3 (by omega)
  have p4 : vs 4 = _ := hp 4 (by omega)
  have p5 : vs 5 = _ := hp 5 (by omega)
  have p6 : vs 6 = _ := hp 6 (by omega)
  have p7 : vs 7 = _ := hp 7 (by omega)
  have p8 : vs 8 = _ := hp 8 (by omega)
  have p9 : vs 9 = _ := hp 9 (by omega)
  have p10 : vs 10 = _ := hp 10 (by omega)
  have p11 : vs 11 = _ := hp 11 (by omega)
  have p12 : vs 12 = _ := hp 12 (by omega)
  have p13 : vs 13 = _ := hp 13 (by omega)
  have p14 : vs 14 = _ := hp 14 (by omega)
  clear hp
  simp only [List.take_succ_cons, List.take_zero, List.drop_succ_cons, List.drop_zero, putAll, Nat.zero_add, Nat.reduceAdd, Act.put, List.setIfInBounds_toArray, List.set_cons_zero, List.set_cons_succ, p0, p1, p2, p3, p4, p5, p6, p7, p8, p9, p10, p11, p12, p13, p14]
  clear p0 p1 p2 p3 p4 p5 p6 p7 p8 p9 p10 p11 p12 p13 p14
  clear vs
  have zs := be.size
  have yW0 := (cell_plus V x.bs x.d b off zb).trans yV0
  have yW6 := (cell_plus V x.bs x.d b (off + 6) zb).trans yV6
  replace be := belowP be x.bs x.d
  replace b4 := b4.later (below_plus _ x.bs x.d)
  clear yV0 yV6 yV9
  generalize plus V x.bs x.d = V1 at *
  have zb1 : b < V1.heap.size := Nat.lt_of_lt_of_le hbl be.size
  go_upto_region 5 with (fail)
  go_wp2
  refine wp_relS 9 143 rfl (by kernel_rfl) (by kernel_rfl) ?_
  apply Steps.one (MP.eq _) 1 rfl
  · intro o ho FA x hO hD K hK
    obtain rfl := Option.some.inj ho.symm
    clear ho
    have e0 := hO 0 (by kernel_rfl)
    simp only [eval_tmp, List.getElem?_toArray, List.getElem?_cons_succ, List.getElem?_cons_zero, Option.getD_some] at e0
    have ev0 := Lib.hid ((eval_tmp FA 0).trans e0)
    clear hO hD
    go_simp
    exact hK.out _ _ (Ex.refl _) rfl
  apply Steps.one (MP.eq _) 2 rfl
  · intro o ho FA x hO hD K hK
    obtain rfl := Option.some.inj ho.symm
    clear ho
    have ev30 : FA.eval (.tmp 30) = _ := hD 0 30 (by kernel_rfl)
    have e30 := (eval_tmp FA 30).symm.trans ev30
    replace ev30 := Lib.hid ev30
    clear hO hD
    go_simp
    exact hK.out _ _ (Ex.refl _) rfl
  apply Steps.one (MP.eq _) 3 rfl
  · intro o ho FA x hO hD K hK
    obtain rfl := Option.some.inj ho.symm
    clear ho
    have ev31 : FA.eval (.tmp 31) = _ := hD 1 31 (by kernel_rfl)
    have e31 := (eval_tmp FA 31).symm.trans ev31
    replace ev31 := Lib.hid ev31
    clear hO hD
    go_simp
    exact hK.out _ _ (Ex.refl _) rfl
  apply Steps.one (MP.eq _) 4 rfl
  · intro o ho FA x hO hD K hK
    obtain rfl := Option.some.inj ho.symm
    clear ho
    have ev32 : FA.eval (.tmp 32) = _ := hD 2 32 (by kernel_rfl)
    have e32 := (eval_tmp FA 32).symm.trans ev32
    replace ev32 := Lib.hid ev32
    clear hO hD
    go_simp
    exact hK.out _ _ (Ex.refl _) rfl
  apply Steps.one (MP.eq _) 5 rfl
  · intro o ho FA x hO hD K hK
    obtain rfl := Option.some.inj ho.symm
    clear ho
    clear hO hD
    go_simp
    exact hK.out _ _ (Ex.refl _) rfl
  apply Steps.one (MP.eq _) 6 rfl
  · intro o ho FA x hO hD K hK
    obtain rfl := Option.some.inj ho.symm
    clear ho
    clear hO hD
    go_simp
    exact hK.out _ _ (Ex.refl _) rfl
  apply Steps.one (MP.eq _) 7 rfl
  · intro o ho FA x hO hD K hK
    obtain rfl := Option.some.inj ho.symm
    clear ho
    clear hO hD
    go_simp
    exact hK.out _ _ (Ex.refl _) rfl
  apply Steps.one (MP.eq _) 8 rfl
  · intro o ho FA x hO hD K hK
    obtain rfl := Option.some.inj ho.symm
    clear ho
    have ev33 : FA.eval (.tmp 33) = _ := hD 3 33 (by kernel_rfl)
    have e33 := (eval_tmp FA 33).symm.trans ev33
    replace ev33 := Lib.hid ev33
    clear hO hD
    go_simp
    exact hK.out _ _ (Ex.refl _) rfl
  apply Steps.one (MP.eq _) 9 rfl
  · intro o ho FA x hO hD K hK
    obtain rfl := Option.some.inj ho.symm
    clear ho
    clear hO hD
    go_simp
    exact hK.out _ _ (Ex.refl _) rfl
  refine Steps.fin_ (fun vs x hp => ?_)
  have p0 : vs 0 = _ := hp 0 (by omega)
  have p1 : vs 1 = _ := hp 1 (by omega)
  have p2 : vs 2 = _ := hp 2 (by omega)
  have p3 : vs 3 = _ := hp 3 (by omega)
  have p4 : vs 4 = _ := hp 4 (by omega)
  have p5 : vs 5 = _ := hp 5 (by omega)
  have p6 : vs 6 = _ := hp 6 (by omega)
  have p7 : vs 7 = _ := hp 7 (by omega)
  have p8 : vs 8 = _ := hp 8 (by omega)
  clear hp
  simp only [List.take_succ_cons, List.take_zero, List.drop_succ_cons, List.drop_zero, putAll, Nat.zero_add, Nat.reduceAdd, Act.put, List.setIfInBounds_toArray, List.set_cons_zero, List.set_cons_succ, p0, p1, p2, p3, p4, p5, p6, p7, p8]
  clear p0 p1 p2 p3 p4 p5 p6 p7 p8
  clear vs
  have zs2 := be.size
  have yX0 := (cell_plus V1 x.bs x.d b off zb1).trans yW0
  have yX6 := (cell_plus V1 x.bs x.d b (off + 6) zb1).trans yW6
  replace be := belowP be x.bs x.d
  replace b4 := b4.later (below_plus _ x.bs x.d)
  clear yW0 yW6
  generalize plus V1 x.bs x.d = V2 at *
  have zb2 : b < V2.heap.size := Nat.lt_of_lt_of_le hbl be.size
  go_wp2_with (first
    | (refine at_op (.store 35 (.tmp 4) (.tmp 69)) rfl ?_; refine wpList_stA (t := 35) 35 (.tmp 4) (.tmp 69) rfl rfl (qC false 0 0 false 0 0 0 0 0 0 false) (qC false 0 0 false 0 0 0 0 0 0 false) rfl (qC_one _ _ _ _ _ _ _ _ _ _ _) rfl rfl b4 (szRQ _ _ _ _ _ _ _ _ _ _ _) ?_; intro W9 h9 g9))
  refine bodyPost_agg2 Try.results14 rfl rfl h9.range r1 r2 (szRQ _ _ _ _ _ _ _ _ _ _ _) rfl (RetV.mk ?_)
  exact below_grown be g9 (by omega)
end Go.Proofs.Ytfmkndemkpecpaa
