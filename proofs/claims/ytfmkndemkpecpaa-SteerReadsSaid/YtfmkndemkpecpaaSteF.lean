/- The reference's Read (chapter 29): what tells something. -/
import Derived.Test.YtfmkndemkpecpaaSteE
import Derived.Test.YtfmkndemkpecpaaTcpS
namespace Go.Proofs.Ytfmkndemkpecpaa
open Go.RowKit
set_option linter.unusedVariables false
set_option linter.unusedSimpArgs false
attribute [local go_sem ↓] sliced_cut
attribute [local go_sem] cutA_zero

set_option maxHeartbeats 4000000 in
set_option maxRecDepth 100000 in
theorem refRead4_17 (A : Option Addr) (n c : Nat) (l : List UInt8) (w : World) (h : Rb w A n c l) (hm : n ≤ 1000000) (x p9 p6 f : Nat) (hx : num ((l.drop 0).take 1) = x) (hx9 : num ((l.drop 9).take 1) = p9) (hx6 : num ((l.drop 6).take 1) = p6) (hxf : num ((l.drop 6).take 2) = f) (hn : 20 ≤ n) (hv : x / 16 = 4) (hs : 20 ≤ 4 * (x % 16)) (hs8 : 4 * (x % 16) + 8 ≤ n) (hf : f % 16384 = 0) (hp : p9 = 17) (s1 : Bool) (h1 l1 : Nat) (s2 : Bool) (h2 l2 sp dp : Nat) (x0 x1 x2 x3 x4 x5 x6 x7 : Nat) (o1 o2 : List UInt8) (E : Int)  (hsp : num ((l.drop (4 * (x % 16))).take 2) = sp) (hdp : num ((l.drop ((4 * (x % 16)) + 2)).take 2) = dp) (hol : o1.length ≤ 1000000) (H1 : ∀ w', Below w.heap.size w w' → Calls Try.prog 55 #[.slice (cutA A c 12 1) 4 (c - 12)] w' (RetV w' (.tuple #[.agg (adC s1 h1 l1).toArray, .bool true]))) (H2 : ∀ w', Below w.heap.size w w' → Calls Try.prog 55 #[.slice (cutA A c 16 1) 4 (c - 16)] w' (RetV w' (.tuple #[.agg (adC s2 h2 l2).toArray, .bool true]))) (HPA : ∀ w', Below w.heap.size w w' → Calls Try.prog 56 #[.slice (cutA A c (4 * (x % 16)) 1) (n - (4 * (x % 16))) (c - (4 * (x % 16)))] w' (RetSeg w' x0 x1 x2 x3 x4 x5 x6 x7 o1 o2 (.int .i64 E))) : Calls Try.prog 14 #[.slice A n c, .bool false] w (RetV w (.tuple #[.agg (qC s1 h1 l1 s2 h2 l2 sp dp p9 0 false).toArray, .bool true])) := by
  obtain ⟨dq, r1, r2⟩ := rowRQ
  have hc := h.2.1
  have hl := h.1
  obtain ⟨b, off, rfl, hbl, hcell⟩ := h.2.2.at_ (by rw [bcs_length, h.1]; omega)
  have y0 := num_cell hcell 0 (by omega)
  rw [hx, Nat.add_zero] at y0
  have y9 := num_cell hcell 9 (by omega)
  have y6 := num_cell hcell 6 (by omega)
  rw [hx9] at y9
  rw [hx6] at y6
  have hx8 : x < 256 := by rw [← hx]; exact num_lt' l 0 1 256 (by decide)
  have hp9 : p9 < 256 := by rw [← hx9]; exact num_lt' l 9 1 256 (by decide)
  have hp6 : p6 < 256 := by rw [← hx6]; exact num_lt' l 6 1 256 (by decide)
  have i0 : (0 : Int) < (n : Int) := by omega
  have i0n : 0 < n := by omega
  have i6 : (6 : Int) < (n : Int) := by omega
  have i6n : 6 < n := by omega
  have i9 : (9 : Int) < (n : Int) := by omega
  have i9n : 9 < n := by omega
  have tai : decide ((n : Int) < 20) = false := by simp only [decide_eq_false_iff_not]; omega
  have tan : decide (n < 20) = false := by simp only [decide_eq_false_iff_not]; omega
  obtain ⟨q, hq⟩ : ∃ q : Nat, q = x / 16 := ⟨_, rfl⟩
  have e1 : (x : Int) / 16 = (q : Int) := by omega
  have e1m : (q : Int) % 256 = (q : Int) := by omega
  obtain ⟨m, hm0⟩ : ∃ m : Nat, x % 16 = m := ⟨_, rfl⟩
  have v0 : (x : Int) % 16 = (m : Int) := by omega
  have v0t : (x : Int).tmod 16 = (m : Int) := by rw [Int.tmod_eq_emod_of_nonneg (by omega)]; omega
  have v1 : IntKind.i64.wrap (m : Int) = (m : Int) := IntWalk.i64_in _ (by omega)
  obtain ⟨z, hz⟩ : ∃ z : Nat, z = 4 * m := ⟨_, rfl⟩
  have v2 : IntKind.i64.wrap ((m : Int) * 4) = (z : Int) := by rw [IntWalk.i64_in _ (by omega)]; omega
  have v3 : IntKind.i64.wrap (p9 : Int) = (p9 : Int) := IntWalk.i64_in _ (by omega)
  have v4 : IntKind.i64.wrap (p6 : Int) = (p6 : Int) := IntWalk.i64_in _ (by omega)
  obtain ⟨z8, hz8⟩ : ∃ k : Nat, k = z + 8 := ⟨_, rfl⟩
  have v5 : IntKind.i64.wrap ((z : Int) + 8) = (z8 : Int) := by rw [IntWalk.i64_in _ (by omega)]; omega
  have nv : ((q : Int) != 4) = false := by rw [bne_eq_false_iff_eq]; omega
  have tbi : decide ((z : Int) < 20) = false := by simp only [decide_eq_false_iff_not]; omega
  have tbn : decide (z < 20) = false := by simp only [decide_eq_false_iff_not]; omega
  have tci : decide ((n : Int) < (z8 : Int)) = false := by simp only [decide_eq_false_iff_not]; omega
  have tcn : decide (n < z8) = false := by simp only [decide_eq_false_iff_not]; omega
  have hf16 : f < 65536 := by rw [← hxf]; exact num_lt' l 6 2 65536 (by decide)
  obtain ⟨fm, hfm⟩ : ∃ k : Nat, f % 16384 = k := ⟨_, rfl⟩
  have v6 : (f : Int) % 16384 = (fm : Int) := by omega
  have v6t : (f : Int).tmod 16384 = (fm : Int) := by rw [Int.tmod_eq_emod_of_nonneg (by omega)]; omega
  have v7 : IntKind.u64.wrap (fm : Int) = (fm : Int) := IntWalk.u64_in _ (by omega)
  have nf : ((fm : Int) != 0) = false := by rw [bne_eq_false_iff_eq]; omega
  have HG := Lib.hid (fun w (h : Rb w (some ⟨b, off, none⟩) n c l) => refGetV _ n c l 6 2 6 2 f w h rfl rfl hxf (by omega) (by omega) (by omega))
  have n6 : ((p9 : Int) != 6) = true := by rw [bne_iff_ne]; omega
  have n17 : ((p9 : Int) != 17) = false := by rw [bne_eq_false_iff_eq]; omega
  have n6e : ((p9 : Int) == 6) = false := by rw [beq_eq_false_iff_ne]; omega
  have wu8 : IntKind.u8.wrap (p9 : Int) = (p9 : Int) := IntWalk.u8_in _ (by omega)
  have wm8 : (p9 : Int) % 256 = (p9 : Int) := by omega
  have hsp16 : sp < 65536 := by rw [← hsp]; exact num_lt' l _ 2 65536 (by decide)
  have hdp16 : dp < 65536 := by rw [← hdp]; exact num_lt' l _ 2 65536 (by decide)
  have wsp : IntKind.u16.wrap (sp : Int) = (sp : Int) := IntWalk.u16_in _ (by omega)
  have wdp : IntKind.u16.wrap (dp : Int) = (dp : Int) := IntWalk.u16_in _ (by omega)
  obtain ⟨tv, htv⟩ : ∃ tv : Int, resT (stampsAt o1) = .int .i64 tv := by cases stampsAt o1 <;> exact ⟨_, rfl⟩
  have HT := Lib.hid (fun A n c w (h : Rb w A n c o1) => (by have := refStamps_any A n c o1 w h (by rw [← h.1]; exact hol); rwa [htv] at this : Calls Try.prog 57 #[.slice A n c] w fun e w' => e = .returned (.int .i64 tv) ∧ w = w'))
  have hz4 : 4 * (x % 16) = z := by omega
  rw [hz4] at hsp hdp HPA
  obtain ⟨z2, hz2⟩ : ∃ k : Nat, k = z + 2 := ⟨_, rfl⟩
  have wz2 : IntKind.i64.wrap ((z : Int) + 2) = (z2 : Int) := by rw [IntWalk.i64_in _ (by omega)]; omega
  rw [← hz2] at hdp
  have jz0 : (0 : Int) ≤ (z : Int) := by omega
  have jzn : (z : Int) ≤ (n : Int) := by omega
  have HSP := Lib.hid (fun w (h : Rb w (some ⟨b, off, none⟩) n c l) => refGetV _ n c l (z : Int) 2 z 2 sp w h rfl rfl hsp (by omega) (by omega) (by omega))
  have HDP := Lib.hid (fun w (h : Rb w (some ⟨b, off, none⟩) n c l) => refGetV _ n c l (z2 : Int) 2 z2 2 dp w h rfl rfl hdp (by omega) (by omega) (by omega))
  have j12a : (16 : Int) ≤ (c : Int) := by omega
  have j12b : (20 : Int) ≤ (c : Int) := by omega
  replace H1 := Lib.hid H1
  replace H2 := Lib.hid H2
  replace HPA := Lib.hid HPA
  clear hv hs8 hp hx hx9 hx6 hxf hq hm0 hz hz8 hm hn hsp hdp hsp16 hdp16 htv hol hs hf hfm hf16 hz2 hz4
  have b4 : Bk (w.alloc (.cells #[.bool false, .int .u64 0, .int .u64 0, .bool false, .int .u64 0, .int .u64 0, .int .u16 0, .int .u16 0, .int .u8 0, .int .u32 0, .bool false] 35)) w.heap.size 35 (qC false 0 0 false 0 0 0 0 0 0 false) := Bk.new w 35 #[.bool false, .int .u64 0, .int .u64 0, .bool false, .int .u64 0, .int .u64 0, .int .u16 0, .int .u16 0, .int .u8 0, .int .u32 0, .bool false]
  have be : Below w.heap.size w (w.alloc (.cells #[.bool false, .int .u64 0, .int .u64 0, .bool false, .int .u64 0, .int .u64 0, .int .u16 0, .int .u16 0, .int .u8 0, .int .u32 0, .bool false] 35)) := Below.allocS (Below.refl _ _) _
  have yV0 := (be.cell (p := ⟨b, off, none⟩) hbl).trans y0
  have yV9 := (be.cell (p := ⟨b, off + 9, none⟩) hbl).trans y9
  have yV6 := (be.cell (p := ⟨b, off + 6, none⟩) hbl).trans y6
  have zV := be.size
  clear hcell y0 y9 y6
  go_enter Try.func14, Try.ntmps14
  go_upto_region 3 with (fail)
  generalize w.alloc (.cells #[.bool false, .int .u64 0, .int .u64 0, .bool false, .int .u64 0, .int .u64 0, .int .u16 0, .int .u16 0, .int .u8 0, .int .u32 0, .bool false] 35) = V at *
  have zb : b < V.heap.size := by omega
  go_wp2
  refine wp_relS 15 143 rfl (by kernel_rfl) (by kernel_rfl) ?_
  apply Steps.one (MP.eq _) 1 rfl
  · intro o ho FA x hO hD K hK
    obtain rfl := Option.some.inj ho.symm
    clear ho
    have e0 := hO 0 (by kernel_rfl)
    simp only [eval_tmp, List.getElem?_toArray, List.getElem?_cons_succ, List.getElem?_cons_zero, Option.getD_some] at e0
    have ev0 := Lib.hid ((eval_tmp FA 0).trans e0)
    clear hO hD
    go_simp
    exact hK.out _ _ (Ex.refl _) rfl
  apply Steps.one (MP.eq _) 2 rfl
  · intro o ho FA x hO hD K hK
    obtain rfl := Option.some.inj ho.symm
    clear ho
    have ev19 : FA.eval (.tmp 19) = _ := hD 0 19 (by kernel_rfl)
    have e19 := (eval_tmp FA 19).symm.trans ev19
    replace ev19 := Lib.hid ev19
    clear hO hD
    go_simp
    exact hK.out _ _ (Ex.refl _) rfl
  apply Steps.one (MP.eq _) 3 rfl
  · intro o ho FA x hO hD K hK
    obtain rfl := Option.some.inj ho.symm
    clear ho
    have ev20 : FA.eval (.tmp 20) = _ := hD 1 20 (by kernel_rfl)
    have e20 := (eval_tmp FA 20).symm.trans ev20
    replace ev20 := Lib.hid ev20
    clear hO hD
    go_simp
    exact hK.out _ _ (Ex.refl _) rfl
  apply Steps.one (MP.eq _) 4 rfl
  · intro o ho FA x hO hD K hK
    obtain rfl := Option.some.inj ho.symm
    clear ho
    have ev21 : FA.eval (.tmp 21) = _ := hD 2 21 (by kernel_rfl)
    have e21 := (eval_tmp FA 21).symm.trans ev21
    replace ev21 := Lib.hid ev21
    clear hO hD
    go_simp
    exact hK.out _ _ (Ex.refl _) rfl
  apply Steps.one (MP.eq _) 5 rfl
  · intro o ho FA x hO hD K hK
    obtain rfl := Option.some.inj ho.symm
    clear ho
    have ev22 : FA.eval (.tmp 22) = _ := hD 3 22 (by kernel_rfl)
    have e22 := (eval_tmp FA 22).symm.trans ev22
    replace ev22 := Lib.hid ev22
    clear hO hD
    go_simp
    exact hK.out _ _ (Ex.refl _) rfl
  apply Steps.one (MP.eq _) 6 rfl
  · intro o ho FA x hO hD K hK
    obtain rfl := Option.some.inj ho.symm
    clear ho
    have ev23 : FA.eval (.tmp 23) = _ := hD 4 23 (by kernel_rfl)
    have e23 := (eval_tmp FA 23).symm.trans ev23
    replace ev23 := Lib.hid ev23
    clear hO hD
    go_simp
    exact hK.out _ _ (Ex.refl _) rfl
  apply Steps.one (MP.eq _) 7 rfl
  · intro o ho FA x hO hD K hK
    obtain rfl := Option.some.inj ho.symm
    clear ho
    have e0 := hO 0 (by kernel_rfl)
    simp only [eval_tmp, List.getElem?_toArray, List.getElem?_cons_succ, List.getElem?_cons_zero, Option.getD_some] at e0
    have ev0 := Lib.hid ((eval_tmp FA 0).trans e0)
    clear hO hD
    go_simp
    exact hK.out _ _ (Ex.refl _) rfl
  apply Steps.one (MP.eq _) 8 rfl
  · intro o ho FA x hO hD K hK
    obtain rfl := Option.some.inj ho.symm
    clear ho
    have ev25 : FA.eval (.tmp 25) = _ := hD 6 25 (by kernel_rfl)
    have e25 := (eval_tmp FA 25).symm.trans ev25
    replace ev25 := Lib.hid ev25
    clear hO hD
    go_simp
    exact hK.out _ _ (Ex.refl _) rfl
  apply Steps.one (MP.eq _) 9 rfl
  · intro o ho FA x hO hD K hK
    obtain rfl := Option.some.inj ho.symm
    clear ho
    have ev26 : FA.eval (.tmp 26) = _ := hD 7 26 (by kernel_rfl)
    have e26 := (eval_tmp FA 26).symm.trans ev26
    replace ev26 := Lib.hid ev26
    clear hO hD
    go_simp
    exact hK.out _ _ (Ex.refl _) rfl
  apply Steps.one (MP.eq _) 10 rfl
  · intro o ho FA x hO hD K hK
    obtain rfl := Option.some.inj ho.symm
    clear ho
    have ev27 : FA.eval (.tmp 27) = _ := hD 8 27 (by kernel_rfl)
    have e27 := (eval_tmp FA 27).symm.trans ev27
    replace ev27 := Lib.hid ev27
    clear hO hD
    go_simp
    exact hK.out _ _ (Ex.refl _) rfl
  apply Steps.one (MP.eq _) 11 rfl
  · intro o ho FA x hO hD K hK
    obtain rfl := Option.some.inj ho.symm
    clear ho
    have ev24 : FA.eval (.tmp 24) = _ := hD 5 24 (by kernel_rfl)
    have e24 := (eval_tmp FA 24).symm.trans ev24
    replace ev24 := Lib.hid ev24
    clear hO hD
    go_simp
    exact hK.out _ _ (Ex.refl _) rfl
  apply Steps.one (MP.eq _) 12 rfl
  · intro o ho FA x hO hD K hK
    obtain rfl := Option.some.inj ho.symm
    clear ho
    clear hO hD
    go_simp
    exact hK.out _ _ (Ex.refl _) rfl
  apply Steps.one (MP.eq _) 13 rfl
  · intro o ho FA x hO hD K hK
    obtain rfl := Option.some.inj ho.symm
    clear ho
    clear hO hD
    go_simp
    exact hK.out _ _ (Ex.refl _) rfl
  apply Steps.one (MP.eq _) 14 rfl
  · intro o ho FA x hO hD K hK
    obtain rfl := Option.some.inj ho.symm
    clear ho
    have ev28 : FA.eval (.tmp 28) = _ := hD 9 28 (by kernel_rfl)
    have e28 := (eval_tmp FA 28).symm.trans ev28
    replace ev28 := Lib.hid ev28
    clear hO hD
    go_simp
    exact hK.out _ _ (Ex.refl _) rfl
  apply Steps.one (MP.eq _) 15 rfl
  · intro o ho FA x hO hD K hK
    obtain rfl := Option.some.inj ho.symm
    clear ho
    clear hO hD
    go_simp
    exact hK.out _ _ (Ex.refl _) rfl
  refine Steps.fin_ (fun vs x hp => ?_)
  have p0 : vs 0 = _ := hp 0 (by omega)
  have p1 : vs 1 = _ := hp 1 (by omega)
  have p2 : vs 2 = _ := hp 2 (by omega)
  have p3 : vs 3 = _ := hp 3 (by omega)
  have p4 : vs 4 = _ := hp 4 (by omega)
  have p5 : vs 5 = _ := hp 5 (by omega)
  have p6 : vs 6 = _ := hp 6 (by omega)
  have p7 : vs 7 = _ := hp 7 (by omega)
  have p8 : vs 8 = _ := hp 8 (by omega)
  have p9 : vs 9 = _ := hp 9 (by omega)
  have p10 : vs 10 = _ := hp 10 (by omega)
  have p11 : vs 11 = _ := hp 11 (by omega)
  have p12 : vs 12 = _ := hp 12 (by omega)
  have p13 : vs 13 = _ := hp 13 (by omega)
  have p14 : vs 14 = _ := hp 14 (by omega)
  clear hp
  simp only [List.take_succ_cons, List.take_zero, List.drop_succ_cons, List.drop_zero, putAll, Nat.zero_add, Nat.reduceAdd, Act.put, List.setIfInBounds_toArray, List.set_cons_zero, List.set_cons_succ, p0, p1, p2, p3, p4, p5, p6, p7, p8, p9, p10, p11, p12, p13, p14]
  clear p0 p1 p2 p3 p4 p5 p6 p7 p8 p9 p10 p11 p12 p13 p14
  clear vs
  have zs := be.size
  have yW0 := (cell_plus V x.bs x.d b off zb).trans yV0
  have yW6 := (cell_plus V x.bs x.d b (off + 6) zb).trans yV6
  replace be := belowP be x.bs x.d
  replace b4 := b4.later (below_plus _ x.bs x.d)
  clear yV0 yV6 yV9
  generalize plus V x.bs x.d = V1 at *
  have zb1 : b < V1.heap.size := Nat.lt_of_lt_of_le hbl be.size
  go_upto_region 9 with (first
    | (go_at_call 54; refine (HG.out _ (h.later be)).mono ?_; rintro e w1 ⟨rfl, rfl⟩)
    | (refine at_op (.store 35 (.tmp 11) (.tmp 70)) rfl ?_; refine wpList_stA (t := 35) 35 (.tmp 11) (.tmp 70) rfl rfl (qC false 0 0 false 0 0 0 0 0 0 false) (qC false 0 0 false 0 0 0 0 0 0 false) rfl (qC_one _ _ _ _ _ _ _ _ _ _ _) rfl rfl ?_ (szRQ _ _ _ _ _ _ _ _ _ _ _) ?_; (· refine Bk.newK _ _ _ ?_ rfl; simp [size_plus]); intro W1 hX g1))
  have z1 := be.size
  have z4 := b4.lt
  have b1 := below_grown (Below.allocS (Below.refl V1.heap.size V1) _) g1 (Nat.le_refl _)
  replace be := be.trans (b1.mono z1)
  replace b4 := b4.later b1
  have hg : w.heap.size < V1.heap.size := by omega
  clear b1 g1
  generalize V1.heap.size = g11 at *
  have zX := hX.lt
  go_upto_region 10 with (first
    | (go_at_call 55; (with_reducible refine (H1.out _ be).mono ?_); rintro e w1 ⟨bs0, ds0, rfl, rfl⟩)
    | (replace hX := hX.later (below_plus _ bs0 ds0); (refine at_op (.store 26 (.tmp 82) (.tmp 79)) rfl ?_; refine wpList_stM (t := 35) 26 (.tmp 82) (.tmp 79) rfl rfl (adC s1 h1 l1) _ (by simp [adC, qC]) (adC_one _ _ _) rfl rfl hX (szAd _ _ _) ?_; intro W2 hX0 gx0)))
  simp only [splice, adC, qC, List.take_succ_cons, List.take_zero, List.drop_succ_cons, List.drop_zero, List.length_cons, List.length_nil, Nat.zero_add, Nat.reduceAdd, List.cons_append, List.nil_append] at hX0
  replace b4 := (b4.later (below_plus _ bs0 ds0)).grown gx0 (by simp; omega)
  replace be := below_grown (belowP be bs0 ds0) gx0 (by omega)
  clear hX gx0
  have hX := hX0
  clear hX0
  have zX := hX.lt
  go_upto_region 11 with (first
    | (go_at_call 55; (with_reducible refine (H2.out _ be).mono ?_); rintro e w1 ⟨bs1, ds1, rfl, rfl⟩)
    | (replace hX := hX.later (below_plus _ bs1 ds1); (refine at_op (.store 26 (.tmp 97) (.tmp 94)) rfl ?_; refine wpList_stM (t := 35) 26 (.tmp 97) (.tmp 94) rfl rfl (adC s2 h2 l2) _ (by simp [adC, qC]) (adC_one _ _ _) rfl rfl hX (szAd _ _ _) ?_; intro W3 hX1 gx1)))
  simp only [splice, adC, qC, List.take_succ_cons, List.take_zero, List.drop_succ_cons, List.drop_zero, List.length_cons, List.length_nil, Nat.zero_add, Nat.reduceAdd, List.cons_append, List.nil_append] at hX1
  replace b4 := (b4.later (below_plus _ bs1 ds1)).grown gx1 (by simp; omega)
  replace be := below_grown (belowP be bs1 ds1) gx1 (by omega)
  clear hX gx1
  have hX := hX1
  clear hX1
  have zX := hX.lt
  go_upto_region 12 with (refine at_op (.store 5 (.tmp 101) (.tmp 99)) rfl ?_; refine wpList_st1 5 (.tmp 101) (.tmp 99) rfl rfl rfl rfl hX (by simp [qC]) rfl (by kernel_rfl) ?_; intro W4 hX4 g4)
  replace b4 := b4.grown g4 (by simp; omega)
  replace be := below_grown be g4 (by omega)
  simp only [List.set_cons_succ, List.set_cons_zero] at hX4
  clear hX g4
  go_upto_region 13 with (first
    | (go_at_call 54; (with_reducible refine (HSP.out _ (h.later be)).mono ?_); rintro e w1 ⟨rfl, rfl⟩)
    | (refine at_op (.store 27 (.tmp 107) (.tmp 105)) rfl ?_; refine wpList_st1 27 (.tmp 107) (.tmp 105) rfl rfl rfl rfl hX4 (by simp [qC]) rfl (by kernel_rfl) ?_; intro W5 hX5 g5))
  replace b4 := b4.grown g5 (by simp; omega)
  replace be := below_grown be g5 (by omega)
  simp only [List.set_cons_succ, List.set_cons_zero] at hX5
  clear hX4 g5
  go_upto_region 14 with (first
    | (go_at_call 54; (with_reducible refine (HDP.out _ (h.later be)).mono ?_); rintro e w1 ⟨rfl, rfl⟩)
    | (refine at_op (.store 27 (.tmp 114) (.tmp 112)) rfl ?_; refine wpList_st1 27 (.tmp 114) (.tmp 112) rfl rfl rfl rfl hX5 (by simp [qC]) rfl (by kernel_rfl) ?_; intro W6 hX6 g6))
  replace b4 := b4.grown g6 (by simp; omega)
  replace be := below_grown be g6 (by omega)
  simp only [List.set_cons_succ, List.set_cons_zero] at hX6
  clear hX5 g6
  have z6 := be.size
  have z46 := b4.lt
  have zX6 := hX6.lt
  go_wp2_with fail
  refine (HPA.out _ be).mono ?_
  rintro e w1 ⟨Ao, no, ko, Ap, np, kp, bs7, d7, rfl, rfl, ho, -⟩
  go_upto_region 15 with (refine at_op (.store 56 (.tmp 12) (.tmp 120)) rfl ?_; refine wpList_stA (t := 56) 56 (.tmp 12) (.tmp 120) rfl rfl ([.int .u16 (x0 : Int), .int .u16 (x1 : Int), .int .u32 (x2 : Int), .int .u32 (x3 : Int), .int .u8 (x4 : Int), .int .u16 (x5 : Int), .int .u16 (x6 : Int), .int .u16 (x7 : Int), .slice Ao no ko, .slice Ap np kp]) ([.int .u16 0, .int .u16 0, .int .u32 0, .int .u32 0, .int .u8 0, .int .u16 0, .int .u16 0, .int .u16 0, .slice none 0 0, .slice none 0 0]) rfl (by simp [Value.oneCell']) rfl rfl ?_ (by kernel_rfl) ?_; (· refine Bk.newK _ _ _ ?_ rfl; simp [size_plus]); intro W7 hS g7)
  have b7 := below_grown (Below.allocS (below_plus W6 bs7 d7) _) g7 (by omega)
  replace be := be.trans (b7.mono z6)
  replace b4 := b4.later b7
  replace hX6 := hX6.later b7
  replace ho := ho.later (below_grown (Below.allocS (Below.refl _ _) _) g7 (by simp [size_plus]))
  clear b7 g7
  generalize W6.heap.size + bs7.length = g12 at *
  have yo : W7.cell? ⟨g12, 8, none⟩ = some (.slice Ao no ko) := hS.cell 8
  have zS := hS.lt
  go_wp2_with fail
  refine (HT.out _ _ _ _ ho).mono ?_
  rintro e w1 ⟨rfl, rfl⟩
  replace hX6 : Bk W7 g11 35 (qC s1 h1 l1 s2 h2 l2 sp dp p9 0 false) := hX6
  go_wp2_with (first
    | (refine at_op (.load 35 (.tmp 11)) rfl ?_; refine wpList_ldA (t := 35) 35 (.tmp 11) rfl rfl (qC s1 h1 l1 s2 h2 l2 sp dp p9 0 false) rfl (hX6) (whole_ _) r1 r2 (szRQ _ _ _ _ _ _ _ _ _ _ _) ?_)
    | (refine at_op (.store 35 (.tmp 4) (.tmp 142)) rfl ?_; refine wpList_stA (t := 35) 35 (.tmp 4) (.tmp 142) rfl rfl (qC s1 h1 l1 s2 h2 l2 sp dp p9 0 false) (qC false 0 0 false 0 0 0 0 0 0 false) rfl (qC_one _ _ _ _ _ _ _ _ _ _ _) rfl rfl b4 (szRQ _ _ _ _ _ _ _ _ _ _ _) ?_; intro W9 h9 g9))
  refine bodyPost_agg2 Try.results14 rfl rfl h9.range r1 r2 (szRQ _ _ _ _ _ _ _ _ _ _ _) rfl (RetV.mk ?_)
  exact below_grown be g9 (by omega)
set_option maxHeartbeats 4000000 in
set_option maxRecDepth 100000 in
theorem refRead4_6e (A : Option Addr) (n c : Nat) (l : List UInt8) (w : World) (h : Rb w A n c l) (hm : n ≤ 1000000) (x p9 p6 f : Nat) (hx : num ((l.drop 0).take 1) = x) (hx9 : num ((l.drop 9).take 1) = p9) (hx6 : num ((l.drop 6).take 1) = p6) (hxf : num ((l.drop 6).take 2) = f) (hn : 20 ≤ n) (hv : x / 16 = 4) (hs : 20 ≤ 4 * (x % 16)) (hs8 : 4 * (x % 16) + 8 ≤ n) (hf : f % 16384 = 0) (hp : p9 = 6) (s1 : Bool) (h1 l1 : Nat) (s2 : Bool) (h2 l2 sp dp : Nat) (x0 x1 x2 x3 x4 x5 x6 x7 : Nat) (o1 o2 : List UInt8) (E : Int) (hE : (E == 0) = false) (hsp : num ((l.drop (4 * (x % 16))).take 2) = sp) (hdp : num ((l.drop ((4 * (x % 16)) + 2)).take 2) = dp) (hol : o1.length ≤ 1000000) (H1 : ∀ w', Below w.heap.size w w' → Calls Try.prog 55 #[.slice (cutA A c 12 1) 4 (c - 12)] w' (RetV w' (.tuple #[.agg (adC s1 h1 l1).toArray, .bool true]))) (H2 : ∀ w', Below w.heap.size w w' → Calls Try.prog 55 #[.slice (cutA A c 16 1) 4 (c - 16)] w' (RetV w' (.tuple #[.agg (adC s2 h2 l2).toArray, .bool true]))) (HPA : ∀ w', Below w.heap.size w w' → Calls Try.prog 56 #[.slice (cutA A c (4 * (x % 16)) 1) (n - (4 * (x % 16))) (c - (4 * (x % 16)))] w' (RetSeg w' x0 x1 x2 x3 x4 x5 x6 x7 o1 o2 (.int .i64 E))) : Calls Try.prog 14 #[.slice A n c, .bool false] w (RetV w (.tuple #[.agg (qC s1 h1 l1 s2 h2 l2 sp dp p9 0 false).toArray, .bool true])) := by
  obtain ⟨dq, r1, r2⟩ := rowRQ
  have hc := h.2.1
  have hl := h.1
  obtain ⟨b, off, rfl, hbl, hcell⟩ := h.2.2.at_ (by rw [bcs_length, h.1]; omega)
  have y0 := num_cell hcell 0 (by omega)
  rw [hx, Nat.add_zero] at y0
  have y9 := num_cell hcell 9 (by omega)
  have y6 := num_cell hcell 6 (by omega)
  rw [hx9] at y9
  rw [hx6] at y6
  have hx8 : x < 256 := by rw [← hx]; exact num_lt' l 0 1 256 (by decide)
  have hp9 : p9 < 256 := by rw [← hx9]; exact num_lt' l 9 1 256 (by decide)
  have hp6 : p6 < 256 := by rw [← hx6]; exact num_lt' l 6 1 256 (by decide)
  have i0 : (0 : Int) < (n : Int) := by omega
  have i0n : 0 < n := by omega
  have i6 : (6 : Int) < (n : Int) := by omega
  have i6n : 6 < n := by omega
  have i9 : (9 : Int) < (n : Int) := by omega
  have i9n : 9 < n := by omega
  have tai : decide ((n : Int) < 20) = false := by simp only [decide_eq_false_iff_not]; omega
  have tan : decide (n < 20) = false := by simp only [decide_eq_false_iff_not]; omega
  obtain ⟨q, hq⟩ : ∃ q : Nat, q = x / 16 := ⟨_, rfl⟩
  have e1 : (x : Int) / 16 = (q : Int) := by omega
  have e1m : (q : Int) % 256 = (q : Int) := by omega
  obtain ⟨m, hm0⟩ : ∃ m : Nat, x % 16 = m := ⟨_, rfl⟩
  have v0 : (x : Int) % 16 = (m : Int) := by omega
  have v0t : (x : Int).tmod 16 = (m : Int) := by rw [Int.tmod_eq_emod_of_nonneg (by omega)]; omega
  have v1 : IntKind.i64.wrap (m : Int) = (m : Int) := IntWalk.i64_in _ (by omega)
  obtain ⟨z, hz⟩ : ∃ z : Nat, z = 4 * m := ⟨_, rfl⟩
  have v2 : IntKind.i64.wrap ((m : Int) * 4) = (z : Int) := by rw [IntWalk.i64_in _ (by omega)]; omega
  have v3 : IntKind.i64.wrap (p9 : Int) = (p9 : Int) := IntWalk.i64_in _ (by omega)
  have v4 : IntKind.i64.wrap (p6 : Int) = (p6 : Int) := IntWalk.i64_in _ (by omega)
  obtain ⟨z8, hz8⟩ : ∃ k : Nat, k = z + 8 := ⟨_, rfl⟩
  have v5 : IntKind.i64.wrap ((z : Int) + 8) = (z8 : Int) := by rw [IntWalk.i64_in _ (by omega)]; omega
  have nv : ((q : Int) != 4) = false := by rw [bne_eq_false_iff_eq]; omega
  have tbi : decide ((z : Int) < 20) = false := by simp only [decide_eq_false_iff_not]; omega
  have tbn : decide (z < 20) = false := by simp only [decide_eq_false_iff_not]; omega
  have tci : decide ((n : Int) < (z8 : Int)) = false := by simp only [decide_eq_false_iff_not]; omega
  have tcn : decide (n < z8) = false := by simp only [decide_eq_false_iff_not]; omega
  have hf16 : f < 65536 := by rw [← hxf]; exact num_lt' l 6 2 65536 (by decide)
  obtain ⟨fm, hfm⟩ : ∃ k : Nat, f % 16384 = k := ⟨_, rfl⟩
  have v6 : (f : Int) % 16384 = (fm : Int) := by omega
  have v6t : (f : Int).tmod 16384 = (fm : Int) := by rw [Int.tmod_eq_emod_of_nonneg (by omega)]; omega
  have v7 : IntKind.u64.wrap (fm : Int) = (fm : Int) := IntWalk.u64_in _ (by omega)
  have nf : ((fm : Int) != 0) = false := by rw [bne_eq_false_iff_eq]; omega
  have HG := Lib.hid (fun w (h : Rb w (some ⟨b, off, none⟩) n c l) => refGetV _ n c l 6 2 6 2 f w h rfl rfl hxf (by omega) (by omega) (by omega))
  have n6 : ((p9 : Int) != 6) = false := by rw [bne_eq_false_iff_eq]; omega
  have n6e : ((p9 : Int) == 6) = true := by rw [beq_iff_eq]; omega
  have wu8 : IntKind.u8.wrap (p9 : Int) = (p9 : Int) := IntWalk.u8_in _ (by omega)
  have wm8 : (p9 : Int) % 256 = (p9 : Int) := by omega
  have hsp16 : sp < 65536 := by rw [← hsp]; exact num_lt' l _ 2 65536 (by decide)
  have hdp16 : dp < 65536 := by rw [← hdp]; exact num_lt' l _ 2 65536 (by decide)
  have wsp : IntKind.u16.wrap (sp : Int) = (sp : Int) := IntWalk.u16_in _ (by omega)
  have wdp : IntKind.u16.wrap (dp : Int) = (dp : Int) := IntWalk.u16_in _ (by omega)
  obtain ⟨tv, htv⟩ : ∃ tv : Int, resT (stampsAt o1) = .int .i64 tv := by cases stampsAt o1 <;> exact ⟨_, rfl⟩
  have HT := Lib.hid (fun A n c w (h : Rb w A n c o1) => (by have := refStamps_any A n c o1 w h (by rw [← h.1]; exact hol); rwa [htv] at this : Calls Try.prog 57 #[.slice A n c] w fun e w' => e = .returned (.int .i64 tv) ∧ w = w'))
  have hz4 : 4 * (x % 16) = z := by omega
  rw [hz4] at hsp hdp HPA
  obtain ⟨z2, hz2⟩ : ∃ k : Nat, k = z + 2 := ⟨_, rfl⟩
  have wz2 : IntKind.i64.wrap ((z : Int) + 2) = (z2 : Int) := by rw [IntWalk.i64_in _ (by omega)]; omega
  rw [← hz2] at hdp
  have jz0 : (0 : Int) ≤ (z : Int) := by omega
  have jzn : (z : Int) ≤ (n : Int) := by omega
  have HSP := Lib.hid (fun w (h : Rb w (some ⟨b, off, none⟩) n c l) => refGetV _ n c l (z : Int) 2 z 2 sp w h rfl rfl hsp (by omega) (by omega) (by omega))
  have HDP := Lib.hid (fun w (h : Rb w (some ⟨b, off, none⟩) n c l) => refGetV _ n c l (z2 : Int) 2 z2 2 dp w h rfl rfl hdp (by omega) (by omega) (by omega))
  have j12a : (16 : Int) ≤ (c : Int) := by omega
  have j12b : (20 : Int) ≤ (c : Int) := by omega
  replace H1 := Lib.hid H1
  replace H2 := Lib.hid H2
  replace HPA := Lib.hid HPA
  clear hv hs8 hp hx hx9 hx6 hxf hq hm0 hz hz8 hm hn hsp hdp hsp16 hdp16 htv hol hs hf hfm hf16 hz2 hz4
  have b4 : Bk (w.alloc (.cells #[.bool false, .int .u64 0, .int .u64 0, .bool false, .int .u64 0, .int .u64 0, .int .u16 0, .int .u16 0, .int .u8 0, .int .u32 0, .bool false] 35)) w.heap.size 35 (qC false 0 0 false 0 0 0 0 0 0 false) := Bk.new w 35 #[.bool false, .int .u64 0, .int .u64 0, .bool false, .int .u64 0, .int .u64 0, .int .u16 0, .int .u16 0, .int .u8 0, .int .u32 0, .bool false]
  have be : Below w.heap.size w (w.alloc (.cells #[.bool false, .int .u64 0, .int .u64 0, .bool false, .int .u64 0, .int .u64 0, .int .u16 0, .int .u16 0, .int .u8 0, .int .u32 0, .bool false] 35)) := Below.allocS (Below.refl _ _) _
  have yV0 := (be.cell (p := ⟨b, off, none⟩) hbl).trans y0
  have yV9 := (be.cell (p := ⟨b, off + 9, none⟩) hbl).trans y9
  have yV6 := (be.cell (p := ⟨b, off + 6, none⟩) hbl).trans y6
  have zV := be.size
  clear hcell y0 y9 y6
  go_enter Try.func14, Try.ntmps14
  go_upto_region 3 with (fail)
  generalize w.alloc (.cells #[.bool false, .int .u64 0, .int .u64 0, .bool false, .int .u64 0, .int .u64 0, .int .u16 0, .int .u16 0, .int .u8 0, .int .u32 0, .bool false] 35) = V at *
  have zb : b < V.heap.size := by omega
  go_wp2
  refine wp_relS 15 143 rfl (by kernel_rfl) (by kernel_rfl) ?_
  apply Steps.one (MP.eq _) 1 rfl
  · intro o ho FA x hO hD K hK
    obtain rfl := Option.some.inj ho.symm
    clear ho
    have e0 := hO 0 (by kernel_rfl)
    simp only [eval_tmp, List.getElem?_toArray, List.getElem?_cons_succ, List.getElem?_cons_zero, Option.getD_some] at e0
    have ev0 := Lib.hid ((eval_tmp FA 0).trans e0)
    clear hO hD
    go_simp
    exact hK.out _ _ (Ex.refl _) rfl
  apply Steps.one (MP.eq _) 2 rfl
  · intro o ho FA x hO hD K hK
    obtain rfl := Option.some.inj ho.symm
    clear ho
    have ev19 : FA.eval (.tmp 19) = _ := hD 0 19 (by kernel_rfl)
    have e19 := (eval_tmp FA 19).symm.trans ev19
    replace ev19 := Lib.hid ev19
    clear hO hD
    go_simp
    exact hK.out _ _ (Ex.refl _) rfl
  apply Steps.one (MP.eq _) 3 rfl
  · intro o ho FA x hO hD K hK
    obtain rfl := Option.some.inj ho.symm
    clear ho
    have ev20 : FA.eval (.tmp 20) = _ := hD 1 20 (by kernel_rfl)
    have e20 := (eval_tmp FA 20).symm.trans ev20
    replace ev20 := Lib.hid ev20
    clear hO hD
    go_simp
    exact hK.out _ _ (Ex.refl _) rfl
  apply Steps.one (MP.eq _) 4 rfl
  · intro o ho FA x hO hD K hK
    obtain rfl := Option.some.inj ho.symm
    clear ho
    have ev21 : FA.eval (.tmp 21) = _ := hD 2 21 (by kernel_rfl)
    have e21 := (eval_tmp FA 21).symm.trans ev21
    replace ev21 := Lib.hid ev21
    clear hO hD
    go_simp
    exact hK.out _ _ (Ex.refl _) rfl
  apply Steps.one (MP.eq _) 5 rfl
  · intro o ho FA x hO hD K hK
    obtain rfl := Option.some.inj ho.symm
    clear ho
    have ev22 : FA.eval (.tmp 22) = _ := hD 3 22 (by kernel_rfl)
    have e22 := (eval_tmp FA 22).symm.trans ev22
    replace ev22 := Lib.hid ev22
    clear hO hD
    go_simp
    exact hK.out _ _ (Ex.refl _) rfl
  apply Steps.one (MP.eq _) 6 rfl
  · intro o ho FA x hO hD K hK
    obtain rfl := Option.some.inj ho.symm
    clear ho
    have ev23 : FA.eval (.tmp 23) = _ := hD 4 23 (by kernel_rfl)
    have e23 := (eval_tmp FA 23).symm.trans ev23
    replace ev23 := Lib.hid ev23
    clear hO hD
    go_simp
    exact hK.out _ _ (Ex.refl _) rfl
  apply Steps.one (MP.eq _) 7 rfl
  · intro o ho FA x hO hD K hK
    obtain rfl := Option.some.inj ho.symm
    clear ho
    have e0 := hO 0 (by kernel_rfl)
    simp only [eval_tmp, List.getElem?_toArray, List.getElem?_cons_succ, List.getElem?_cons_zero, Option.getD_some] at e0
    have ev0 := Lib.hid ((eval_tmp FA 0).trans e0)
    clear hO hD
    go_simp
    exact hK.out _ _ (Ex.refl _) rfl
  apply Steps.one (MP.eq _) 8 rfl
  · intro o ho FA x hO hD K hK
    obtain rfl := Option.some.inj ho.symm
    clear ho
    have ev25 : FA.eval (.tmp 25) = _ := hD 6 25 (by kernel_rfl)
    have e25 := (eval_tmp FA 25).symm.trans ev25
    replace ev25 := Lib.hid ev25
    clear hO hD
    go_simp
    exact hK.out _ _ (Ex.refl _) rfl
  apply Steps.one (MP.eq _) 9 rfl
  · intro o ho FA x hO hD K hK
    obtain rfl := Option.some.inj ho.symm
    clear ho
    have ev26 : FA.eval (.tmp 26) = _ := hD 7 26 (by kernel_rfl)
    have e26 := (eval_tmp FA 26).symm.trans ev26
    replace ev26 := Lib.hid ev26
    clear hO hD
    go_simp
    exact hK.out _ _ (Ex.refl _) rfl
  apply Steps.one (MP.eq _) 10 rfl
  · intro o ho FA x hO hD K hK
    obtain rfl := Option.some.inj ho.symm
    clear ho
    have ev27 : FA.eval (.tmp 27) = _ := hD 8 27 (by kernel_rfl)
    have e27 := (eval_tmp FA 27).symm.trans ev27
    replace ev27 := Lib.hid ev27
    clear hO hD
    go_simp
    exact hK.out _ _ (Ex.refl _) rfl
  apply Steps.one (MP.eq _) 11 rfl
  · intro o ho FA x hO hD K hK
    obtain rfl := Option.some.inj ho.symm
    clear ho
    have ev24 : FA.eval (.tmp 24) = _ := hD 5 24 (by kernel_rfl)
    have e24 := (eval_tmp FA 24).symm.trans ev24
    replace ev24 := Lib.hid ev24
    clear hO hD
    go_simp
    exact hK.out _ _ (Ex.refl _) rfl
  apply Steps.one (MP.eq _) 12 rfl
  · intro o ho FA x hO hD K hK
    obtain rfl := Option.some.inj ho.symm
    clear ho
    clear hO hD
    go_simp
    exact hK.out _ _ (Ex.refl _) rfl
  apply Steps.one (MP.eq _) 13 rfl
  · intro o ho FA x hO hD K hK
    obtain rfl := Option.some.inj ho.symm
    clear ho
    clear hO hD
    go_simp
    exact hK.out _ _ (Ex.refl _) rfl
  apply Steps.one (MP.eq _) 14 rfl
  · intro o ho FA x hO hD K hK
    obtain rfl := Option.some.inj ho.symm
    clear ho
    have ev28 : FA.eval (.tmp 28) = _ := hD 9 28 (by kernel_rfl)
    have e28 := (eval_tmp FA 28).symm.trans ev28
    replace ev28 := Lib.hid ev28
    clear hO hD
    go_simp
    exact hK.out _ _ (Ex.refl _) rfl
  apply Steps.one (MP.eq _) 15 rfl
  · intro o ho FA x hO hD K hK
    obtain rfl := Option.some.inj ho.symm
    clear ho
    clear hO hD
    go_simp
    exact hK.out _ _ (Ex.refl _) rfl
  refine Steps.fin_ (fun vs x hp => ?_)
  have p0 : vs 0 = _ := hp 0 (by omega)
  have p1 : vs 1 = _ := hp 1 (by omega)
  have p2 : vs 2 = _ := hp 2 (by omega)
  have p3 : vs 3 = _ := hp 3 (by omega)
  have p4 : vs 4 = _ := hp 4 (by omega)
  have p5 : vs 5 = _ := hp 5 (by omega)
  have p6 : vs 6 = _ := hp 6 (by omega)
  have p7 : vs 7 = _ := hp 7 (by omega)
  have p8 : vs 8 = _ := hp 8 (by omega)
  have p9 : vs 9 = _ := hp 9 (by omega)
  have p10 : vs 10 = _ := hp 10 (by omega)
  have p11 : vs 11 = _ := hp 11 (by omega)
  have p12 : vs 12 = _ := hp 12 (by omega)
  have p13 : vs 13 = _ := hp 13 (by omega)
  have p14 : vs 14 = _ := hp 14 (by omega)
  clear hp
  simp only [List.take_succ_cons, List.take_zero, List.drop_succ_cons, List.drop_zero, putAll, Nat.zero_add, Nat.reduceAdd, Act.put, List.setIfInBounds_toArray, List.set_cons_zero, List.set_cons_succ, p0, p1, p2, p3, p4, p5, p6, p7, p8, p9, p10, p11, p12, p13, p14]
  clear p0 p1 p2 p3 p4 p5 p6 p7 p8 p9 p10 p11 p12 p13 p14
  clear vs
  have zs := be.size
  have yW0 := (cell_plus V x.bs x.d b off zb).trans yV0
  have yW6 := (cell_plus V x.bs x.d b (off + 6) zb).trans yV6
  replace be := belowP be x.bs x.d
  replace b4 := b4.later (below_plus _ x.bs x.d)
  clear yV0 yV6 yV9
  generalize plus V x.bs x.d = V1 at *
  have zb1 : b < V1.heap.size := Nat.lt_of_lt_of_le hbl be.size
  go_upto_region 9 with (first
    | (go_at_call 54; refine (HG.out _ (h.later be)).mono ?_; rintro e w1 ⟨rfl, rfl⟩)
    | (refine at_op (.store 35 (.tmp 11) (.tmp 70)) rfl ?_; refine wpList_stA (t := 35) 35 (.tmp 11) (.tmp 70) rfl rfl (qC false 0 0 false 0 0 0 0 0 0 false) (qC false 0 0 false 0 0 0 0 0 0 false) rfl (qC_one _ _ _ _ _ _ _ _ _ _ _) rfl rfl ?_ (szRQ _ _ _ _ _ _ _ _ _ _ _) ?_; (· refine Bk.newK _ _ _ ?_ rfl; simp [size_plus]); intro W1 hX g1))
  have z1 := be.size
  have z4 := b4.lt
  have b1 := below_grown (Below.allocS (Below.refl V1.heap.size V1) _) g1 (Nat.le_refl _)
  replace be := be.trans (b1.mono z1)
  replace b4 := b4.later b1
  have hg : w.heap.size < V1.heap.size := by omega
  clear b1 g1
  generalize V1.heap.size = g11 at *
  have zX := hX.lt
  go_upto_region 10 with (first
    | (go_at_call 55; (with_reducible refine (H1.out _ be).mono ?_); rintro e w1 ⟨bs0, ds0, rfl, rfl⟩)
    | (replace hX := hX.later (below_plus _ bs0 ds0); (refine at_op (.store 26 (.tmp 82) (.tmp 79)) rfl ?_; refine wpList_stM (t := 35) 26 (.tmp 82) (.tmp 79) rfl rfl (adC s1 h1 l1) _ (by simp [adC, qC]) (adC_one _ _ _) rfl rfl hX (szAd _ _ _) ?_; intro W2 hX0 gx0)))
  simp only [splice, adC, qC, List.take_succ_cons, List.take_zero, List.drop_succ_cons, List.drop_zero, List.length_cons, List.length_nil, Nat.zero_add, Nat.reduceAdd, List.cons_append, List.nil_append] at hX0
  replace b4 := (b4.later (below_plus _ bs0 ds0)).grown gx0 (by simp; omega)
  replace be := below_grown (belowP be bs0 ds0) gx0 (by omega)
  clear hX gx0
  have hX := hX0
  clear hX0
  have zX := hX.lt
  go_upto_region 11 with (first
    | (go_at_call 55; (with_reducible refine (H2.out _ be).mono ?_); rintro e w1 ⟨bs1, ds1, rfl, rfl⟩)
    | (replace hX := hX.later (below_plus _ bs1 ds1); (refine at_op (.store 26 (.tmp 97) (.tmp 94)) rfl ?_; refine wpList_stM (t := 35) 26 (.tmp 97) (.tmp 94) rfl rfl (adC s2 h2 l2) _ (by simp [adC, qC]) (adC_one _ _ _) rfl rfl hX (szAd _ _ _) ?_; intro W3 hX1 gx1)))
  simp only [splice, adC, qC, List.take_succ_cons, List.take_zero, List.drop_succ_cons, List.drop_zero, List.length_cons, List.length_nil, Nat.zero_add, Nat.reduceAdd, List.cons_append, List.nil_append] at hX1
  replace b4 := (b4.later (below_plus _ bs1 ds1)).grown gx1 (by simp; omega)
  replace be := below_grown (belowP be bs1 ds1) gx1 (by omega)
  clear hX gx1
  have hX := hX1
  clear hX1
  have zX := hX.lt
  go_upto_region 12 with (refine at_op (.store 5 (.tmp 101) (.tmp 99)) rfl ?_; refine wpList_st1 5 (.tmp 101) (.tmp 99) rfl rfl rfl rfl hX (by simp [qC]) rfl (by kernel_rfl) ?_; intro W4 hX4 g4)
  replace b4 := b4.grown g4 (by simp; omega)
  replace be := below_grown be g4 (by omega)
  simp only [List.set_cons_succ, List.set_cons_zero] at hX4
  clear hX g4
  go_upto_region 13 with (first
    | (go_at_call 54; (with_reducible refine (HSP.out _ (h.later be)).mono ?_); rintro e w1 ⟨rfl, rfl⟩)
    | (refine at_op (.store 27 (.tmp 107) (.tmp 105)) rfl ?_; refine wpList_st1 27 (.tmp 107) (.tmp 105) rfl rfl rfl rfl hX4 (by simp [qC]) rfl (by kernel_rfl) ?_; intro W5 hX5 g5))
  replace b4 := b4.grown g5 (by simp; omega)
  replace be := below_grown be g5 (by omega)
  simp only [List.set_cons_succ, List.set_cons_zero] at hX5
  clear hX4 g5
  go_upto_region 14 with (first
    | (go_at_call 54; (with_reducible refine (HDP.out _ (h.later be)).mono ?_); rintro e w1 ⟨rfl, rfl⟩)
    | (refine at_op (.store 27 (.tmp 114) (.tmp 112)) rfl ?_; refine wpList_st1 27 (.tmp 114) (.tmp 112) rfl rfl rfl rfl hX5 (by simp [qC]) rfl (by kernel_rfl) ?_; intro W6 hX6 g6))
  replace b4 := b4.grown g6 (by simp; omega)
  replace be := below_grown be g6 (by omega)
  simp only [List.set_cons_succ, List.set_cons_zero] at hX6
  clear hX5 g6
  have z6 := be.size
  have z46 := b4.lt
  have zX6 := hX6.lt
  go_wp2_with fail
  refine (HPA.out _ be).mono ?_
  rintro e w1 ⟨Ao, no, ko, Ap, np, kp, bs7, d7, rfl, rfl, ho, -⟩
  go_upto_region 15 with (refine at_op (.store 56 (.tmp 12) (.tmp 120)) rfl ?_; refine wpList_stA (t := 56) 56 (.tmp 12) (.tmp 120) rfl rfl ([.int .u16 (x0 : Int), .int .u16 (x1 : Int), .int .u32 (x2 : Int), .int .u32 (x3 : Int), .int .u8 (x4 : Int), .int .u16 (x5 : Int), .int .u16 (x6 : Int), .int .u16 (x7 : Int), .slice Ao no ko, .slice Ap np kp]) ([.int .u16 0, .int .u16 0, .int .u32 0, .int .u32 0, .int .u8 0, .int .u16 0, .int .u16 0, .int .u16 0, .slice none 0 0, .slice none 0 0]) rfl (by simp [Value.oneCell']) rfl rfl ?_ (by kernel_rfl) ?_; (· refine Bk.newK _ _ _ ?_ rfl; simp [size_plus]); intro W7 hS g7)
  have b7 := below_grown (Below.allocS (below_plus W6 bs7 d7) _) g7 (by omega)
  replace be := be.trans (b7.mono z6)
  replace b4 := b4.later b7
  replace hX6 := hX6.later b7
  replace ho := ho.later (below_grown (Below.allocS (Below.refl _ _) _) g7 (by simp [size_plus]))
  clear b7 g7
  generalize W6.heap.size + bs7.length = g12 at *
  have yo : W7.cell? ⟨g12, 8, none⟩ = some (.slice Ao no ko) := hS.cell 8
  have zS := hS.lt
  go_wp2_with fail
  refine (HT.out _ _ _ _ ho).mono ?_
  rintro e w1 ⟨rfl, rfl⟩
  replace hX6 : Bk W7 g11 35 (qC s1 h1 l1 s2 h2 l2 sp dp p9 0 false) := hX6
  go_wp2_with (first
    | (refine at_op (.load 35 (.tmp 11)) rfl ?_; refine wpList_ldA (t := 35) 35 (.tmp 11) rfl rfl (qC s1 h1 l1 s2 h2 l2 sp dp p9 0 false) rfl (hX6) (whole_ _) r1 r2 (szRQ _ _ _ _ _ _ _ _ _ _ _) ?_)
    | (refine at_op (.store 35 (.tmp 4) (.tmp 142)) rfl ?_; refine wpList_stA (t := 35) 35 (.tmp 4) (.tmp 142) rfl rfl (qC s1 h1 l1 s2 h2 l2 sp dp p9 0 false) (qC false 0 0 false 0 0 0 0 0 0 false) rfl (qC_one _ _ _ _ _ _ _ _ _ _ _) rfl rfl b4 (szRQ _ _ _ _ _ _ _ _ _ _ _) ?_; intro W9 h9 g9))
  refine bodyPost_agg2 Try.results14 rfl rfl h9.range r1 r2 (szRQ _ _ _ _ _ _ _ _ _ _ _) rfl (RetV.mk ?_)
  exact below_grown be g9 (by omega)
set_option maxHeartbeats 4000000 in
set_option maxRecDepth 100000 in
theorem refRead4_6z (A : Option Addr) (n c : Nat) (l : List UInt8) (w : World) (h : Rb w A n c l) (hm : n ≤ 1000000) (x p9 p6 f : Nat) (hx : num ((l.drop 0).take 1) = x) (hx9 : num ((l.drop 9).take 1) = p9) (hx6 : num ((l.drop 6).take 1) = p6) (hxf : num ((l.drop 6).take 2) = f) (hn : 20 ≤ n) (hv : x / 16 = 4) (hs : 20 ≤ 4 * (x % 16)) (hs8 : 4 * (x % 16) + 8 ≤ n) (hf : f % 16384 = 0) (hp : p9 = 6) (s1 : Bool) (h1 l1 : Nat) (s2 : Bool) (h2 l2 sp dp : Nat) (x0 x1 x2 x3 x4 x5 x6 x7 : Nat) (o1 o2 : List UInt8) (E : Int) (hE : E = 0) (hSt : stampsAt o1 = none) (hsp : num ((l.drop (4 * (x % 16))).take 2) = sp) (hdp : num ((l.drop ((4 * (x % 16)) + 2)).take 2) = dp) (hol : o1.length ≤ 1000000) (H1 : ∀ w', Below w.heap.size w w' → Calls Try.prog 55 #[.slice (cutA A c 12 1) 4 (c - 12)] w' (RetV w' (.tuple #[.agg (adC s1 h1 l1).toArray, .bool true]))) (H2 : ∀ w', Below w.heap.size w w' → Calls Try.prog 55 #[.slice (cutA A c 16 1) 4 (c - 16)] w' (RetV w' (.tuple #[.agg (adC s2 h2 l2).toArray, .bool true]))) (HPA : ∀ w', Below w.heap.size w w' → Calls Try.prog 56 #[.slice (cutA A c (4 * (x % 16)) 1) (n - (4 * (x % 16))) (c - (4 * (x % 16)))] w' (RetSeg w' x0 x1 x2 x3 x4 x5 x6 x7 o1 o2 (.int .i64 E))) : Calls Try.prog 14 #[.slice A n c, .bool false] w (RetV w (.tuple #[.agg (qC s1 h1 l1 s2 h2 l2 sp dp p9 0 false).toArray, .bool true])) := by
  obtain ⟨dq, r1, r2⟩ := rowRQ
  have hc := h.2.1
  have hl := h.1
  obtain ⟨b, off, rfl, hbl, hcell⟩ := h.2.2.at_ (by rw [bcs_length, h.1]; omega)
  have y0 := num_cell hcell 0 (by omega)
  rw [hx, Nat.add_zero] at y0
  have y9 := num_cell hcell 9 (by omega)
  have y6 := num_cell hcell 6 (by omega)
  rw [hx9] at y9
  rw [hx6] at y6
  have hx8 : x < 256 := by rw [← hx]; exact num_lt' l 0 1 256 (by decide)
  have hp9 : p9 < 256 := by rw [← hx9]; exact num_lt' l 9 1 256 (by decide)
  have hp6 : p6 < 256 := by rw [← hx6]; exact num_lt' l 6 1 256 (by decide)
  have i0 : (0 : Int) < (n : Int) := by omega
  have i0n : 0 < n := by omega
  have i6 : (6 : Int) < (n : Int) := by omega
  have i6n : 6 < n := by omega
  have i9 : (9 : Int) < (n : Int) := by omega
  have i9n : 9 < n := by omega
  have tai : decide ((n : Int) < 20) = false := by simp only [decide_eq_false_iff_not]; omega
  have tan : decide (n < 20) = false := by simp only [decide_eq_false_iff_not]; omega
  obtain ⟨q, hq⟩ : ∃ q : Nat, q = x / 16 := ⟨_, rfl⟩
  have e1 : (x : Int) / 16 = (q : Int) := by omega
  have e1m : (q : Int) % 256 = (q : Int) := by omega
  obtain ⟨m, hm0⟩ : ∃ m : Nat, x % 16 = m := ⟨_, rfl⟩
  have v0 : (x : Int) % 16 = (m : Int) := by omega
  have v0t : (x : Int).tmod 16 = (m : Int) := by rw [Int.tmod_eq_emod_of_nonneg (by omega)]; omega
  have v1 : IntKind.i64.wrap (m : Int) = (m : Int) := IntWalk.i64_in _ (by omega)
  obtain ⟨z, hz⟩ : ∃ z : Nat, z = 4 * m := ⟨_, rfl⟩
  have v2 : IntKind.i64.wrap ((m : Int) * 4) = (z : Int) := by rw [IntWalk.i64_in _ (by omega)]; omega
  have v3 : IntKind.i64.wrap (p9 : Int) = (p9 : Int) := IntWalk.i64_in _ (by omega)
  have v4 : IntKind.i64.wrap (p6 : Int) = (p6 : Int) := IntWalk.i64_in _ (by omega)
  obtain ⟨z8, hz8⟩ : ∃ k : Nat, k = z + 8 := ⟨_, rfl⟩
  have v5 : IntKind.i64.wrap ((z : Int) + 8) = (z8 : Int) := by rw [IntWalk.i64_in _ (by omega)]; omega
  have nv : ((q : Int) != 4) = false := by rw [bne_eq_false_iff_eq]; omega
  have tbi : decide ((z : Int) < 20) = false := by simp only [decide_eq_false_iff_not]; omega
  have tbn : decide (z < 20) = false := by simp only [decide_eq_false_iff_not]; omega
  have tci : decide ((n : Int) < (z8 : Int)) = false := by simp only [decide_eq_false_iff_not]; omega
  have tcn : decide (n < z8) = false := by simp only [decide_eq_false_iff_not]; omega
  have hf16 : f < 65536 := by rw [← hxf]; exact num_lt' l 6 2 65536 (by decide)
  obtain ⟨fm, hfm⟩ : ∃ k : Nat, f % 16384 = k := ⟨_, rfl⟩
  have v6 : (f : Int) % 16384 = (fm : Int) := by omega
  have v6t : (f : Int).tmod 16384 = (fm : Int) := by rw [Int.tmod_eq_emod_of_nonneg (by omega)]; omega
  have v7 : IntKind.u64.wrap (fm : Int) = (fm : Int) := IntWalk.u64_in _ (by omega)
  have nf : ((fm : Int) != 0) = false := by rw [bne_eq_false_iff_eq]; omega
  have HG := Lib.hid (fun w (h : Rb w (some ⟨b, off, none⟩) n c l) => refGetV _ n c l 6 2 6 2 f w h rfl rfl hxf (by omega) (by omega) (by omega))
  have n6 : ((p9 : Int) != 6) = false := by rw [bne_eq_false_iff_eq]; omega
  have n6e : ((p9 : Int) == 6) = true := by rw [beq_iff_eq]; omega
  have wu8 : IntKind.u8.wrap (p9 : Int) = (p9 : Int) := IntWalk.u8_in _ (by omega)
  have wm8 : (p9 : Int) % 256 = (p9 : Int) := by omega
  have hsp16 : sp < 65536 := by rw [← hsp]; exact num_lt' l _ 2 65536 (by decide)
  have hdp16 : dp < 65536 := by rw [← hdp]; exact num_lt' l _ 2 65536 (by decide)
  have wsp : IntKind.u16.wrap (sp : Int) = (sp : Int) := IntWalk.u16_in _ (by omega)
  have wdp : IntKind.u16.wrap (dp : Int) = (dp : Int) := IntWalk.u16_in _ (by omega)
  have htv : resT (stampsAt o1) = .int .i64 (-1) := by rw [hSt]; rfl
  have HT := Lib.hid (fun A n c w (h : Rb w A n c o1) => (by have := refStamps_any A n c o1 w h (by rw [← h.1]; exact hol); rwa [htv] at this : Calls Try.prog 57 #[.slice A n c] w fun e w' => e = .returned (.int .i64 (-1)) ∧ w = w'))
  have hz4 : 4 * (x % 16) = z := by omega
  rw [hz4] at hsp hdp HPA
  obtain ⟨z2, hz2⟩ : ∃ k : Nat, k = z + 2 := ⟨_, rfl⟩
  have wz2 : IntKind.i64.wrap ((z : Int) + 2) = (z2 : Int) := by rw [IntWalk.i64_in _ (by omega)]; omega
  rw [← hz2] at hdp
  have jz0 : (0 : Int) ≤ (z : Int) := by omega
  have jzn : (z : Int) ≤ (n : Int) := by omega
  have HSP := Lib.hid (fun w (h : Rb w (some ⟨b, off, none⟩) n c l) => refGetV _ n c l (z : Int) 2 z 2 sp w h rfl rfl hsp (by omega) (by omega) (by omega))
  have HDP := Lib.hid (fun w (h : Rb w (some ⟨b, off, none⟩) n c l) => refGetV _ n c l (z2 : Int) 2 z2 2 dp w h rfl rfl hdp (by omega) (by omega) (by omega))
  have j12a : (16 : Int) ≤ (c : Int) := by omega
  have j12b : (20 : Int) ≤ (c : Int) := by omega
  replace H1 := Lib.hid H1
  replace H2 := Lib.hid H2
  replace HPA := Lib.hid HPA
  subst hE
  clear hv hs8 hp hx hx9 hx6 hxf hq hm0 hz hz8 hm hn hsp hdp hsp16 hdp16 htv hol hs hf hfm hf16 hz2 hz4 hSt
  have b4 : Bk (w.alloc (.cells #[.bool false, .int .u64 0, .int .u64 0, .bool false, .int .u64 0, .int .u64 0, .int .u16 0, .int .u16 0, .int .u8 0, .int .u32 0, .bool false] 35)) w.heap.size 35 (qC false 0 0 false 0 0 0 0 0 0 false) := Bk.new w 35 #[.bool false, .int .u64 0, .int .u64 0, .bool false, .int .u64 0, .int .u64 0, .int .u16 0, .int .u16 0, .int .u8 0, .int .u32 0, .bool false]
  have be : Below w.heap.size w (w.alloc (.cells #[.bool false, .int .u64 0, .int .u64 0, .bool false, .int .u64 0, .int .u64 0, .int .u16 0, .int .u16 0, .int .u8 0, .int .u32 0, .bool false] 35)) := Below.allocS (Below.refl _ _) _
  have yV0 := (be.cell (p := ⟨b, off, none⟩) hbl).trans y0
  have yV9 := (be.cell (p := ⟨b, off + 9, none⟩) hbl).trans y9
  have yV6 := (be.cell (p := ⟨b, off + 6, none⟩) hbl).trans y6
  have zV := be.size
  clear hcell y0 y9 y6
  go_enter Try.func14, Try.ntmps14
  go_upto_region 3 with (fail)
  generalize w.alloc (.cells #[.bool false, .int .u64 0, .int .u64 0, .bool false, .int .u64 0, .int .u64 0, .int .u16 0, .int .u16 0, .int .u8 0, .int .u32 0, .bool false] 35) = V at *
  have zb : b < V.heap.size := by omega
  go_wp2
  refine wp_relS 15 143 rfl (by kernel_rfl) (by kernel_rfl) ?_
  apply Steps.one (MP.eq _) 1 rfl
  · intro o ho FA x hO hD K hK
    obtain rfl := Option.some.inj ho.symm
    clear ho
    have e0 := hO 0 (by kernel_rfl)
    simp only [eval_tmp, List.getElem?_toArray, List.getElem?_cons_succ, List.getElem?_cons_zero, Option.getD_some] at e0
    have ev0 := Lib.hid ((eval_tmp FA 0).trans e0)
    clear hO hD
    go_simp
    exact hK.out _ _ (Ex.refl _) rfl
  apply Steps.one (MP.eq _) 2 rfl
  · intro o ho FA x hO hD K hK
    obtain rfl := Option.some.inj ho.symm
    clear ho
    have ev19 : FA.eval (.tmp 19) = _ := hD 0 19 (by kernel_rfl)
    have e19 := (eval_tmp FA 19).symm.trans ev19
    replace ev19 := Lib.hid ev19
    clear hO hD
    go_simp
    exact hK.out _ _ (Ex.refl _) rfl
  apply Steps.one (MP.eq _) 3 rfl
  · intro o ho FA x hO hD K hK
    obtain rfl := Option.some.inj ho.symm
    clear ho
    have ev20 : FA.eval (.tmp 20) = _ := hD 1 20 (by kernel_rfl)
    have e20 := (eval_tmp FA 20).symm.trans ev20
    replace ev20 := Lib.hid ev20
    clear hO hD
    go_simp
    exact hK.out _ _ (Ex.refl _) rfl
  apply Steps.one (MP.eq _) 4 rfl
  · intro o ho FA x hO hD K hK
    obtain rfl := Option.some.inj ho.symm
    clear ho
    have ev21 : FA.eval (.tmp 21) = _ := hD 2 21 (by kernel_rfl)
    have e21 := (eval_tmp FA 21).symm.trans ev21
    replace ev21 := Lib.hid ev21
    clear hO hD
    go_simp
    exact hK.out _ _ (Ex.refl _) rfl
  apply Steps.one (MP.eq _) 5 rfl
  · intro o ho FA x hO hD K hK
    obtain rfl := Option.some.inj ho.symm
    clear ho
    have ev22 : FA.eval (.tmp 22) = _ := hD 3 22 (by kernel_rfl)
    have e22 := (eval_tmp FA 22).symm.trans ev22
    replace ev22 := Lib.hid ev22
    clear hO hD
    go_simp
    exact hK.out _ _ (Ex.refl _) rfl
  apply Steps.one (MP.eq _) 6 rfl
  · intro o ho FA x hO hD K hK
    obtain rfl := Option.some.inj ho.symm
    clear ho
    have ev23 : FA.eval (.tmp 23) = _ := hD 4 23 (by kernel_rfl)
    have e23 := (eval_tmp FA 23).symm.trans ev23
    replace ev23 := Lib.hid ev23
    clear hO hD
    go_simp
    exact hK.out _ _ (Ex.refl _) rfl
  apply Steps.one (MP.eq _) 7 rfl
  · intro o ho FA x hO hD K hK
    obtain rfl := Option.some.inj ho.symm
    clear ho
    have e0 := hO 0 (by kernel_rfl)
    simp only [eval_tmp, List.getElem?_toArray, List.getElem?_cons_succ, List.getElem?_cons_zero, Option.getD_some] at e0
    have ev0 := Lib.hid ((eval_tmp FA 0).trans e0)
    clear hO hD
    go_simp
    exact hK.out _ _ (Ex.refl _) rfl
  apply Steps.one (MP.eq _) 8 rfl
  · intro o ho FA x hO hD K hK
    obtain rfl := Option.some.inj ho.symm
    clear ho
    have ev25 : FA.eval (.tmp 25) = _ := hD 6 25 (by kernel_rfl)
    have e25 := (eval_tmp FA 25).symm.trans ev25
    replace ev25 := Lib.hid ev25
    clear hO hD
    go_simp
    exact hK.out _ _ (Ex.refl _) rfl
  apply Steps.one (MP.eq _) 9 rfl
  · intro o ho FA x hO hD K hK
    obtain rfl := Option.some.inj ho.symm
    clear ho
    have ev26 : FA.eval (.tmp 26) = _ := hD 7 26 (by kernel_rfl)
    have e26 := (eval_tmp FA 26).symm.trans ev26
    replace ev26 := Lib.hid ev26
    clear hO hD
    go_simp
    exact hK.out _ _ (Ex.refl _) rfl
  apply Steps.one (MP.eq _) 10 rfl
  · intro o ho FA x hO hD K hK
    obtain rfl := Option.some.inj ho.symm
    clear ho
    have ev27 : FA.eval (.tmp 27) = _ := hD 8 27 (by kernel_rfl)
    have e27 := (eval_tmp FA 27).symm.trans ev27
    replace ev27 := Lib.hid ev27
    clear hO hD
    go_simp
    exact hK.out _ _ (Ex.refl _) rfl
  apply Steps.one (MP.eq _) 11 rfl
  · intro o ho FA x hO hD K hK
    obtain rfl := Option.some.inj ho.symm
    clear ho
    have ev24 : FA.eval (.tmp 24) = _ := hD 5 24 (by kernel_rfl)
    have e24 := (eval_tmp FA 24).symm.trans ev24
    replace ev24 := Lib.hid ev24
    clear hO hD
    go_simp
    exact hK.out _ _ (Ex.refl _) rfl
  apply Steps.one (MP.eq _) 12 rfl
  · intro o ho FA x hO hD K hK
    obtain rfl := Option.some.inj ho.symm
    clear ho
    clear hO hD
    go_simp
    exact hK.out _ _ (Ex.refl _) rfl
  apply Steps.one (MP.eq _) 13 rfl
  · intro o ho FA x hO hD K hK
    obtain rfl := Option.some.inj ho.symm
    clear ho
    clear hO hD
    go_simp
    exact hK.out _ _ (Ex.refl _) rfl
  apply Steps.one (MP.eq _) 14 rfl
  · intro o ho FA x hO hD K hK
    obtain rfl := Option.some.inj ho.symm
    clear ho
    have ev28 : FA.eval (.tmp 28) = _ := hD 9 28 (by kernel_rfl)
    have e28 := (eval_tmp FA 28).symm.trans ev28
    replace ev28 := Lib.hid ev28
    clear hO hD
    go_simp
    exact hK.out _ _ (Ex.refl _) rfl
  apply Steps.one (MP.eq _) 15 rfl
  · intro o ho FA x hO hD K hK
    obtain rfl := Option.some.inj ho.symm
    clear ho
    clear hO hD
    go_simp
    exact hK.out _ _ (Ex.refl _) rfl
  refine Steps.fin_ (fun vs x hp => ?_)
  have p0 : vs 0 = _ := hp 0 (by omega)
  have p1 : vs 1 = _ := hp 1 (by omega)
  have p2 : vs 2 = _ := hp 2 (by omega)
  have p3 : vs 3 = _ := hp 3 (by omega)
  have p4 : vs 4 = _ := hp 4 (by omega)
  have p5 : vs 5 = _ := hp 5 (by omega)
  have p6 : vs 6 = _ := hp 6 (by omega)
  have p7 : vs 7 = _ := hp 7 (by omega)
  have p8 : vs 8 = _ := hp 8 (by omega)
  have p9 : vs 9 = _ := hp 9 (by omega)
  have p10 : vs 10 = _ := hp 10 (by omega)
  have p11 : vs 11 = _ := hp 11 (by omega)
  have p12 : vs 12 = _ := hp 12 (by omega)
  have p13 : vs 13 = _ := hp 13 (by omega)
  have p14 : vs 14 = _ := hp 14 (by omega)
  clear hp
  simp only [List.take_succ_cons, List.take_zero, List.drop_succ_cons, List.drop_zero, putAll, Nat.zero_add, Nat.reduceAdd, Act.put, List.setIfInBounds_toArray, List.set_cons_zero, List.set_cons_succ, p0, p1, p2, p3, p4, p5, p6, p7, p8, p9, p10, p11, p12, p13, p14]
  clear p0 p1 p2 p3 p4 p5 p6 p7 p8 p9 p10 p11 p12 p13 p14
  clear vs
  have zs := be.size
  have yW0 := (cell_plus V x.bs x.d b off zb).trans yV0
  have yW6 := (cell_plus V x.bs x.d b (off + 6) zb).trans yV6
  replace be := belowP be x.bs x.d
  replace b4 := b4.later (below_plus _ x.bs x.d)
  clear yV0 yV6 yV9
  generalize plus V x.bs x.d = V1 at *
  have zb1 : b < V1.heap.size := Nat.lt_of_lt_of_le hbl be.size
  go_upto_region 9 with (first
    | (go_at_call 54; refine (HG.out _ (h.later be)).mono ?_; rintro e w1 ⟨rfl, rfl⟩)
    | (refine at_op (.store 35 (.tmp 11) (.tmp 70)) rfl ?_; refine wpList_stA (t := 35) 35 (.tmp 11) (.tmp 70) rfl rfl (qC false 0 0 false 0 0 0 0 0 0 false) (qC false 0 0 false 0 0 0 0 0 0 false) rfl (qC_one _ _ _ _ _ _ _ _ _ _ _) rfl rfl ?_ (szRQ _ _ _ _ _ _ _ _ _ _ _) ?_; (· refine Bk.newK _ _ _ ?_ rfl; simp [size_plus]); intro W1 hX g1))
  have z1 := be.size
  have z4 := b4.lt
  have b1 := below_grown (Below.allocS (Below.refl V1.heap.size V1) _) g1 (Nat.le_refl _)
  replace be := be.trans (b1.mono z1)
  replace b4 := b4.later b1
  have hg : w.heap.size < V1.heap.size := by omega
  clear b1 g1
  generalize V1.heap.size = g11 at *
  have zX := hX.lt
  go_upto_region 10 with (first
    | (go_at_call 55; (with_reducible refine (H1.out _ be).mono ?_); rintro e w1 ⟨bs0, ds0, rfl, rfl⟩)
    | (replace hX := hX.later (below_plus _ bs0 ds0); (refine at_op (.store 26 (.tmp 82) (.tmp 79)) rfl ?_; refine wpList_stM (t := 35) 26 (.tmp 82) (.tmp 79) rfl rfl (adC s1 h1 l1) _ (by simp [adC, qC]) (adC_one _ _ _) rfl rfl hX (szAd _ _ _) ?_; intro W2 hX0 gx0)))
  simp only [splice, adC, qC, List.take_succ_cons, List.take_zero, List.drop_succ_cons, List.drop_zero, List.length_cons, List.length_nil, Nat.zero_add, Nat.reduceAdd, List.cons_append, List.nil_append] at hX0
  replace b4 := (b4.later (below_plus _ bs0 ds0)).grown gx0 (by simp; omega)
  replace be := below_grown (belowP be bs0 ds0) gx0 (by omega)
  clear hX gx0
  have hX := hX0
  clear hX0
  have zX := hX.lt
  go_upto_region 11 with (first
    | (go_at_call 55; (with_reducible refine (H2.out _ be).mono ?_); rintro e w1 ⟨bs1, ds1, rfl, rfl⟩)
    | (replace hX := hX.later (below_plus _ bs1 ds1); (refine at_op (.store 26 (.tmp 97) (.tmp 94)) rfl ?_; refine wpList_stM (t := 35) 26 (.tmp 97) (.tmp 94) rfl rfl (adC s2 h2 l2) _ (by simp [adC, qC]) (adC_one _ _ _) rfl rfl hX (szAd _ _ _) ?_; intro W3 hX1 gx1)))
  simp only [splice, adC, qC, List.take_succ_cons, List.take_zero, List.drop_succ_cons, List.drop_zero, List.length_cons, List.length_nil, Nat.zero_add, Nat.reduceAdd, List.cons_append, List.nil_append] at hX1
  replace b4 := (b4.later (below_plus _ bs1 ds1)).grown gx1 (by simp; omega)
  replace be := below_grown (belowP be bs1 ds1) gx1 (by omega)
  clear hX gx1
  have hX := hX1
  clear hX1
  have zX := hX.lt
  go_upto_region 12 with (refine at_op (.store 5 (.tmp 101) (.tmp 99)) rfl ?_; refine wpList_st1 5 (.tmp 101) (.tmp 99) rfl rfl rfl rfl hX (by simp [qC]) rfl (by kernel_rfl) ?_; intro W4 hX4 g4)
  replace b4 := b4.grown g4 (by simp; omega)
  replace be := below_grown be g4 (by omega)
  simp only [List.set_cons_succ, List.set_cons_zero] at hX4
  clear hX g4
  go_upto_region 13 with (first
    | (go_at_call 54; (with_reducible refine (HSP.out _ (h.later be)).mono ?_); rintro e w1 ⟨rfl, rfl⟩)
    | (refine at_op (.store 27 (.tmp 107) (.tmp 105)) rfl ?_; refine wpList_st1 27 (.tmp 107) (.tmp 105) rfl rfl rfl rfl hX4 (by simp [qC]) rfl (by kernel_rfl) ?_; intro W5 hX5 g5))
  replace b4 := b4.grown g5 (by simp; omega)
  replace be := below_grown be g5 (by omega)
  simp only [List.set_cons_succ, List.set_cons_zero] at hX5
  clear hX4 g5
  go_upto_region 14 with (first
    | (go_at_call 54; (with_reducible refine (HDP.out _ (h.later be)).mono ?_); rintro e w1 ⟨rfl, rfl⟩)
    | (refine at_op (.store 27 (.tmp 114) (.tmp 112)) rfl ?_; refine wpList_st1 27 (.tmp 114) (.tmp 112) rfl rfl rfl rfl hX5 (by simp [qC]) rfl (by kernel_rfl) ?_; intro W6 hX6 g6))
  replace b4 := b4.grown g6 (by simp; omega)
  replace be := below_grown be g6 (by omega)
  simp only [List.set_cons_succ, List.set_cons_zero] at hX6
  clear hX5 g6
  have z6 := be.size
  have z46 := b4.lt
  have zX6 := hX6.lt
  go_wp2_with fail
  refine (HPA.out _ be).mono ?_
  rintro e w1 ⟨Ao, no, ko, Ap, np, kp, bs7, d7, rfl, rfl, ho, -⟩
  go_upto_region 15 with (refine at_op (.store 56 (.tmp 12) (.tmp 120)) rfl ?_; refine wpList_stA (t := 56) 56 (.tmp 12) (.tmp 120) rfl rfl ([.int .u16 (x0 : Int), .int .u16 (x1 : Int), .int .u32 (x2 : Int), .int .u32 (x3 : Int), .int .u8 (x4 : Int), .int .u16 (x5 : Int), .int .u16 (x6 : Int), .int .u16 (x7 : Int), .slice Ao no ko, .slice Ap np kp]) ([.int .u16 0, .int .u16 0, .int .u32 0, .int .u32 0, .int .u8 0, .int .u16 0, .int .u16 0, .int .u16 0, .slice none 0 0, .slice none 0 0]) rfl (by simp [Value.oneCell']) rfl rfl ?_ (by kernel_rfl) ?_; (· refine Bk.newK _ _ _ ?_ rfl; simp [size_plus]); intro W7 hS g7)
  have b7 := below_grown (Below.allocS (below_plus W6 bs7 d7) _) g7 (by omega)
  replace be := be.trans (b7.mono z6)
  replace b4 := b4.later b7
  replace hX6 := hX6.later b7
  replace ho := ho.later (below_grown (Below.allocS (Below.refl _ _) _) g7 (by simp [size_plus]))
  clear b7 g7
  generalize W6.heap.size + bs7.length = g12 at *
  have yo : W7.cell? ⟨g12, 8, none⟩ = some (.slice Ao no ko) := hS.cell 8
  have zS := hS.lt
  go_wp2_with fail
  refine (HT.out _ _ _ _ ho).mono ?_
  rintro e w1 ⟨rfl, rfl⟩
  replace hX6 : Bk W7 g11 35 (qC s1 h1 l1 s2 h2 l2 sp dp p9 0 false) := hX6
  go_wp2_with (first
    | (refine at_op (.load 35 (.tmp 11)) rfl ?_; refine wpList_ldA (t := 35) 35 (.tmp 11) rfl rfl (qC s1 h1 l1 s2 h2 l2 sp dp p9 0 false) rfl (hX6) (whole_ _) r1 r2 (szRQ _ _ _ _ _ _ _ _ _ _ _) ?_)
    | (refine at_op (.store 35 (.tmp 4) (.tmp 142)) rfl ?_; refine wpList_stA (t := 35) 35 (.tmp 4) (.tmp 142) rfl rfl (qC s1 h1 l1 s2 h2 l2 sp dp p9 0 false) (qC false 0 0 false 0 0 0 0 0 0 false) rfl (qC_one _ _ _ _ _ _ _ _ _ _ _) rfl rfl b4 (szRQ _ _ _ _ _ _ _ _ _ _ _) ?_; intro W9 h9 g9))
  refine bodyPost_agg2 Try.results14 rfl rfl h9.range r1 r2 (szRQ _ _ _ _ _ _ _ _ _ _ _) rfl (RetV.mk ?_)
  exact below_grown be g9 (by omega)
set_option maxHeartbeats 4000000 in
set_option maxRecDepth 100000 in
theorem refRead4_6s (A : Option Addr) (n c : Nat) (l : List UInt8) (w : World) (h : Rb w A n c l) (hm : n ≤ 1000000) (x p9 p6 f : Nat) (hx : num ((l.drop 0).take 1) = x) (hx9 : num ((l.drop 9).take 1) = p9) (hx6 : num ((l.drop 6).take 1) = p6) (hxf : num ((l.drop 6).take 2) = f) (hn : 20 ≤ n) (hv : x / 16 = 4) (hs : 20 ≤ 4 * (x % 16)) (hs8 : 4 * (x % 16) + 8 ≤ n) (hf : f % 16384 = 0) (hp : p9 = 6) (s1 : Bool) (h1 l1 : Nat) (s2 : Bool) (h2 l2 sp dp : Nat) (x0 x1 x2 x3 x4 x5 x6 x7 : Nat) (o1 o2 : List UInt8) (E : Int) (at_ v : Nat) (hE : E = 0) (hSt : stampsAt o1 = some at_) (hv_ : num ((o1.drop at_).take 4) = v) (hsp : num ((l.drop (4 * (x % 16))).take 2) = sp) (hdp : num ((l.drop ((4 * (x % 16)) + 2)).take 2) = dp) (hol : o1.length ≤ 1000000) (H1 : ∀ w', Below w.heap.size w w' → Calls Try.prog 55 #[.slice (cutA A c 12 1) 4 (c - 12)] w' (RetV w' (.tuple #[.agg (adC s1 h1 l1).toArray, .bool true]))) (H2 : ∀ w', Below w.heap.size w w' → Calls Try.prog 55 #[.slice (cutA A c 16 1) 4 (c - 16)] w' (RetV w' (.tuple #[.agg (adC s2 h2 l2).toArray, .bool true]))) (HPA : ∀ w', Below w.heap.size w w' → Calls Try.prog 56 #[.slice (cutA A c (4 * (x % 16)) 1) (n - (4 * (x % 16))) (c - (4 * (x % 16)))] w' (RetSeg w' x0 x1 x2 x3 x4 x5 x6 x7 o1 o2 (.int .i64 E))) : Calls Try.prog 14 #[.slice A n c, .bool false] w (RetV w (.tuple #[.agg (qC s1 h1 l1 s2 h2 l2 sp dp p9 v true).toArray, .bool true])) := by
  obtain ⟨dq, r1, r2⟩ := rowRQ
  have hc := h.2.1
  have hl := h.1
  obtain ⟨b, off, rfl, hbl, hcell⟩ := h.2.2.at_ (by rw [bcs_length, h.1]; omega)
  have y0 := num_cell hcell 0 (by omega)
  rw [hx, Nat.add_zero] at y0
  have y9 := num_cell hcell 9 (by omega)
  have y6 := num_cell hcell 6 (by omega)
  rw [hx9] at y9
  rw [hx6] at y6
  have hx8 : x < 256 := by rw [← hx]; exact num_lt' l 0 1 256 (by decide)
  have hp9 : p9 < 256 := by rw [← hx9]; exact num_lt' l 9 1 256 (by decide)
  have hp6 : p6 < 256 := by rw [← hx6]; exact num_lt' l 6 1 256 (by decide)
  have i0 : (0 : Int) < (n : Int) := by omega
  have i0n : 0 < n := by omega
  have i6 : (6 : Int) < (n : Int) := by omega
  have i6n : 6 < n := by omega
  have i9 : (9 : Int) < (n : Int) := by omega
  have i9n : 9 < n := by omega
  have tai : decide ((n : Int) < 20) = false := by simp only [decide_eq_false_iff_not]; omega
  have tan : decide (n < 20) = false := by simp only [decide_eq_false_iff_not]; omega
  obtain ⟨q, hq⟩ : ∃ q : Nat, q = x / 16 := ⟨_, rfl⟩
  have e1 : (x : Int) / 16 = (q : Int) := by omega
  have e1m : (q : Int) % 256 = (q : Int) := by omega
  obtain ⟨m, hm0⟩ : ∃ m : Nat, x % 16 = m := ⟨_, rfl⟩
  have v0 : (x : Int) % 16 = (m : Int) := by omega
  have v0t : (x : Int).tmod 16 = (m : Int) := by rw [Int.tmod_eq_emod_of_nonneg (by omega)]; omega
  have v1 : IntKind.i64.wrap (m : Int) = (m : Int) := IntWalk.i64_in _ (by omega)
  obtain ⟨z, hz⟩ : ∃ z : Nat, z = 4 * m := ⟨_, rfl⟩
  have v2 : IntKind.i64.wrap ((m : Int) * 4) = (z : Int) := by rw [IntWalk.i64_in _ (by omega)]; omega
  have v3 : IntKind.i64.wrap (p9 : Int) = (p9 : Int) := IntWalk.i64_in _ (by omega)
  have v4 : IntKind.i64.wrap (p6 : Int) = (p6 : Int) := IntWalk.i64_in _ (by omega)
  obtain ⟨z8, hz8⟩ : ∃ k : Nat, k = z + 8 := ⟨_, rfl⟩
  have v5 : IntKind.i64.wrap ((z : Int) + 8) = (z8 : Int) := by rw [IntWalk.i64_in _ (by omega)]; omega
  have nv : ((q : Int) != 4) = false := by rw [bne_eq_false_iff_eq]; omega
  have tbi : decide ((z : Int) < 20) = false := by simp only [decide_eq_false_iff_not]; omega
  have tbn : decide (z < 20) = false := by simp only [decide_eq_false_iff_not]; omega
  have tci : decide ((n : Int) < (z8 : Int)) = false := by simp only [decide_eq_false_iff_not]; omega
  have tcn : decide (n < z8) = false := by simp only [decide_eq_false_iff_not]; omega
  have hf16 : f < 65536 := by rw [← hxf]; exact num_lt' l 6 2 65536 (by decide)
  obtain ⟨fm, hfm⟩ : ∃ k : Nat, f % 16384 = k := ⟨_, rfl⟩
  have v6 : (f : Int) % 16384 = (fm : Int) := by omega
  have v6t : (f : Int).tmod 16384 = (fm : Int) := by rw [Int.tmod_eq_emod_of_nonneg (by omega)]; omega
  have v7 : IntKind.u64.wrap (fm : Int) = (fm : Int) := IntWalk.u64_in _ (by omega)
  have nf : ((fm : Int) != 0) = false := by rw [bne_eq_false_iff_eq]; omega
  have HG := Lib.hid (fun w (h : Rb w (some ⟨b, off, none⟩) n c l) => refGetV _ n c l 6 2 6 2 f w h rfl rfl hxf (by omega) (by omega) (by omega))
  have n6 : ((p9 : Int) != 6) = false := by rw [bne_eq_false_iff_eq]; omega
  have n6e : ((p9 : Int) == 6) = true := by rw [beq_iff_eq]; omega
  have wu8 : IntKind.u8.wrap (p9 : Int) = (p9 : Int) := IntWalk.u8_in _ (by omega)
  have wm8 : (p9 : Int) % 256 = (p9 : Int) := by omega
  have hsp16 : sp < 65536 := by rw [← hsp]; exact num_lt' l _ 2 65536 (by decide)
  have hdp16 : dp < 65536 := by rw [← hdp]; exact num_lt' l _ 2 65536 (by decide)
  have wsp : IntKind.u16.wrap (sp : Int) = (sp : Int) := IntWalk.u16_in _ (by omega)
  have wdp : IntKind.u16.wrap (dp : Int) = (dp : Int) := IntWalk.u16_in _ (by omega)
  have htv : resT (stampsAt o1) = .int .i64 (at_ : Int) := by rw [hSt]; rfl
  have HT := Lib.hid (fun A n c w (h : Rb w A n c o1) => (by have := refStamps_any A n c o1 w h (by rw [← h.1]; exact hol); rwa [htv] at this : Calls Try.prog 57 #[.slice A n c] w fun e w' => e = .returned (.int .i64 (at_ : Int)) ∧ w = w'))
  have hz4 : 4 * (x % 16) = z := by omega
  rw [hz4] at hsp hdp HPA
  obtain ⟨z2, hz2⟩ : ∃ k : Nat, k = z + 2 := ⟨_, rfl⟩
  have wz2 : IntKind.i64.wrap ((z : Int) + 2) = (z2 : Int) := by rw [IntWalk.i64_in _ (by omega)]; omega
  rw [← hz2] at hdp
  have jz0 : (0 : Int) ≤ (z : Int) := by omega
  have jzn : (z : Int) ≤ (n : Int) := by omega
  have hat8 := stp_found _ _ _ _ hSt
  have hv32 : v < 4294967296 := by rw [← hv_]; exact num_lt' o1 _ 4 4294967296 (by decide)
  have wv : IntKind.u32.wrap (v : Int) = (v : Int) := IntWalk.u32_in _ (by omega)
  have dat : decide ((0 : Int) ≤ (at_ : Int)) = true := by simp only [decide_eq_true_eq]; omega
  have HGO := Lib.hid (fun A n c w (h : Rb w A n c o1) => refGetV A n c o1 (at_ : Int) 4 at_ 4 v w h rfl rfl hv_ (by rw [← h.1]; omega) (by rw [← h.1]; omega) (by decide))
  have HSP := Lib.hid (fun w (h : Rb w (some ⟨b, off, none⟩) n c l) => refGetV _ n c l (z : Int) 2 z 2 sp w h rfl rfl hsp (by omega) (by omega) (by omega))
  have HDP := Lib.hid (fun w (h : Rb w (some ⟨b, off, none⟩) n c l) => refGetV _ n c l (z2 : Int) 2 z2 2 dp w h rfl rfl hdp (by omega) (by omega) (by omega))
  have j12a : (16 : Int) ≤ (c : Int) := by omega
  have j12b : (20 : Int) ≤ (c : Int) := by omega
  replace H1 := Lib.hid H1
  replace H2 := Lib.hid H2
  replace HPA := Lib.hid HPA
  subst hE
  clear hv hs8 hp hx hx9 hx6 hxf hq hm0 hz hz8 hm hn hsp hdp hsp16 hdp16 htv hol hs hf hfm hf16 hz2 hz4 hSt hv_ hat8 hv32
  have b4 : Bk (w.alloc (.cells #[.bool false, .int .u64 0, .int .u64 0, .bool false, .int .u64 0, .int .u64 0, .int .u16 0, .int .u16 0, .int .u8 0, .int .u32 0, .bool false] 35)) w.heap.size 35 (qC false 0 0 false 0 0 0 0 0 0 false) := Bk.new w 35 #[.bool false, .int .u64 0, .int .u64 0, .bool false, .int .u64 0, .int .u64 0, .int .u16 0, .int .u16 0, .int .u8 0, .int .u32 0, .bool false]
  have be : Below w.heap.size w (w.alloc (.cells #[.bool false, .int .u64 0, .int .u64 0, .bool false, .int .u64 0, .int .u64 0, .int .u16 0, .int .u16 0, .int .u8 0, .int .u32 0, .bool false] 35)) := Below.allocS (Below.refl _ _) _
  have yV0 := (be.cell (p := ⟨b, off, none⟩) hbl).trans y0
  have yV9 := (be.cell (p := ⟨b, off + 9, none⟩) hbl).trans y9
  have yV6 := (be.cell (p := ⟨b, off + 6, none⟩) hbl).trans y6
  have zV := be.size
  clear hcell y0 y9 y6
  go_enter Try.func14, Try.ntmps14
  go_upto_region 3 with (fail)
  generalize w.alloc (.cells #[.bool false, .int .u64 0, .int .u64 0, .bool false, .int .u64 0, .int .u64 0, .int .u16 0, .int .u16 0, .int .u8 0, .int .u32 0, .bool false] 35) = V at *
  have zb : b < V.heap.size := by omega
  go_wp2
  refine wp_relS 15 143 rfl (by kernel_rfl) (by kernel_rfl) ?_
  apply Steps.one (MP.eq _) 1 rfl
  · intro o ho FA x hO hD K hK
    obtain rfl := Option.some.inj ho.symm
    clear ho
    have e0 := hO 0 (by kernel_rfl)
    simp only [eval_tmp, List.getElem?_toArray, List.getElem?_cons_succ, List.getElem?_cons_zero, Option.getD_some] at e0
    have ev0 := Lib.hid ((eval_tmp FA 0).trans e0)
    clear hO hD
    go_simp
    exact hK.out _ _ (Ex.refl _) rfl
  apply Steps.one (MP.eq _) 2 rfl
  · intro o ho FA x hO hD K hK
    obtain rfl := Option.some.inj ho.symm
    clear ho
    have ev19 : FA.eval (.tmp 19) = _ := hD 0 19 (by kernel_rfl)
    have e19 := (eval_tmp FA 19).symm.trans ev19
    replace ev19 := Lib.hid ev19
    clear hO hD
    go_simp
    exact hK.out _ _ (Ex.refl _) rfl
  apply Steps.one (MP.eq _) 3 rfl
  · intro o ho FA x hO hD K hK
    obtain rfl := Option.some.inj ho.symm
    clear ho
    have ev20 : FA.eval (.tmp 20) = _ := hD 1 20 (by kernel_rfl)
    have e20 := (eval_tmp FA 20).symm.trans ev20
    replace ev20 := Lib.hid ev20
    clear hO hD
    go_simp
    exact hK.out _ _ (Ex.refl _) rfl
  apply Steps.one (MP.eq _) 4 rfl
  · intro o ho FA x hO hD K hK
    obtain rfl := Option.some.inj ho.symm
    clear ho
    have ev21 : FA.eval (.tmp 21) = _ := hD 2 21 (by kernel_rfl)
    have e21 := (eval_tmp FA 21).symm.trans ev21
    replace ev21 := Lib.hid ev21
    clear hO hD
    go_simp
    exact hK.out _ _ (Ex.refl _) rfl
  apply Steps.one (MP.eq _) 5 rfl
  · intro o ho FA x hO hD K hK
    obtain rfl := Option.some.inj ho.symm
    clear ho
    have ev22 : FA.eval (.tmp 22) = _ := hD 3 22 (by kernel_rfl)
    have e22 := (eval_tmp FA 22).symm.trans ev22
    replace ev22 := Lib.hid ev22
    clear hO hD
    go_simp
    exact hK.out _ _ (Ex.refl _) rfl
  apply Steps.one (MP.eq _) 6 rfl
  · intro o ho FA x hO hD K hK
    obtain rfl := Option.some.inj ho.symm
    clear ho
    have ev23 : FA.eval (.tmp 23) = _ := hD 4 23 (by kernel_rfl)
    have e23 := (eval_tmp FA 23).symm.trans ev23
    replace ev23 := Lib.hid ev23
    clear hO hD
    go_simp
    exact hK.out _ _ (Ex.refl _) rfl
  apply Steps.one (MP.eq _) 7 rfl
  · intro o ho FA x hO hD K hK
    obtain rfl := Option.some.inj ho.symm
    clear ho
    have e0 := hO 0 (by kernel_rfl)
    simp only [eval_tmp, List.getElem?_toArray, List.getElem?_cons_succ, List.getElem?_cons_zero, Option.getD_some] at e0
    have ev0 := Lib.hid ((eval_tmp FA 0).trans e0)
    clear hO hD
    go_simp
    exact hK.out _ _ (Ex.refl _) rfl
  apply Steps.one (MP.eq _) 8 rfl
  · intro o ho FA x hO hD K hK
    obtain rfl := Option.some.inj ho.symm
    clear ho
    have ev25 : FA.eval (.tmp 25) = _ := hD 6 25 (by kernel_rfl)
    have e25 := (eval_tmp FA 25).symm.trans ev25
    replace ev25 := Lib.hid ev25
    clear hO hD
    go_simp
    exact hK.out _ _ (Ex.refl _) rfl
  apply Steps.one (MP.eq _) 9 rfl
  · intro o ho FA x hO hD K hK
    obtain rfl := Option.some.inj ho.symm
    clear ho
    have ev26 : FA.eval (.tmp 26) = _ := hD 7 26 (by kernel_rfl)
    have e26 := (eval_tmp FA 26).symm.trans ev26
    replace ev26 := Lib.hid ev26
    clear hO hD
    go_simp
    exact hK.out _ _ (Ex.refl _) rfl
  apply Steps.one (MP.eq _) 10 rfl
  · intro o ho FA x hO hD K hK
    obtain rfl := Option.some.inj ho.symm
    clear ho
    have ev27 : FA.eval (.tmp 27) = _ := hD 8 27 (by kernel_rfl)
    have e27 := (eval_tmp FA 27).symm.trans ev27
    replace ev27 := Lib.hid ev27
    clear hO hD
    go_simp
    exact hK.out _ _ (Ex.refl _) rfl
  apply Steps.one (MP.eq _) 11 rfl
  · intro o ho FA x hO hD K hK
    obtain rfl := Option.some.inj ho.symm
    clear ho
    have ev24 : FA.eval (.tmp 24) = _ := hD 5 24 (by kernel_rfl)
    have e24 := (eval_tmp FA 24).symm.trans ev24
    replace ev24 := Lib.hid ev24
    clear hO hD
    go_simp
    exact hK.out _ _ (Ex.refl _) rfl
  apply Steps.one (MP.eq _) 12 rfl
  · intro o ho FA x hO hD K hK
    obtain rfl := Option.some.inj ho.symm
    clear ho
    clear hO hD
    go_simp
    exact hK.out _ _ (Ex.refl _) rfl
  apply Steps.one (MP.eq _) 13 rfl
  · intro o ho FA x hO hD K hK
    obtain rfl := Option.some.inj ho.symm
    clear ho
    clear hO hD
    go_simp
    exact hK.out _ _ (Ex.refl _) rfl
  apply Steps.one (MP.eq _) 14 rfl
  · intro o ho FA x hO hD K hK
    obtain rfl := Option.some.inj ho.symm
    clear ho
    have ev28 : FA.eval (.tmp 28) = _ := hD 9 28 (by kernel_rfl)
    have e28 := (eval_tmp FA 28).symm.trans ev28
    replace ev28 := Lib.hid ev28
    clear hO hD
    go_simp
    exact hK.out _ _ (Ex.refl _) rfl
  apply Steps.one (MP.eq _) 15 rfl
  · intro o ho FA x hO hD K hK
    obtain rfl := Option.some.inj ho.symm
    clear ho
    clear hO hD
    go_simp
    exact hK.out _ _ (Ex.refl _) rfl
  refine Steps.fin_ (fun vs x hp => ?_)
  have p0 : vs 0 = _ := hp 0 (by omega)
  have p1 : vs 1 = _ := hp 1 (by omega)
  have p2 : vs 2 = _ := hp 2 (by omega)
  have p3 : vs 3 = _ := hp 3 (by omega)
  have p4 : vs 4 = _ := hp 4 (by omega)
  have p5 : vs 5 = _ := hp 5 (by omega)
  have p6 : vs 6 = _ := hp 6 (by omega)
  have p7 : vs 7 = _ := hp 7 (by omega)
  have p8 : vs 8 = _ := hp 8 (by omega)
  have p9 : vs 9 = _ := hp 9 (by omega)
  have p10 : vs 10 = _ := hp 10 (by omega)
  have p11 : vs 11 = _ := hp 11 (by omega)
  have p12 : vs 12 = _ := hp 12 (by omega)
  have p13 : vs 13 = _ := hp 13 (by omega)
  have p14 : vs 14 = _ := hp 14 (by omega)
  clear hp
  simp only [List.take_succ_cons, List.take_zero, List.drop_succ_cons, List.drop_zero, putAll, Nat.zero_add, Nat.reduceAdd, Act.put, List.setIfInBounds_toArray, List.set_cons_zero, List.set_cons_succ, p0, p1, p2, p3, p4, p5, p6, p7, p8, p9, p10, p11, p12, p13, p14]
  clear p0 p1 p2 p3 p4 p5 p6 p7 p8 p9 p10 p11 p12 p13 p14
  clear vs
  have zs := be.size
  have yW0 := (cell_plus V x.bs x.d b off zb).trans yV0
  have yW6 := (cell_plus V x.bs x.d b (off + 6) zb).trans yV6
  replace be := belowP be x.bs x.d
  replace b4 := b4.later (below_plus _ x.bs x.d)
  clear yV0 yV6 yV9
  generalize plus V x.bs x.d = V1 at *
  have zb1 : b < V1.heap.size := Nat.lt_of_lt_of_le hbl be.size
  go_upto_region 9 with (first
    | (go_at_call 54; refine (HG.out _ (h.later be)).mono ?_; rintro e w1 ⟨rfl, rfl⟩)
    | (refine at_op (.store 35 (.tmp 11) (.tmp 70)) rfl ?_; refine wpList_stA (t := 35) 35 (.tmp 11) (.tmp 70) rfl rfl (qC false 0 0 false 0 0 0 0 0 0 false) (qC false 0 0 false 0 0 0 0 0 0 false) rfl (qC_one _ _ _ _ _ _ _ _ _ _ _) rfl rfl ?_ (szRQ _ _ _ _ _ _ _ _ _ _ _) ?_; (· refine Bk.newK _ _ _ ?_ rfl; simp [size_plus]); intro W1 hX g1))
  have z1 := be.size
  have z4 := b4.lt
  have b1 := below_grown (Below.allocS (Below.refl V1.heap.size V1) _) g1 (Nat.le_refl _)
  replace be := be.trans (b1.mono z1)
  replace b4 := b4.later b1
  have hg : w.heap.size < V1.heap.size := by omega
  clear b1 g1
  generalize V1.heap.size = g11 at *
  have zX := hX.lt
  go_upto_region 10 with (first
    | (go_at_call 55; (with_reducible refine (H1.out _ be).mono ?_); rintro e w1 ⟨bs0, ds0, rfl, rfl⟩)
    | (replace hX := hX.later (below_plus _ bs0 ds0); (refine at_op (.store 26 (.tmp 82) (.tmp 79)) rfl ?_; refine wpList_stM (t := 35) 26 (.tmp 82) (.tmp 79) rfl rfl (adC s1 h1 l1) _ (by simp [adC, qC]) (adC_one _ _ _) rfl rfl hX (szAd _ _ _) ?_; intro W2 hX0 gx0)))
  simp only [splice, adC, qC, List.take_succ_cons, List.take_zero, List.drop_succ_cons, List.drop_zero, List.length_cons, List.length_nil, Nat.zero_add, Nat.reduceAdd, List.cons_append, List.nil_append] at hX0
  replace b4 := (b4.later (below_plus _ bs0 ds0)).grown gx0 (by simp; omega)
  replace be := below_grown (belowP be bs0 ds0) gx0 (by omega)
  clear hX gx0
  have hX := hX0
  clear hX0
  have zX := hX.lt
  go_upto_region 11 with (first
    | (go_at_call 55; (with_reducible refine (H2.out _ be).mono ?_); rintro e w1 ⟨bs1, ds1, rfl, rfl⟩)
    | (replace hX := hX.later (below_plus _ bs1 ds1); (refine at_op (.store 26 (.tmp 97) (.tmp 94)) rfl ?_; refine wpList_stM (t := 35) 26 (.tmp 97) (.tmp 94) rfl rfl (adC s2 h2 l2) _ (by simp [adC, qC]) (adC_one _ _ _) rfl rfl hX (szAd _ _ _) ?_; intro W3 hX1 gx1)))
  simp only [splice, adC, qC, List.take_succ_cons, List.take_zero, List.drop_succ_cons, List.drop_zero, List.length_cons, List.length_nil, Nat.zero_add, Nat.reduceAdd, List.cons_append, List.nil_append] at hX1
  replace b4 := (b4.later (below_plus _ bs1 ds1)).grown gx1 (by simp; omega)
  replace be := below_grown (belowP be bs1 ds1) gx1 (by omega)
  clear hX gx1
  have hX := hX1
  clear hX1
  have zX := hX.lt
  go_upto_region 12 with (refine at_op (.store 5 (.tmp 101) (.tmp 99)) rfl ?_; refine wpList_st1 5 (.tmp 101) (.tmp 99) rfl rfl rfl rfl hX (by simp [qC]) rfl (by kernel_rfl) ?_; intro W4 hX4 g4)
  replace b4 := b4.grown g4 (by simp; omega)
  replace be := below_grown be g4 (by omega)
  simp only [List.set_cons_succ, List.set_cons_zero] at hX4
  clear hX g4
  go_upto_region 13 with (first
    | (go_at_call 54; (with_reducible refine (HSP.out _ (h.later be)).mono ?_); rintro e w1 ⟨rfl, rfl⟩)
    | (refine at_op (.store 27 (.tmp 107) (.tmp 105)) rfl ?_; refine wpList_st1 27 (.tmp 107) (.tmp 105) rfl rfl rfl rfl hX4 (by simp [qC]) rfl (by kernel_rfl) ?_; intro W5 hX5 g5))
  replace b4 := b4.grown g5 (by simp; omega)
  replace be := below_grown be g5 (by omega)
  simp only [List.set_cons_succ, List.set_cons_zero] at hX5
  clear hX4 g5
  go_upto_region 14 with (first
    | (go_at_call 54; (with_reducible refine (HDP.out _ (h.later be)).mono ?_); rintro e w1 ⟨rfl, rfl⟩)
    | (refine at_op (.store 27 (.tmp 114) (.tmp 112)) rfl ?_; refine wpList_st1 27 (.tmp 114) (.tmp 112) rfl rfl rfl rfl hX5 (by simp [qC]) rfl (by kernel_rfl) ?_; intro W6 hX6 g6))
  replace b4 := b4.grown g6 (by simp; omega)
  replace be := below_grown be g6 (by omega)
  simp only [List.set_cons_succ, List.set_cons_zero] at hX6
  clear hX5 g6
  have z6 := be.size
  have z46 := b4.lt
  have zX6 := hX6.lt
  go_wp2_with fail
  refine (HPA.out _ be).mono ?_
  rintro e w1 ⟨Ao, no, ko, Ap, np, kp, bs7, d7, rfl, rfl, ho, -⟩
  go_upto_region 15 with (refine at_op (.store 56 (.tmp 12) (.tmp 120)) rfl ?_; refine wpList_stA (t := 56) 56 (.tmp 12) (.tmp 120) rfl rfl ([.int .u16 (x0 : Int), .int .u16 (x1 : Int), .int .u32 (x2 : Int), .int .u32 (x3 : Int), .int .u8 (x4 : Int), .int .u16 (x5 : Int), .int .u16 (x6 : Int), .int .u16 (x7 : Int), .slice Ao no ko, .slice Ap np kp]) ([.int .u16 0, .int .u16 0, .int .u32 0, .int .u32 0, .int .u8 0, .int .u16 0, .int .u16 0, .int .u16 0, .slice none 0 0, .slice none 0 0]) rfl (by simp [Value.oneCell']) rfl rfl ?_ (by kernel_rfl) ?_; (· refine Bk.newK _ _ _ ?_ rfl; simp [size_plus]); intro W7 hS g7)
  have b7 := below_grown (Below.allocS (below_plus W6 bs7 d7) _) g7 (by omega)
  replace be := be.trans (b7.mono z6)
  replace b4 := b4.later b7
  replace hX6 := hX6.later b7
  replace ho := ho.later (below_grown (Below.allocS (Below.refl _ _) _) g7 (by simp [size_plus]))
  clear b7 g7
  generalize W6.heap.size + bs7.length = g12 at *
  have yo : W7.cell? ⟨g12, 8, none⟩ = some (.slice Ao no ko) := hS.cell 8
  have zS := hS.lt
  go_wp2_with fail
  refine (HT.out _ _ _ _ ho).mono ?_
  rintro e w1 ⟨rfl, rfl⟩
  replace hX6 : Bk W7 g11 35 (qC s1 h1 l1 s2 h2 l2 sp dp p9 0 false) := hX6
  have zX7 := hX6.lt
  go_upto_region 18 with (first
    | (go_at_call 54; (with_reducible refine (HGO.out _ _ _ _ ho).mono ?_); rintro e w1 ⟨rfl, rfl⟩)
    | (refine at_op (.store 30 (.tmp 140) (.tmp 139)) rfl ?_; refine wpList_st1 30 (.tmp 140) (.tmp 139) rfl rfl rfl rfl hX6 (by simp [qC]) rfl (by kernel_rfl) ?_; intro W8 hX8 g8)
    | (refine at_op (.store 4 (.tmp 141) (.const (.bool true))) rfl ?_; refine wpList_st1 4 (.tmp 141) (.const (.bool true)) rfl rfl rfl rfl hX8 (by simp [qC]) rfl (by kernel_rfl) ?_; intro W10 hX10 g10))
  replace b4 := (b4.grown g8 (by simp; omega)).grown g10 (by simp; omega)
  replace be := below_grown (below_grown be g8 (by omega)) g10 (by omega)
  replace hX6 : Bk W10 g11 35 (qC s1 h1 l1 s2 h2 l2 sp dp p9 v true) := hX10
  clear hX8 hX10 g8 g10
  go_wp2_with (first
    | (refine at_op (.load 35 (.tmp 11)) rfl ?_; refine wpList_ldA (t := 35) 35 (.tmp 11) rfl rfl (qC s1 h1 l1 s2 h2 l2 sp dp p9 v true) rfl (hX6) (whole_ _) r1 r2 (szRQ _ _ _ _ _ _ _ _ _ _ _) ?_)
    | (refine at_op (.store 35 (.tmp 4) (.tmp 142)) rfl ?_; refine wpList_stA (t := 35) 35 (.tmp 4) (.tmp 142) rfl rfl (qC s1 h1 l1 s2 h2 l2 sp dp p9 v true) (qC false 0 0 false 0 0 0 0 0 0 false) rfl (qC_one _ _ _ _ _ _ _ _ _ _ _) rfl rfl b4 (szRQ _ _ _ _ _ _ _ _ _ _ _) ?_; intro W9 h9 g9))
  refine bodyPost_agg2 Try.results14 rfl rfl h9.range r1 r2 (szRQ _ _ _ _ _ _ _ _ _ _ _) rfl (RetV.mk ?_)
  exact below_grown be g9 (by omega)
set_option maxHeartbeats 4000000 in
set_option maxRecDepth 100000 in
theorem refRead6_17 (A : Option Addr) (n c : Nat) (l : List UInt8) (w : World) (h : Rb w A n c l) (hm : n ≤ 1000000) (x p9 p6 f : Nat) (hx : num ((l.drop 0).take 1) = x) (hx9 : num ((l.drop 9).take 1) = p9) (hx6 : num ((l.drop 6).take 1) = p6) (hxf : num ((l.drop 6).take 2) = f) (hn : 20 ≤ n) (hv : x / 16 = 6) (hs8 : 48 ≤ n) (hp : p6 = 17) (s1 : Bool) (h1 l1 : Nat) (s2 : Bool) (h2 l2 sp dp : Nat) (x0 x1 x2 x3 x4 x5 x6 x7 : Nat) (o1 o2 : List UInt8) (E : Int)  (hsp : num ((l.drop 40).take 2) = sp) (hdp : num ((l.drop (40 + 2)).take 2) = dp) (hol : o1.length ≤ 1000000) (H1 : ∀ w', Below w.heap.size w w' → Calls Try.prog 55 #[.slice (cutA A c 8 1) 16 (c - 8)] w' (RetV w' (.tuple #[.agg (adC s1 h1 l1).toArray, .bool true]))) (H2 : ∀ w', Below w.heap.size w w' → Calls Try.prog 55 #[.slice (cutA A c 24 1) 16 (c - 24)] w' (RetV w' (.tuple #[.agg (adC s2 h2 l2).toArray, .bool true]))) (HPA : ∀ w', Below w.heap.size w w' → Calls Try.prog 56 #[.slice (cutA A c 40 1) (n - 40) (c - 40)] w' (RetSeg w' x0 x1 x2 x3 x4 x5 x6 x7 o1 o2 (.int .i64 E))) : Calls Try.prog 14 #[.slice A n c, .bool true] w (RetV w (.tuple #[.agg (qC s1 h1 l1 s2 h2 l2 sp dp p6 0 false).toArray, .bool true])) := by
  obtain ⟨dq, r1, r2⟩ := rowRQ
  have hc := h.2.1
  have hl := h.1
  obtain ⟨b, off, rfl, hbl, hcell⟩ := h.2.2.at_ (by rw [bcs_length, h.1]; omega)
  have y0 := num_cell hcell 0 (by omega)
  rw [hx, Nat.add_zero] at y0
  have y9 := num_cell hcell 9 (by omega)
  have y6 := num_cell hcell 6 (by omega)
  rw [hx9] at y9
  rw [hx6] at y6
  have hx8 : x < 256 := by rw [← hx]; exact num_lt' l 0 1 256 (by decide)
  have hp9 : p9 < 256 := by rw [← hx9]; exact num_lt' l 9 1 256 (by decide)
  have hp6 : p6 < 256 := by rw [← hx6]; exact num_lt' l 6 1 256 (by decide)
  have i0 : (0 : Int) < (n : Int) := by omega
  have i0n : 0 < n := by omega
  have i6 : (6 : Int) < (n : Int) := by omega
  have i6n : 6 < n := by omega
  have i9 : (9 : Int) < (n : Int) := by omega
  have i9n : 9 < n := by omega
  have tai : decide ((n : Int) < 20) = false := by simp only [decide_eq_false_iff_not]; omega
  have tan : decide (n < 20) = false := by simp only [decide_eq_false_iff_not]; omega
  obtain ⟨q, hq⟩ : ∃ q : Nat, q = x / 16 := ⟨_, rfl⟩
  have e1 : (x : Int) / 16 = (q : Int) := by omega
  have e1m : (q : Int) % 256 = (q : Int) := by omega
  obtain ⟨m, hm0⟩ : ∃ m : Nat, x % 16 = m := ⟨_, rfl⟩
  have v0 : (x : Int) % 16 = (m : Int) := by omega
  have v0t : (x : Int).tmod 16 = (m : Int) := by rw [Int.tmod_eq_emod_of_nonneg (by omega)]; omega
  have v1 : IntKind.i64.wrap (m : Int) = (m : Int) := IntWalk.i64_in _ (by omega)
  obtain ⟨z, hz⟩ : ∃ z : Nat, z = 4 * m := ⟨_, rfl⟩
  have v2 : IntKind.i64.wrap ((m : Int) * 4) = (z : Int) := by rw [IntWalk.i64_in _ (by omega)]; omega
  have v3 : IntKind.i64.wrap (p9 : Int) = (p9 : Int) := IntWalk.i64_in _ (by omega)
  have v4 : IntKind.i64.wrap (p6 : Int) = (p6 : Int) := IntWalk.i64_in _ (by omega)
  obtain ⟨z8, hz8⟩ : ∃ k : Nat, k = z + 8 := ⟨_, rfl⟩
  have v5 : IntKind.i64.wrap ((z : Int) + 8) = (z8 : Int) := by rw [IntWalk.i64_in _ (by omega)]; omega
  have nv : ((q : Int) != 6) = false := by rw [bne_eq_false_iff_eq]; omega
  have tci : decide ((n : Int) < 48) = false := by simp only [decide_eq_false_iff_not]; omega
  have tcn : decide (n < 48) = false := by simp only [decide_eq_false_iff_not]; omega
  have n6 : ((p6 : Int) != 6) = true := by rw [bne_iff_ne]; omega
  have n17 : ((p6 : Int) != 17) = false := by rw [bne_eq_false_iff_eq]; omega
  have n6e : ((p6 : Int) == 6) = false := by rw [beq_eq_false_iff_ne]; omega
  have wu8 : IntKind.u8.wrap (p6 : Int) = (p6 : Int) := IntWalk.u8_in _ (by omega)
  have wm8 : (p6 : Int) % 256 = (p6 : Int) := by omega
  have hsp16 : sp < 65536 := by rw [← hsp]; exact num_lt' l _ 2 65536 (by decide)
  have hdp16 : dp < 65536 := by rw [← hdp]; exact num_lt' l _ 2 65536 (by decide)
  have wsp : IntKind.u16.wrap (sp : Int) = (sp : Int) := IntWalk.u16_in _ (by omega)
  have wdp : IntKind.u16.wrap (dp : Int) = (dp : Int) := IntWalk.u16_in _ (by omega)
  obtain ⟨tv, htv⟩ : ∃ tv : Int, resT (stampsAt o1) = .int .i64 tv := by cases stampsAt o1 <;> exact ⟨_, rfl⟩
  have HT := Lib.hid (fun A n c w (h : Rb w A n c o1) => (by have := refStamps_any A n c o1 w h (by rw [← h.1]; exact hol); rwa [htv] at this : Calls Try.prog 57 #[.slice A n c] w fun e w' => e = .returned (.int .i64 tv) ∧ w = w'))
  have HSP := Lib.hid (fun w (h : Rb w (some ⟨b, off, none⟩) n c l) => refGetV _ n c l (40 : Int) 2 40 2 sp w h rfl rfl hsp (by omega) (by omega) (by omega))
  have HDP := Lib.hid (fun w (h : Rb w (some ⟨b, off, none⟩) n c l) => refGetV _ n c l (42 : Int) 2 42 2 dp w h rfl rfl hdp (by omega) (by omega) (by omega))
  have j8a : (24 : Int) ≤ (c : Int) := by omega
  have j8b : (40 : Int) ≤ (c : Int) := by omega
  replace H1 := Lib.hid H1
  replace H2 := Lib.hid H2
  replace HPA := Lib.hid HPA
  have j40 : (40 : Int) ≤ (n : Int) := by omega
  have j40c : (40 : Int) ≤ (c : Int) := by omega
  clear hv hs8 hp hx hx9 hx6 hxf hq hm0 hz hz8 hm hn hsp hdp hsp16 hdp16 htv hol
  have b4 : Bk (w.alloc (.cells #[.bool false, .int .u64 0, .int .u64 0, .bool false, .int .u64 0, .int .u64 0, .int .u16 0, .int .u16 0, .int .u8 0, .int .u32 0, .bool false] 35)) w.heap.size 35 (qC false 0 0 false 0 0 0 0 0 0 false) := Bk.new w 35 #[.bool false, .int .u64 0, .int .u64 0, .bool false, .int .u64 0, .int .u64 0, .int .u16 0, .int .u16 0, .int .u8 0, .int .u32 0, .bool false]
  have be : Below w.heap.size w (w.alloc (.cells #[.bool false, .int .u64 0, .int .u64 0, .bool false, .int .u64 0, .int .u64 0, .int .u16 0, .int .u16 0, .int .u8 0, .int .u32 0, .bool false] 35)) := Below.allocS (Below.refl _ _) _
  have yV0 := (be.cell (p := ⟨b, off, none⟩) hbl).trans y0
  have yV9 := (be.cell (p := ⟨b, off + 9, none⟩) hbl).trans y9
  have yV6 := (be.cell (p := ⟨b, off + 6, none⟩) hbl).trans y6
  have zV := be.size
  clear hcell y0 y9 y6
  go_enter Try.func14, Try.ntmps14
  go_upto_region 3 with (fail)
  generalize w.alloc (.cells #[.bool false, .int .u64 0, .int .u64 0, .bool false, .int .u64 0, .int .u64 0, .int .u16 0, .int .u16 0, .int .u8 0, .int .u32 0, .bool false] 35) = V at *
  have zb : b < V.heap.size := by omega
  go_wp2
  refine wp_relS 15 143 rfl (by kernel_rfl) (by kernel_rfl) ?_
  apply Steps.one (MP.eq _) 1 rfl
  · intro o ho FA x hO hD K hK
    obtain rfl := Option.some.inj ho.symm
    clear ho
    have e0 := hO 0 (by kernel_rfl)
    simp only [eval_tmp, List.getElem?_toArray, List.getElem?_cons_succ, List.getElem?_cons_zero, Option.getD_some] at e0
    have ev0 := Lib.hid ((eval_tmp FA 0).trans e0)
    clear hO hD
    go_simp
    exact hK.out _ _ (Ex.refl _) rfl
  apply Steps.one (MP.eq _) 2 rfl
  · intro o ho FA x hO hD K hK
    obtain rfl := Option.some.inj ho.symm
    clear ho
    have ev19 : FA.eval (.tmp 19) = _ := hD 0 19 (by kernel_rfl)
    have e19 := (eval_tmp FA 19).symm.trans ev19
    replace ev19 := Lib.hid ev19
    clear hO hD
    go_simp
    exact hK.out _ _ (Ex.refl _) rfl
  apply Steps.one (MP.eq _) 3 rfl
  · intro o ho FA x hO hD K hK
    obtain rfl := Option.some.inj ho.symm
    clear ho
    have ev20 : FA.eval (.tmp 20) = _ := hD 1 20 (by kernel_rfl)
    have e20 := (eval_tmp FA 20).symm.trans ev20
    replace ev20 := Lib.hid ev20
    clear hO hD
    go_simp
    exact hK.out _ _ (Ex.refl _) rfl
  apply Steps.one (MP.eq _) 4 rfl
  · intro o ho FA x hO hD K hK
    obtain rfl := Option.some.inj ho.symm
    clear ho
    have ev21 : FA.eval (.tmp 21) = _ := hD 2 21 (by kernel_rfl)
    have e21 := (eval_tmp FA 21).symm.trans ev21
    replace ev21 := Lib.hid ev21
    clear hO hD
    go_simp
    exact hK.out _ _ (Ex.refl _) rfl
  apply Steps.one (MP.eq _) 5 rfl
  · intro o ho FA x hO hD K hK
    obtain rfl := Option.some.inj ho.symm
    clear ho
    have ev22 : FA.eval (.tmp 22) = _ := hD 3 22 (by kernel_rfl)
    have e22 := (eval_tmp FA 22).symm.trans ev22
    replace ev22 := Lib.hid ev22
    clear hO hD
    go_simp
    exact hK.out _ _ (Ex.refl _) rfl
  apply Steps.one (MP.eq _) 6 rfl
  · intro o ho FA x hO hD K hK
    obtain rfl := Option.some.inj ho.symm
    clear ho
    have ev23 : FA.eval (.tmp 23) = _ := hD 4 23 (by kernel_rfl)
    have e23 := (eval_tmp FA 23).symm.trans ev23
    replace ev23 := Lib.hid ev23
    clear hO hD
    go_simp
    exact hK.out _ _ (Ex.refl _) rfl
  apply Steps.one (MP.eq _) 7 rfl
  · intro o ho FA x hO hD K hK
    obtain rfl := Option.some.inj ho.symm
    clear ho
    have e0 := hO 0 (by kernel_rfl)
    simp only [eval_tmp, List.getElem?_toArray, List.getElem?_cons_succ, List.getElem?_cons_zero, Option.getD_some] at e0
    have ev0 := Lib.hid ((eval_tmp FA 0).trans e0)
    clear hO hD
    go_simp
    exact hK.out _ _ (Ex.refl _) rfl
  apply Steps.one (MP.eq _) 8 rfl
  · intro o ho FA x hO hD K hK
    obtain rfl := Option.some.inj ho.symm
    clear ho
    have ev25 : FA.eval (.tmp 25) = _ := hD 6 25 (by kernel_rfl)
    have e25 := (eval_tmp FA 25).symm.trans ev25
    replace ev25 := Lib.hid ev25
    clear hO hD
    go_simp
    exact hK.out _ _ (Ex.refl _) rfl
  apply Steps.one (MP.eq _) 9 rfl
  · intro o ho FA x hO hD K hK
    obtain rfl := Option.some.inj ho.symm
    clear ho
    have ev26 : FA.eval (.tmp 26) = _ := hD 7 26 (by kernel_rfl)
    have e26 := (eval_tmp FA 26).symm.trans ev26
    replace ev26 := Lib.hid ev26
    clear hO hD
    go_simp
    exact hK.out _ _ (Ex.refl _) rfl
  apply Steps.one (MP.eq _) 10 rfl
  · intro o ho FA x hO hD K hK
    obtain rfl := Option.some.inj ho.symm
    clear ho
    have ev27 : FA.eval (.tmp 27) = _ := hD 8 27 (by kernel_rfl)
    have e27 := (eval_tmp FA 27).symm.trans ev27
    replace ev27 := Lib.hid ev27
    clear hO hD
    go_simp
    exact hK.out _ _ (Ex.refl _) rfl
  apply Steps.one (MP.eq _) 11 rfl
  · intro o ho FA x hO hD K hK
    obtain rfl := Option.some.inj ho.symm
    clear ho
    have ev24 : FA.eval (.tmp 24) = _ := hD 5 24 (by kernel_rfl)
    have e24 := (eval_tmp FA 24).symm.trans ev24
    replace ev24 := Lib.hid ev24
    clear hO hD
    go_simp
    exact hK.out _ _ (Ex.refl _) rfl
  apply Steps.one (MP.eq _) 12 rfl
  · intro o ho FA x hO hD K hK
    obtain rfl := Option.some.inj ho.symm
    clear ho
    clear hO hD
    go_simp
    exact hK.out _ _ (Ex.refl _) rfl
  apply Steps.one (MP.eq _) 13 rfl
  · intro o ho FA x hO hD K hK
    obtain rfl := Option.some.inj ho.symm
    clear ho
    clear hO hD
    go_simp
    exact hK.out _ _ (Ex.refl _) rfl
  apply Steps.one (MP.eq _) 14 rfl
  · intro o ho FA x hO hD K hK
    obtain rfl := Option.some.inj ho.symm
    clear ho
    have ev28 : FA.eval (.tmp 28) = _ := hD 9 28 (by kernel_rfl)
    have e28 := (eval_tmp FA 28).symm.trans ev28
    replace ev28 := Lib.hid ev28
    clear hO hD
    go_simp
    exact hK.out _ _ (Ex.refl _) rfl
  apply Steps.one (MP.eq _) 15 rfl
  · intro o ho FA x hO hD K hK
    obtain rfl := Option.some.inj ho.symm
    clear ho
    clear hO hD
    go_simp
    exact hK.out _ _ (Ex.refl _) rfl
  refine Steps.fin_ (fun vs x hp => ?_)
  have p0 : vs 0 = _ := hp 0 (by omega)
  have p1 : vs 1 = _ := hp 1 (by omega)
  have p2 : vs 2 = _ := hp 2 (by omega)
  have p3 : vs 3 = _ := hp 3 (by omega)
  have p4 : vs 4 = _ := hp 4 (by omega)
  have p5 : vs 5 = _ := hp 5 (by omega)
  have p6 : vs 6 = _ := hp 6 (by omega)
  have p7 : vs 7 = _ := hp 7 (by omega)
  have p8 : vs 8 = _ := hp 8 (by omega)
  have p9 : vs 9 = _ := hp 9 (by omega)
  have p10 : vs 10 = _ := hp 10 (by omega)
  have p11 : vs 11 = _ := hp 11 (by omega)
  have p12 : vs 12 = _ := hp 12 (by omega)
  have p13 : vs 13 = _ := hp 13 (by omega)
  have p14 : vs 14 = _ := hp 14 (by omega)
  clear hp
  simp only [List.take_succ_cons, List.take_zero, List.drop_succ_cons, List.drop_zero, putAll, Nat.zero_add, Nat.reduceAdd, Act.put, List.setIfInBounds_toArray, List.set_cons_zero, List.set_cons_succ, p0, p1, p2, p3, p4, p5, p6, p7, p8, p9, p10, p11, p12, p13, p14]
  clear p0 p1 p2 p3 p4 p5 p6 p7 p8 p9 p10 p11 p12 p13 p14
  clear vs
  have zs := be.size
  have yW0 := (cell_plus V x.bs x.d b off zb).trans yV0
  have yW6 := (cell_plus V x.bs x.d b (off + 6) zb).trans yV6
  replace be := belowP be x.bs x.d
  replace b4 := b4.later (below_plus _ x.bs x.d)
  clear yV0 yV6 yV9
  generalize plus V x.bs x.d = V1 at *
  have zb1 : b < V1.heap.size := Nat.lt_of_lt_of_le hbl be.size
  go_upto_region 5 with (fail)
  go_wp2
  refine wp_relS 9 143 rfl (by kernel_rfl) (by kernel_rfl) ?_
  apply Steps.one (MP.eq _) 1 rfl
  · intro o ho FA x hO hD K hK
    obtain rfl := Option.some.inj ho.symm
    clear ho
    have e0 := hO 0 (by kernel_rfl)
    simp only [eval_tmp, List.getElem?_toArray, List.getElem?_cons_succ, List.getElem?_cons_zero, Option.getD_some] at e0
    have ev0 := Lib.hid ((eval_tmp FA 0).trans e0)
    clear hO hD
    go_simp
    exact hK.out _ _ (Ex.refl _) rfl
  apply Steps.one (MP.eq _) 2 rfl
  · intro o ho FA x hO hD K hK
    obtain rfl := Option.some.inj ho.symm
    clear ho
    have ev30 : FA.eval (.tmp 30) = _ := hD 0 30 (by kernel_rfl)
    have e30 := (eval_tmp FA 30).symm.trans ev30
    replace ev30 := Lib.hid ev30
    clear hO hD
    go_simp
    exact hK.out _ _ (Ex.refl _) rfl
  apply Steps.one (MP.eq _) 3 rfl
  · intro o ho FA x hO hD K hK
    obtain rfl := Option.some.inj ho.symm
    clear ho
    have ev31 : FA.eval (.tmp 31) = _ := hD 1 31 (by kernel_rfl)
    have e31 := (eval_tmp FA 31).symm.trans ev31
    replace ev31 := Lib.hid ev31
    clear hO hD
    go_simp
    exact hK.out _ _ (Ex.refl _) rfl
  apply Steps.one (MP.eq _) 4 rfl
  · intro o ho FA x hO hD K hK
    obtain rfl := Option.some.inj ho.symm
    clear ho
    have ev32 : FA.eval (.tmp 32) = _ := hD 2 32 (by kernel_rfl)
    have e32 := (eval_tmp FA 32).symm.trans ev32
    replace ev32 := Lib.hid ev32
    clear hO hD
    go_simp
    exact hK.out _ _ (Ex.refl _) rfl
  apply Steps.one (MP.eq _) 5 rfl
  · intro o ho FA x hO hD K hK
    obtain rfl := Option.some.inj ho.symm
    clear ho
    clear hO hD
    go_simp
    exact hK.out _ _ (Ex.refl _) rfl
  apply Steps.one (MP.eq _) 6 rfl
  · intro o ho FA x hO hD K hK
    obtain rfl := Option.some.inj ho.symm
    clear ho
    clear hO hD
    go_simp
    exact hK.out _ _ (Ex.refl _) rfl
  apply Steps.one (MP.eq _) 7 rfl
  · intro o ho FA x hO hD K hK
    obtain rfl := Option.some.inj ho.symm
    clear ho
    clear hO hD
    go_simp
    exact hK.out _ _ (Ex.refl _) rfl
  apply Steps.one (MP.eq _) 8 rfl
  · intro o ho FA x hO hD K hK
    obtain rfl := Option.some.inj ho.symm
    clear ho
    have ev33 : FA.eval (.tmp 33) = _ := hD 3 33 (by kernel_rfl)
    have e33 := (eval_tmp FA 33).symm.trans ev33
    replace ev33 := Lib.hid ev33
    clear hO hD
    go_simp
    exact hK.out _ _ (Ex.refl _) rfl
  apply Steps.one (MP.eq _) 9 rfl
  · intro o ho FA x hO hD K hK
    obtain rfl := Option.some.inj ho.symm
    clear ho
    clear hO hD
    go_simp
    exact hK.out _ _ (Ex.refl _) rfl
  refine Steps.fin_ (fun vs x hp => ?_)
  have p0 : vs 0 = _ := hp 0 (by omega)
  have p1 : vs 1 = _ := hp 1 (by omega)
  have p2 : vs 2 = _ := hp 2 (by omega)
  have p3 : vs 3 = _ := hp 3 (by omega)
  have p4 : vs 4 = _ := hp 4 (by omega)
  have p5 : vs 5 = _ := hp 5 (by omega)
  have p6 : vs 6 = _ := hp 6 (by omega)
  have p7 : vs 7 = _ := hp 7 (by omega)
  have p8 : vs 8 = _ := hp 8 (by omega)
  clear hp
  simp only [List.take_succ_cons, List.take_zero, List.drop_succ_cons, List.drop_zero, putAll, Nat.zero_add, Nat.reduceAdd, Act.put, List.setIfInBounds_toArray, List.set_cons_zero, List.set_cons_succ, p0, p1, p2, p3, p4, p5, p6, p7, p8]
  clear p0 p1 p2 p3 p4 p5 p6 p7 p8
  clear vs
  have zs2 := be.size
  have yX0 := (cell_plus V1 x.bs x.d b off zb1).trans yW0
  have yX6 := (cell_plus V1 x.bs x.d b (off + 6) zb1).trans yW6
  replace be := belowP be x.bs x.d
  replace b4 := b4.later (below_plus _ x.bs x.d)
  clear yW0 yW6
  generalize plus V1 x.bs x.d = V2 at *
  have zb2 : b < V2.heap.size := Nat.lt_of_lt_of_le hbl be.size
  go_upto_region 9 with (first
    | (refine at_op (.store 35 (.tmp 11) (.tmp 70)) rfl ?_; refine wpList_stA (t := 35) 35 (.tmp 11) (.tmp 70) rfl rfl (qC false 0 0 false 0 0 0 0 0 0 false) (qC false 0 0 false 0 0 0 0 0 0 false) rfl (qC_one _ _ _ _ _ _ _ _ _ _ _) rfl rfl ?_ (szRQ _ _ _ _ _ _ _ _ _ _ _) ?_; (· refine Bk.newK _ _ _ ?_ rfl; simp [size_plus]); intro W1 hX g1))
  have z1 := be.size
  have z4 := b4.lt
  have b1 := below_grown (Below.allocS (Below.refl V2.heap.size V2) _) g1 (Nat.le_refl _)
  replace be := be.trans (b1.mono z1)
  replace b4 := b4.later b1
  have hg : w.heap.size < V2.heap.size := by omega
  clear b1 g1
  generalize V2.heap.size = g11 at *
  have zX := hX.lt
  go_upto_region 10 with (first
    | (go_at_call 55; (with_reducible refine (H1.out _ be).mono ?_); rintro e w1 ⟨bs0, ds0, rfl, rfl⟩)
    | (replace hX := hX.later (below_plus _ bs0 ds0); (refine at_op (.store 26 (.tmp 82) (.tmp 79)) rfl ?_; refine wpList_stM (t := 35) 26 (.tmp 82) (.tmp 79) rfl rfl (adC s1 h1 l1) _ (by simp [adC, qC]) (adC_one _ _ _) rfl rfl hX (szAd _ _ _) ?_; intro W2 hX0 gx0)))
  simp only [splice, adC, qC, List.take_succ_cons, List.take_zero, List.drop_succ_cons, List.drop_zero, List.length_cons, List.length_nil, Nat.zero_add, Nat.reduceAdd, List.cons_append, List.nil_append] at hX0
  replace b4 := (b4.later (below_plus _ bs0 ds0)).grown gx0 (by simp; omega)
  replace be := below_grown (belowP be bs0 ds0) gx0 (by omega)
  clear hX gx0
  have hX := hX0
  clear hX0
  have zX := hX.lt
  go_upto_region 11 with (first
    | (go_at_call 55; (with_reducible refine (H2.out _ be).mono ?_); rintro e w1 ⟨bs1, ds1, rfl, rfl⟩)
    | (replace hX := hX.later (below_plus _ bs1 ds1); (refine at_op (.store 26 (.tmp 97) (.tmp 94)) rfl ?_; refine wpList_stM (t := 35) 26 (.tmp 97) (.tmp 94) rfl rfl (adC s2 h2 l2) _ (by simp [adC, qC]) (adC_one _ _ _) rfl rfl hX (szAd _ _ _) ?_; intro W3 hX1 gx1)))
  simp only [splice, adC, qC, List.take_succ_cons, List.take_zero, List.drop_succ_cons, List.drop_zero, List.length_cons, List.length_nil, Nat.zero_add, Nat.reduceAdd, List.cons_append, List.nil_append] at hX1
  replace b4 := (b4.later (below_plus _ bs1 ds1)).grown gx1 (by simp; omega)
  replace be := below_grown (belowP be bs1 ds1) gx1 (by omega)
  clear hX gx1
  have hX := hX1
  clear hX1
  have zX := hX.lt
  go_upto_region 12 with (refine at_op (.store 5 (.tmp 101) (.tmp 99)) rfl ?_; refine wpList_st1 5 (.tmp 101) (.tmp 99) rfl rfl rfl rfl hX (by simp [qC]) rfl (by kernel_rfl) ?_; intro W4 hX4 g4)
  replace b4 := b4.grown g4 (by simp; omega)
  replace be := below_grown be g4 (by omega)
  simp only [List.set_cons_succ, List.set_cons_zero] at hX4
  clear hX g4
  go_upto_region 13 with (first
    | (go_at_call 54; (with_reducible refine (HSP.out _ (h.later be)).mono ?_); rintro e w1 ⟨rfl, rfl⟩)
    | (refine at_op (.store 27 (.tmp 107) (.tmp 105)) rfl ?_; refine wpList_st1 27 (.tmp 107) (.tmp 105) rfl rfl rfl rfl hX4 (by simp [qC]) rfl (by kernel_rfl) ?_; intro W5 hX5 g5))
  replace b4 := b4.grown g5 (by simp; omega)
  replace be := below_grown be g5 (by omega)
  simp only [List.set_cons_succ, List.set_cons_zero] at hX5
  clear hX4 g5
  go_upto_region 14 with (first
    | (go_at_call 54; (with_reducible refine (HDP.out _ (h.later be)).mono ?_); rintro e w1 ⟨rfl, rfl⟩)
    | (refine at_op (.store 27 (.tmp 114) (.tmp 112)) rfl ?_; refine wpList_st1 27 (.tmp 114) (.tmp 112) rfl rfl rfl rfl hX5 (by simp [qC]) rfl (by kernel_rfl) ?_; intro W6 hX6 g6))
  replace b4 := b4.grown g6 (by simp; omega)
  replace be := below_grown be g6 (by omega)
  simp only [List.set_cons_succ, List.set_cons_zero] at hX6
  clear hX5 g6
  have z6 := be.size
  have z46 := b4.lt
  have zX6 := hX6.lt
  go_wp2_with fail
  refine (HPA.out _ be).mono ?_
  rintro e w1 ⟨Ao, no, ko, Ap, np, kp, bs7, d7, rfl, rfl, ho, -⟩
  go_upto_region 15 with (refine at_op (.store 56 (.tmp 12) (.tmp 120)) rfl ?_; refine wpList_stA (t := 56) 56 (.tmp 12) (.tmp 120) rfl rfl ([.int .u16 (x0 : Int), .int .u16 (x1 : Int), .int .u32 (x2 : Int), .int .u32 (x3 : Int), .int .u8 (x4 : Int), .int .u16 (x5 : Int), .int .u16 (x6 : Int), .int .u16 (x7 : Int), .slice Ao no ko, .slice Ap np kp]) ([.int .u16 0, .int .u16 0, .int .u32 0, .int .u32 0, .int .u8 0, .int .u16 0, .int .u16 0, .int .u16 0, .slice none 0 0, .slice none 0 0]) rfl (by simp [Value.oneCell']) rfl rfl ?_ (by kernel_rfl) ?_; (· refine Bk.newK _ _ _ ?_ rfl; simp [size_plus]); intro W7 hS g7)
  have b7 := below_grown (Below.allocS (below_plus W6 bs7 d7) _) g7 (by omega)
  replace be := be.trans (b7.mono z6)
  replace b4 := b4.later b7
  replace hX6 := hX6.later b7
  replace ho := ho.later (below_grown (Below.allocS (Below.refl _ _) _) g7 (by simp [size_plus]))
  clear b7 g7
  generalize W6.heap.size + bs7.length = g12 at *
  have yo : W7.cell? ⟨g12, 8, none⟩ = some (.slice Ao no ko) := hS.cell 8
  have zS := hS.lt
  go_wp2_with fail
  refine (HT.out _ _ _ _ ho).mono ?_
  rintro e w1 ⟨rfl, rfl⟩
  replace hX6 : Bk W7 g11 35 (qC s1 h1 l1 s2 h2 l2 sp dp p6 0 false) := hX6
  go_wp2_with (first
    | (refine at_op (.load 35 (.tmp 11)) rfl ?_; refine wpList_ldA (t := 35) 35 (.tmp 11) rfl rfl (qC s1 h1 l1 s2 h2 l2 sp dp p6 0 false) rfl (hX6) (whole_ _) r1 r2 (szRQ _ _ _ _ _ _ _ _ _ _ _) ?_)
    | (refine at_op (.store 35 (.tmp 4) (.tmp 142)) rfl ?_; refine wpList_stA (t := 35) 35 (.tmp 4) (.tmp 142) rfl rfl (qC s1 h1 l1 s2 h2 l2 sp dp p6 0 false) (qC false 0 0 false 0 0 0 0 0 0 false) rfl (qC_one _ _ _ _ _ _ _ _ _ _ _) rfl rfl b4 (szRQ _ _ _ _ _ _ _ _ _ _ _) ?_; intro W9 h9 g9))
  refine bodyPost_agg2 Try.results14 rfl rfl h9.range r1 r2 (szRQ _ _ _ _ _ _ _ _ _ _ _) rfl (RetV.mk ?_)
  exact below_grown be g9 (by omega)
set_option maxHeartbeats 4000000 in
set_option maxRecDepth 100000 in
theorem refRead6_6e (A : Option Addr) (n c : Nat) (l : List UInt8) (w : World) (h : Rb w A n c l) (hm : n ≤ 1000000) (x p9 p6 f : Nat) (hx : num ((l.drop 0).take 1) = x) (hx9 : num ((l.drop 9).take 1) = p9) (hx6 : num ((l.drop 6).take 1) = p6) (hxf : num ((l.drop 6).take 2) = f) (hn : 20 ≤ n) (hv : x / 16 = 6) (hs8 : 48 ≤ n) (hp : p6 = 6) (s1 : Bool) (h1 l1 : Nat) (s2 : Bool) (h2 l2 sp dp : Nat) (x0 x1 x2 x3 x4 x5 x6 x7 : Nat) (o1 o2 : List UInt8) (E : Int) (hE : (E == 0) = false) (hsp : num ((l.drop 40).take 2) = sp) (hdp : num ((l.drop (40 + 2)).take 2) = dp) (hol : o1.length ≤ 1000000) (H1 : ∀ w', Below w.heap.size w w' → Calls Try.prog 55 #[.slice (cutA A c 8 1) 16 (c - 8)] w' (RetV w' (.tuple #[.agg (adC s1 h1 l1).toArray, .bool true]))) (H2 : ∀ w', Below w.heap.size w w' → Calls Try.prog 55 #[.slice (cutA A c 24 1) 16 (c - 24)] w' (RetV w' (.tuple #[.agg (adC s2 h2 l2).toArray, .bool true]))) (HPA : ∀ w', Below w.heap.size w w' → Calls Try.prog 56 #[.slice (cutA A c 40 1) (n - 40) (c - 40)] w' (RetSeg w' x0 x1 x2 x3 x4 x5 x6 x7 o1 o2 (.int .i64 E))) : Calls Try.prog 14 #[.slice A n c, .bool true] w (RetV w (.tuple #[.agg (qC s1 h1 l1 s2 h2 l2 sp dp p6 0 false).toArray, .bool true])) := by
  obtain ⟨dq, r1, r2⟩ := rowRQ
  have hc := h.2.1
  have hl := h.1
  obtain ⟨b, off, rfl, hbl, hcell⟩ := h.2.2.at_ (by rw [bcs_length, h.1]; omega)
  have y0 := num_cell hcell 0 (by omega)
  rw [hx, Nat.add_zero] at y0
  have y9 := num_cell hcell 9 (by omega)
  have y6 := num_cell hcell 6 (by omega)
  rw [hx9] at y9
  rw [hx6] at y6
  have hx8 : x < 256 := by rw [← hx]; exact num_lt' l 0 1 256 (by decide)
  have hp9 : p9 < 256 := by rw [← hx9]; exact num_lt' l 9 1 256 (by decide)
  have hp6 : p6 < 256 := by rw [← hx6]; exact num_lt' l 6 1 256 (by decide)
  have i0 : (0 : Int) < (n : Int) := by omega
  have i0n : 0 < n := by omega
  have i6 : (6 : Int) < (n : Int) := by omega
  have i6n : 6 < n := by omega
  have i9 : (9 : Int) < (n : Int) := by omega
  have i9n : 9 < n := by omega
  have tai : decide ((n : Int) < 20) = false := by simp only [decide_eq_false_iff_not]; omega
  have tan : decide (n < 20) = false := by simp only [decide_eq_false_iff_not]; omega
  obtain ⟨q, hq⟩ : ∃ q : Nat, q = x / 16 := ⟨_, rfl⟩
  have e1 : (x : Int) / 16 = (q : Int) := by omega
  have e1m : (q : Int) % 256 = (q : Int) := by omega
  obtain ⟨m, hm0⟩ : ∃ m : Nat, x % 16 = m := ⟨_, rfl⟩
  have v0 : (x : Int) % 16 = (m : Int) := by omega
  have v0t : (x : Int).tmod 16 = (m : Int) := by rw [Int.tmod_eq_emod_of_nonneg (by omega)]; omega
  have v1 : IntKind.i64.wrap (m : Int) = (m : Int) := IntWalk.i64_in _ (by omega)
  obtain ⟨z, hz⟩ : ∃ z : Nat, z = 4 * m := ⟨_, rfl⟩
  have v2 : IntKind.i64.wrap ((m : Int) * 4) = (z : Int) := by rw [IntWalk.i64_in _ (by omega)]; omega
  have v3 : IntKind.i64.wrap (p9 : Int) = (p9 : Int) := IntWalk.i64_in _ (by omega)
  have v4 : IntKind.i64.wrap (p6 : Int) = (p6 : Int) := IntWalk.i64_in _ (by omega)
  obtain ⟨z8, hz8⟩ : ∃ k : Nat, k = z + 8 := ⟨_, rfl⟩
  have v5 : IntKind.i64.wrap ((z : Int) + 8) = (z8 : Int) := by rw [IntWalk.i64_in _ (by omega)]; omega
  have nv : ((q : Int) != 6) = false := by rw [bne_eq_false_iff_eq]; omega
  have tci : decide ((n : Int) < 48) = false := by simp only [decide_eq_false_iff_not]; omega
  have tcn : decide (n < 48) = false := by simp only [decide_eq_false_iff_not]; omega
  have n6 : ((p6 : Int) != 6) = false := by rw [bne_eq_false_iff_eq]; omega
  have n6e : ((p6 : Int) == 6) = true := by rw [beq_iff_eq]; omega
  have wu8 : IntKind.u8.wrap (p6 : Int) = (p6 : Int) := IntWalk.u8_in _ (by omega)
  have wm8 : (p6 : Int) % 256 = (p6 : Int) := by omega
  have hsp16 : sp < 65536 := by rw [← hsp]; exact num_lt' l _ 2 65536 (by decide)
  have hdp16 : dp < 65536 := by rw [← hdp]; exact num_lt' l _ 2 65536 (by decide)
  have wsp : IntKind.u16.wrap (sp : Int) = (sp : Int) := IntWalk.u16_in _ (by omega)
  have wdp : IntKind.u16.wrap (dp : Int) = (dp : Int) := IntWalk.u16_in _ (by omega)
  obtain ⟨tv, htv⟩ : ∃ tv : Int, resT (stampsAt o1) = .int .i64 tv := by cases stampsAt o1 <;> exact ⟨_, rfl⟩
  have HT := Lib.hid (fun A n c w (h : Rb w A n c o1) => (by have := refStamps_any A n c o1 w h (by rw [← h.1]; exact hol); rwa [htv] at this : Calls Try.prog 57 #[.slice A n c] w fun e w' => e = .returned (.int .i64 tv) ∧ w = w'))
  have HSP := Lib.hid (fun w (h : Rb w (some ⟨b, off, none⟩) n c l) => refGetV _ n c l (40 : Int) 2 40 2 sp w h rfl rfl hsp (by omega) (by omega) (by omega))
  have HDP := Lib.hid (fun w (h : Rb w (some ⟨b, off, none⟩) n c l) => refGetV _ n c l (42 : Int) 2 42 2 dp w h rfl rfl hdp (by omega) (by omega) (by omega))
  have j8a : (24 : Int) ≤ (c : Int) := by omega
  have j8b : (40 : Int) ≤ (c : Int) := by omega
  replace H1 := Lib.hid H1
  replace H2 := Lib.hid H2
  replace HPA := Lib.hid HPA
  have j40 : (40 : Int) ≤ (n : Int) := by omega
  have j40c : (40 : Int) ≤ (c : Int) := by omega
  clear hv hs8 hp hx hx9 hx6 hxf hq hm0 hz hz8 hm hn hsp hdp hsp16 hdp16 htv hol
  have b4 : Bk (w.alloc (.cells #[.bool false, .int .u64 0, .int .u64 0, .bool false, .int .u64 0, .int .u64 0, .int .u16 0, .int .u16 0, .int .u8 0, .int .u32 0, .bool false] 35)) w.heap.size 35 (qC false 0 0 false 0 0 0 0 0 0 false) := Bk.new w 35 #[.bool false, .int .u64 0, .int .u64 0, .bool false, .int .u64 0, .int .u64 0, .int .u16 0, .int .u16 0, .int .u8 0, .int .u32 0, .bool false]
  have be : Below w.heap.size w (w.alloc (.cells #[.bool false, .int .u64 0, .int .u64 0, .bool false, .int .u64 0, .int .u64 0, .int .u16 0, .int .u16 0, .int .u8 0, .int .u32 0, .bool false] 35)) := Below.allocS (Below.refl _ _) _
  have yV0 := (be.cell (p := ⟨b, off, none⟩) hbl).trans y0
  have yV9 := (be.cell (p := ⟨b, off + 9, none⟩) hbl).trans y9
  have yV6 := (be.cell (p := ⟨b, off + 6, none⟩) hbl).trans y6
  have zV := be.size
  clear hcell y0 y9 y6
  go_enter Try.func14, Try.ntmps14
  go_upto_region 3 with (fail)
  generalize w.alloc (.cells #[.bool false, .int .u64 0, .int .u64 0, .bool false, .int .u64 0, .int .u64 0, .int .u16 0, .int .u16 0, .int .u8 0, .int .u32 0, .bool false] 35) = V at *
  have zb : b < V.heap.size := by omega
  go_wp2
  refine wp_relS 15 143 rfl (by kernel_rfl) (by kernel_rfl) ?_
  apply Steps.one (MP.eq _) 1 rfl
  · intro o ho FA x hO hD K hK
    obtain rfl := Option.some.inj ho.symm
    clear ho
    have e0 := hO 0 (by kernel_rfl)
    simp only [eval_tmp, List.getElem?_toArray, List.getElem?_cons_succ, List.getElem?_cons_zero, Option.getD_some] at e0
    have ev0 := Lib.hid ((eval_tmp FA 0).trans e0)
    clear hO hD
    go_simp
    exact hK.out _ _ (Ex.refl _) rfl
  apply Steps.one (MP.eq _) 2 rfl
  · intro o ho FA x hO hD K hK
    obtain rfl := Option.some.inj ho.symm
    clear ho
    have ev19 : FA.eval (.tmp 19) = _ := hD 0 19 (by kernel_rfl)
    have e19 := (eval_tmp FA 19).symm.trans ev19
    replace ev19 := Lib.hid ev19
    clear hO hD
    go_simp
    exact hK.out _ _ (Ex.refl _) rfl
  apply Steps.one (MP.eq _) 3 rfl
  · intro o ho FA x hO hD K hK
    obtain rfl := Option.some.inj ho.symm
    clear ho
    have ev20 : FA.eval (.tmp 20) = _ := hD 1 20 (by kernel_rfl)
    have e20 := (eval_tmp FA 20).symm.trans ev20
    replace ev20 := Lib.hid ev20
    clear hO hD
    go_simp
    exact hK.out _ _ (Ex.refl _) rfl
  apply Steps.one (MP.eq _) 4 rfl
  · intro o ho FA x hO hD K hK
    obtain rfl := Option.some.inj ho.symm
    clear ho
    have ev21 : FA.eval (.tmp 21) = _ := hD 2 21 (by kernel_rfl)
    have e21 := (eval_tmp FA 21).symm.trans ev21
    replace ev21 := Lib.hid ev21
    clear hO hD
    go_simp
    exact hK.out _ _ (Ex.refl _) rfl
  apply Steps.one (MP.eq _) 5 rfl
  · intro o ho FA x hO hD K hK
    obtain rfl := Option.some.inj ho.symm
    clear ho
    have ev22 : FA.eval (.tmp 22) = _ := hD 3 22 (by kernel_rfl)
    have e22 := (eval_tmp FA 22).symm.trans ev22
    replace ev22 := Lib.hid ev22
    clear hO hD
    go_simp
    exact hK.out _ _ (Ex.refl _) rfl
  apply Steps.one (MP.eq _) 6 rfl
  · intro o ho FA x hO hD K hK
    obtain rfl := Option.some.inj ho.symm
    clear ho
    have ev23 : FA.eval (.tmp 23) = _ := hD 4 23 (by kernel_rfl)
    have e23 := (eval_tmp FA 23).symm.trans ev23
    replace ev23 := Lib.hid ev23
    clear hO hD
    go_simp
    exact hK.out _ _ (Ex.refl _) rfl
  apply Steps.one (MP.eq _) 7 rfl
  · intro o ho FA x hO hD K hK
    obtain rfl := Option.some.inj ho.symm
    clear ho
    have e0 := hO 0 (by kernel_rfl)
    simp only [eval_tmp, List.getElem?_toArray, List.getElem?_cons_succ, List.getElem?_cons_zero, Option.getD_some] at e0
    have ev0 := Lib.hid ((eval_tmp FA 0).trans e0)
    clear hO hD
    go_simp
    exact hK.out _ _ (Ex.refl _) rfl
  apply Steps.one (MP.eq _) 8 rfl
  · intro o ho FA x hO hD K hK
    obtain rfl := Option.some.inj ho.symm
    clear ho
    have ev25 : FA.eval (.tmp 25) = _ := hD 6 25 (by kernel_rfl)
    have e25 := (eval_tmp FA 25).symm.trans ev25
    replace ev25 := Lib.hid ev25
    clear hO hD
    go_simp
    exact hK.out _ _ (Ex.refl _) rfl
  apply Steps.one (MP.eq _) 9 rfl
  · intro o ho FA x hO hD K hK
    obtain rfl := Option.some.inj ho.symm
    clear ho
    have ev26 : FA.eval (.tmp 26) = _ := hD 7 26 (by kernel_rfl)
    have e26 := (eval_tmp FA 26).symm.trans ev26
    replace ev26 := Lib.hid ev26
    clear hO hD
    go_simp
    exact hK.out _ _ (Ex.refl _) rfl
  apply Steps.one (MP.eq _) 10 rfl
  · intro o ho FA x hO hD K hK
    obtain rfl := Option.some.inj ho.symm
    clear ho
    have ev27 : FA.eval (.tmp 27) = _ := hD 8 27 (by kernel_rfl)
    have e27 := (eval_tmp FA 27).symm.trans ev27
    replace ev27 := Lib.hid ev27
    clear hO hD
    go_simp
    exact hK.out _ _ (Ex.refl _) rfl
  apply Steps.one (MP.eq _) 11 rfl
  · intro o ho FA x hO hD K hK
    obtain rfl := Option.some.inj ho.symm
    clear ho
    have ev24 : FA.eval (.tmp 24) = _ := hD 5 24 (by kernel_rfl)
    have e24 := (eval_tmp FA 24).symm.trans ev24
    replace ev24 := Lib.hid ev24
    clear hO hD
    go_simp
    exact hK.out _ _ (Ex.refl _) rfl
  apply Steps.one (MP.eq _) 12 rfl
  · intro o ho FA x hO hD K hK
    obtain rfl := Option.some.inj ho.symm
    clear ho
    clear hO hD
    go_simp
    exact hK.out _ _ (Ex.refl _) rfl
  apply Steps.one (MP.eq _) 13 rfl
  · intro o ho FA x hO hD K hK
    obtain rfl := Option.some.inj ho.symm
    clear ho
    clear hO hD
    go_simp
    exact hK.out _ _ (Ex.refl _) rfl
  apply Steps.one (MP.eq _) 14 rfl
  · intro o ho FA x hO hD K hK
    obtain rfl := Option.some.inj ho.symm
    clear ho
    have ev28 : FA.eval (.tmp 28) = _ := hD 9 28 (by kernel_rfl)
    have e28 := (eval_tmp FA 28).symm.trans ev28
    replace ev28 := Lib.hid ev28
    clear hO hD
    go_simp
    exact hK.out _ _ (Ex.refl _) rfl
  apply Steps.one (MP.eq _) 15 rfl
  · intro o ho FA x hO hD K hK
    obtain rfl := Option.some.inj ho.symm
    clear ho
    clear hO hD
    go_simp
    exact hK.out _ _ (Ex.refl _) rfl
  refine Steps.fin_ (fun vs x hp => ?_)
  have p0 : vs 0 = _ := hp 0 (by omega)
  have p1 : vs 1 = _ := hp 1 (by omega)
  have p2 : vs 2 = _ := hp 2 (by omega)
  have p3 : vs 3 = _ := hp 3 (by omega)
  have p4 : vs 4 = _ := hp 4 (by omega)
  have p5 : vs 5 = _ := hp 5 (by omega)
  have p6 : vs 6 = _ := hp 6 (by omega)
  have p7 : vs 7 = _ := hp 7 (by omega)
  have p8 : vs 8 = _ := hp 8 (by omega)
  have p9 : vs 9 = _ := hp 9 (by omega)
  have p10 : vs 10 = _ := hp 10 (by omega)
  have p11 : vs 11 = _ := hp 11 (by omega)
  have p12 : vs 12 = _ := hp 12 (by omega)
  have p13 : vs 13 = _ := hp 13 (by omega)
  have p14 : vs 14 = _ := hp 14 (by omega)
  clear hp
  simp only [List.take_succ_cons, List.take_zero, List.drop_succ_cons, List.drop_zero, putAll, Nat.zero_add, Nat.reduceAdd, Act.put, List.setIfInBounds_toArray, List.set_cons_zero, List.set_cons_succ, p0, p1, p2, p3, p4, p5, p6, p7, p8, p9, p10, p11, p12, p13, p14]
  clear p0 p1 p2 p3 p4 p5 p6 p7 p8 p9 p10 p11 p12 p13 p14
  clear vs
  have zs := be.size
  have yW0 := (cell_plus V x.bs x.d b off zb).trans yV0
  have yW6 := (cell_plus V x.bs x.d b (off + 6) zb).trans yV6
  replace be := belowP be x.bs x.d
  replace b4 := b4.later (below_plus _ x.bs x.d)
  clear yV0 yV6 yV9
  generalize plus V x.bs x.d = V1 at *
  have zb1 : b < V1.heap.size := Nat.lt_of_lt_of_le hbl be.size
  go_upto_region 5 with (fail)
  go_wp2
  refine wp_relS 9 143 rfl (by kernel_rfl) (by kernel_rfl) ?_
  apply Steps.one (MP.eq _) 1 rfl
  · intro o ho FA x hO hD K hK
    obtain rfl := Option.some.inj ho.symm
    clear ho
    have e0 := hO 0 (by kernel_rfl)
    simp only [eval_tmp, List.getElem?_toArray, List.getElem?_cons_succ, List.getElem?_cons_zero, Option.getD_some] at e0
    have ev0 := Lib.hid ((eval_tmp FA 0).trans e0)
    clear hO hD
    go_simp
    exact hK.out _ _ (Ex.refl _) rfl
  apply Steps.one (MP.eq _) 2 rfl
  · intro o ho FA x hO hD K hK
    obtain rfl := Option.some.inj ho.symm
    clear ho
    have ev30 : FA.eval (.tmp 30) = _ := hD 0 30 (by kernel_rfl)
    have e30 := (eval_tmp FA 30).symm.trans ev30
    replace ev30 := Lib.hid ev30
    clear hO hD
    go_simp
    exact hK.out _ _ (Ex.refl _) rfl
  apply Steps.one (MP.eq _) 3 rfl
  · intro o ho FA x hO hD K hK
    obtain rfl := Option.some.inj ho.symm
    clear ho
    have ev31 : FA.eval (.tmp 31) = _ := hD 1 31 (by kernel_rfl)
    have e31 := (eval_tmp FA 31).symm.trans ev31
    replace ev31 := Lib.hid ev31
    clear hO hD
    go_simp
    exact hK.out _ _ (Ex.refl _) rfl
  apply Steps.one (MP.eq _) 4 rfl
  · intro o ho FA x hO hD K hK
    obtain rfl := Option.some.inj ho.symm
    clear ho
    have ev32 : FA.eval (.tmp 32) = _ := hD 2 32 (by kernel_rfl)
    have e32 := (eval_tmp FA 32).symm.trans ev32
    replace ev32 := Lib.hid ev32
    clear hO hD
    go_simp
    exact hK.out _ _ (Ex.refl _) rfl
  apply Steps.one (MP.eq _) 5 rfl
  · intro o ho FA x hO hD K hK
    obtain rfl := Option.some.inj ho.symm
    clear ho
    clear hO hD
    go_simp
    exact hK.out _ _ (Ex.refl _) rfl
  apply Steps.one (MP.eq _) 6 rfl
  · intro o ho FA x hO hD K hK
    obtain rfl := Option.some.inj ho.symm
    clear ho
    clear hO hD
    go_simp
    exact hK.out _ _ (Ex.refl _) rfl
  apply Steps.one (MP.eq _) 7 rfl
  · intro o ho FA x hO hD K hK
    obtain rfl := Option.some.inj ho.symm
    clear ho
    clear hO hD
    go_simp
    exact hK.out _ _ (Ex.refl _) rfl
  apply Steps.one (MP.eq _) 8 rfl
  · intro o ho FA x hO hD K hK
    obtain rfl := Option.some.inj ho.symm
    clear ho
    have ev33 : FA.eval (.tmp 33) = _ := hD 3 33 (by kernel_rfl)
    have e33 := (eval_tmp FA 33).symm.trans ev33
    replace ev33 := Lib.hid ev33
    clear hO hD
    go_simp
    exact hK.out _ _ (Ex.refl _) rfl
  apply Steps.one (MP.eq _) 9 rfl
  · intro o ho FA x hO hD K hK
    obtain rfl := Option.some.inj ho.symm
    clear ho
    clear hO hD
    go_simp
    exact hK.out _ _ (Ex.refl _) rfl
  refine Steps.fin_ (fun vs x hp => ?_)
  have p0 : vs 0 = _ := hp 0 (by omega)
  have p1 : vs 1 = _ := hp 1 (by omega)
  have p2 : vs 2 = _ := hp 2 (by omega)
  have p3 : vs 3 = _ := hp 3 (by omega)
  have p4 : vs 4 = _ := hp 4 (by omega)
  have p5 : vs 5 = _ := hp 5 (by omega)
  have p6 : vs 6 = _ := hp 6 (by omega)
  have p7 : vs 7 = _ := hp 7 (by omega)
  have p8 : vs 8 = _ := hp 8 (by omega)
  clear hp
  simp only [List.take_succ_cons, List.take_zero, List.drop_succ_cons, List.drop_zero, putAll, Nat.zero_add, Nat.reduceAdd, Act.put, List.setIfInBounds_toArray, List.set_cons_zero, List.set_cons_succ, p0, p1, p2, p3, p4, p5, p6, p7, p8]
  clear p0 p1 p2 p3 p4 p5 p6 p7 p8
  clear vs
  have zs2 := be.size
  have yX0 := (cell_plus V1 x.bs x.d b off zb1).trans yW0
  have yX6 := (cell_plus V1 x.bs x.d b (off + 6) zb1).trans yW6
  replace be := belowP be x.bs x.d
  replace b4 := b4.later (below_plus _ x.bs x.d)
  clear yW0 yW6
  generalize plus V1 x.bs x.d = V2 at *
  have zb2 : b < V2.heap.size := Nat.lt_of_lt_of_le hbl be.size
  go_upto_region 9 with (first
    | (refine at_op (.store 35 (.tmp 11) (.tmp 70)) rfl ?_; refine wpList_stA (t := 35) 35 (.tmp 11) (.tmp 70) rfl rfl (qC false 0 0 false 0 0 0 0 0 0 false) (qC false 0 0 false 0 0 0 0 0 0 false) rfl (qC_one _ _ _ _ _ _ _ _ _ _ _) rfl rfl ?_ (szRQ _ _ _ _ _ _ _ _ _ _ _) ?_; (· refine Bk.newK _ _ _ ?_ rfl; simp [size_plus]); intro W1 hX g1))
  have z1 := be.size
  have z4 := b4.lt
  have b1 := below_grown (Below.allocS (Below.refl V2.heap.size V2) _) g1 (Nat.le_refl _)
  replace be := be.trans (b1.mono z1)
  replace b4 := b4.later b1
  have hg : w.heap.size < V2.heap.size := by omega
  clear b1 g1
  generalize V2.heap.size = g11 at *
  have zX := hX.lt
  go_upto_region 10 with (first
    | (go_at_call 55; (with_reducible refine (H1.out _ be).mono ?_); rintro e w1 ⟨bs0, ds0, rfl, rfl⟩)
    | (replace hX := hX.later (below_plus _ bs0 ds0); (refine at_op (.store 26 (.tmp 82) (.tmp 79)) rfl ?_; refine wpList_stM (t := 35) 26 (.tmp 82) (.tmp 79) rfl rfl (adC s1 h1 l1) _ (by simp [adC, qC]) (adC_one _ _ _) rfl rfl hX (szAd _ _ _) ?_; intro W2 hX0 gx0)))
  simp only [splice, adC, qC, List.take_succ_cons, List.take_zero, List.drop_succ_cons, List.drop_zero, List.length_cons, List.length_nil, Nat.zero_add, Nat.reduceAdd, List.cons_append, List.nil_append] at hX0
  replace b4 := (b4.later (below_plus _ bs0 ds0)).grown gx0 (by simp; omega)
  replace be := below_grown (belowP be bs0 ds0) gx0 (by omega)
  clear hX gx0
  have hX := hX0
  clear hX0
  have zX := hX.lt
  go_upto_region 11 with (first
    | (go_at_call 55; (with_reducible refine (H2.out _ be).mono ?_); rintro e w1 ⟨bs1, ds1, rfl, rfl⟩)
    | (replace hX := hX.later (below_plus _ bs1 ds1); (refine at_op (.store 26 (.tmp 97) (.tmp 94)) rfl ?_; refine wpList_stM (t := 35) 26 (.tmp 97) (.tmp 94) rfl rfl (adC s2 h2 l2) _ (by simp [adC, qC]) (adC_one _ _ _) rfl rfl hX (szAd _ _ _) ?_; intro W3 hX1 gx1)))
  simp only [splice, adC, qC, List.take_succ_cons, List.take_zero, List.drop_succ_cons, List.drop_zero, List.length_cons, List.length_nil, Nat.zero_add, Nat.reduceAdd, List.cons_append, List.nil_append] at hX1
  replace b4 := (b4.later (below_plus _ bs1 ds1)).grown gx1 (by simp; omega)
  replace be := below_grown (belowP be bs1 ds1) gx1 (by omega)
  clear hX gx1
  have hX := hX1
  clear hX1
  have zX := hX.lt
  go_upto_region 12 with (refine at_op (.store 5 (.tmp 101) (.tmp 99)) rfl ?_; refine wpList_st1 5 (.tmp 101) (.tmp 99) rfl rfl rfl rfl hX (by simp [qC]) rfl (by kernel_rfl) ?_; intro W4 hX4 g4)
  replace b4 := b4.grown g4 (by simp; omega)
  replace be := below_grown be g4 (by omega)
  simp only [List.set_cons_succ, List.set_cons_zero] at hX4
  clear hX g4
  go_upto_region 13 with (first
    | (go_at_call 54; (with_reducible refine (HSP.out _ (h.later be)).mono ?_); rintro e w1 ⟨rfl, rfl⟩)
    | (refine at_op (.store 27 (.tmp 107) (.tmp 105)) rfl ?_; refine wpList_st1 27 (.tmp 107) (.tmp 105) rfl rfl rfl rfl hX4 (by simp [qC]) rfl (by kernel_rfl) ?_; intro W5 hX5 g5))
  replace b4 := b4.grown g5 (by simp; omega)
  replace be := below_grown be g5 (by omega)
  simp only [List.set_cons_succ, List.set_cons_zero] at hX5
  clear hX4 g5
  go_upto_region 14 with (first
    | (go_at_call 54; (with_reducible refine (HDP.out _ (h.later be)).mono ?_); rintro e w1 ⟨rfl, rfl⟩)
    | (refine at_op (.store 27 (.tmp 114) (.tmp 112)) rfl ?_; refine wpList_st1 27 (.tmp 114) (.tmp 112) rfl rfl rfl rfl hX5 (by simp [qC]) rfl (by kernel_rfl) ?_; intro W6 hX6 g6))
  replace b4 := b4.grown g6 (by simp; omega)
  replace be := below_grown be g6 (by omega)
  simp only [List.set_cons_succ, List.set_cons_zero] at hX6
  clear hX5 g6
  have z6 := be.size
  have z46 := b4.lt
  have zX6 := hX6.lt
  go_wp2_with fail
  refine (HPA.out _ be).mono ?_
  rintro e w1 ⟨Ao, no, ko, Ap, np, kp, bs7, d7, rfl, rfl, ho, -⟩
  go_upto_region 15 with (refine at_op (.store 56 (.tmp 12) (.tmp 120)) rfl ?_; refine wpList_stA (t := 56) 56 (.tmp 12) (.tmp 120) rfl rfl ([.int .u16 (x0 : Int), .int .u16 (x1 : Int), .int .u32 (x2 : Int), .int .u32 (x3 : Int), .int .u8 (x4 : Int), .int .u16 (x5 : Int), .int .u16 (x6 : Int), .int .u16 (x7 : Int), .slice Ao no ko, .slice Ap np kp]) ([.int .u16 0, .int .u16 0, .int .u32 0, .int .u32 0, .int .u8 0, .int .u16 0, .int .u16 0, .int .u16 0, .slice none 0 0, .slice none 0 0]) rfl (by simp [Value.oneCell']) rfl rfl ?_ (by kernel_rfl) ?_; (· refine Bk.newK _ _ _ ?_ rfl; simp [size_plus]); intro W7 hS g7)
  have b7 := below_grown (Below.allocS (below_plus W6 bs7 d7) _) g7 (by omega)
  replace be := be.trans (b7.mono z6)
  replace b4 := b4.later b7
  replace hX6 := hX6.later b7
  replace ho := ho.later (below_grown (Below.allocS (Below.refl _ _) _) g7 (by simp [size_plus]))
  clear b7 g7
  generalize W6.heap.size + bs7.length = g12 at *
  have yo : W7.cell? ⟨g12, 8, none⟩ = some (.slice Ao no ko) := hS.cell 8
  have zS := hS.lt
  go_wp2_with fail
  refine (HT.out _ _ _ _ ho).mono ?_
  rintro e w1 ⟨rfl, rfl⟩
  replace hX6 : Bk W7 g11 35 (qC s1 h1 l1 s2 h2 l2 sp dp p6 0 false) := hX6
  go_wp2_with (first
    | (refine at_op (.load 35 (.tmp 11)) rfl ?_; refine wpList_ldA (t := 35) 35 (.tmp 11) rfl rfl (qC s1 h1 l1 s2 h2 l2 sp dp p6 0 false) rfl (hX6) (whole_ _) r1 r2 (szRQ _ _ _ _ _ _ _ _ _ _ _) ?_)
    | (refine at_op (.store 35 (.tmp 4) (.tmp 142)) rfl ?_; refine wpList_stA (t := 35) 35 (.tmp 4) (.tmp 142) rfl rfl (qC s1 h1 l1 s2 h2 l2 sp dp p6 0 false) (qC false 0 0 false 0 0 0 0 0 0 false) rfl (qC_one _ _ _ _ _ _ _ _ _ _ _) rfl rfl b4 (szRQ _ _ _ _ _ _ _ _ _ _ _) ?_; intro W9 h9 g9))
  refine bodyPost_agg2 Try.results14 rfl rfl h9.range r1 r2 (szRQ _ _ _ _ _ _ _ _ _ _ _) rfl (RetV.mk ?_)
  exact below_grown be g9 (by omega)
set_option maxHeartbeats 4000000 in
set_option maxRecDepth 100000 in
theorem refRead6_6z (A : Option Addr) (n c : Nat) (l : List UInt8) (w : World) (h : Rb w A n c l) (hm : n ≤ 1000000) (x p9 p6 f : Nat) (hx : num ((l.drop 0).take 1) = x) (hx9 : num ((l.drop 9).take 1) = p9) (hx6 : num ((l.drop 6).take 1) = p6) (hxf : num ((l.drop 6).take 2) = f) (hn : 20 ≤ n) (hv : x / 16 = 6) (hs8 : 48 ≤ n) (hp : p6 = 6) (s1 : Bool) (h1 l1 : Nat) (s2 : Bool) (h2 l2 sp dp : Nat) (x0 x1 x2 x3 x4 x5 x6 x7 : Nat) (o1 o2 : List UInt8) (E : Int) (hE : E = 0) (hSt : stampsAt o1 = none) (hsp : num ((l.drop 40).take 2) = sp) (hdp : num ((l.drop (40 + 2)).take 2) = dp) (hol : o1.length ≤ 1000000) (H1 : ∀ w', Below w.heap.size w w' → Calls Try.prog 55 #[.slice (cutA A c 8 1) 16 (c - 8)] w' (RetV w' (.tuple #[.agg (adC s1 h1 l1).toArray, .bool true]))) (H2 : ∀ w', Below w.heap.size w w' → Calls Try.prog 55 #[.slice (cutA A c 24 1) 16 (c - 24)] w' (RetV w' (.tuple #[.agg (adC s2 h2 l2).toArray, .bool true]))) (HPA : ∀ w', Below w.heap.size w w' → Calls Try.prog 56 #[.slice (cutA A c 40 1) (n - 40) (c - 40)] w' (RetSeg w' x0 x1 x2 x3 x4 x5 x6 x7 o1 o2 (.int .i64 E))) : Calls Try.prog 14 #[.slice A n c, .bool true] w (RetV w (.tuple #[.agg (qC s1 h1 l1 s2 h2 l2 sp dp p6 0 false).toArray, .bool true])) := by
  obtain ⟨dq, r1, r2⟩ := rowRQ
  have hc := h.2.1
  have hl := h.1
  obtain ⟨b, off, rfl, hbl, hcell⟩ := h.2.2.at_ (by rw [bcs_length, h.1]; omega)
  have y0 := num_cell hcell 0 (by omega)
  rw [hx, Nat.add_zero] at y0
  have y9 := num_cell hcell 9 (by omega)
  have y6 := num_cell hcell 6 (by omega)
  rw [hx9] at y9
  rw [hx6] at y6
  have hx8 : x < 256 := by rw [← hx]; exact num_lt' l 0 1 256 (by decide)
  have hp9 : p9 < 256 := by rw [← hx9]; exact num_lt' l 9 1 256 (by decide)
  have hp6 : p6 < 256 := by rw [← hx6]; exact num_lt' l 6 1 256 (by decide)
  have i0 : (0 : Int) < (n : Int) := by omega
  have i0n : 0 < n := by omega
  have i6 : (6 : Int) < (n : Int) := by omega
  have i6n : 6 < n := by omega
  have i9 : (9 : Int) < (n : Int) := by omega
  have i9n : 9 < n := by omega
  have tai : decide ((n : Int) < 20) = false := by simp only [decide_eq_false_iff_not]; omega
  have tan : decide (n < 20) = false := by simp only [decide_eq_false_iff_not]; omega
  obtain ⟨q, hq⟩ : ∃ q : Nat, q = x / 16 := ⟨_, rfl⟩
  have e1 : (x : Int) / 16 = (q : Int) := by omega
  have e1m : (q : Int) % 256 = (q : Int) := by omega
  obtain ⟨m, hm0⟩ : ∃ m : Nat, x % 16 = m := ⟨_, rfl⟩
  have v0 : (x : Int) % 16 = (m : Int) := by omega
  have v0t : (x : Int).tmod 16 = (m : Int) := by rw [Int.tmod_eq_emod_of_nonneg (by omega)]; omega
  have v1 : IntKind.i64.wrap (m : Int) = (m : Int) := IntWalk.i64_in _ (by omega)
  obtain ⟨z, hz⟩ : ∃ z : Nat, z = 4 * m := ⟨_, rfl⟩
  have v2 : IntKind.i64.wrap ((m : Int) * 4) = (z : Int) := by rw [IntWalk.i64_in _ (by omega)]; omega
  have v3 : IntKind.i64.wrap (p9 : Int) = (p9 : Int) := IntWalk.i64_in _ (by omega)
  have v4 : IntKind.i64.wrap (p6 : Int) = (p6 : Int) := IntWalk.i64_in _ (by omega)
  obtain ⟨z8, hz8⟩ : ∃ k : Nat, k = z + 8 := ⟨_, rfl⟩
  have v5 : IntKind.i64.wrap ((z : Int) + 8) = (z8 : Int) := by rw [IntWalk.i64_in _ (by omega)]; omega
  have nv : ((q : Int) != 6) = false := by rw [bne_eq_false_iff_eq]; omega
  have tci : decide ((n : Int) < 48) = false := by simp only [decide_eq_false_iff_not]; omega
  have tcn : decide (n < 48) = false := by simp only [decide_eq_false_iff_not]; omega
  have n6 : ((p6 : Int) != 6) = false := by rw [bne_eq_false_iff_eq]; omega
  have n6e : ((p6 : Int) == 6) = true := by rw [beq_iff_eq]; omega
  have wu8 : IntKind.u8.wrap (p6 : Int) = (p6 : Int) := IntWalk.u8_in _ (by omega)
  have wm8 : (p6 : Int) % 256 = (p6 : Int) := by omega
  have hsp16 : sp < 65536 := by rw [← hsp]; exact num_lt' l _ 2 65536 (by decide)
  have hdp16 : dp < 65536 := by rw [← hdp]; exact num_lt' l _ 2 65536 (by decide)
  have wsp : IntKind.u16.wrap (sp : Int) = (sp : Int) := IntWalk.u16_in _ (by omega)
  have wdp : IntKind.u16.wrap (dp : Int) = (dp : Int) := IntWalk.u16_in _ (by omega)
  have htv : resT (stampsAt o1) = .int .i64 (-1) := by rw [hSt]; rfl
  have HT := Lib.hid (fun A n c w (h : Rb w A n c o1) => (by have := refStamps_any A n c o1 w h (by rw [← h.1]; exact hol); rwa [htv] at this : Calls Try.prog 57 #[.slice A n c] w fun e w' => e = .returned (.int .i64 (-1)) ∧ w = w'))
  have HSP := Lib.hid (fun w (h : Rb w (some ⟨b, off, none⟩) n c l) => refGetV _ n c l (40 : Int) 2 40 2 sp w h rfl rfl hsp (by omega) (by omega) (by omega))
  have HDP := Lib.hid (fun w (h : Rb w (some ⟨b, off, none⟩) n c l) => refGetV _ n c l (42 : Int) 2 42 2 dp w h rfl rfl hdp (by omega) (by omega) (by omega))
  have j8a : (24 : Int) ≤ (c : Int) := by omega
  have j8b : (40 : Int) ≤ (c : Int) := by omega
  replace H1 := Lib.hid H1
  replace H2 := Lib.hid H2
  replace HPA := Lib.hid HPA
  have j40 : (40 : Int) ≤ (n : Int) := by omega
  have j40c : (40 : Int) ≤ (c : Int) := by omega
  subst hE
  clear hv hs8 hp hx hx9 hx6 hxf hq hm0 hz hz8 hm hn hsp hdp hsp16 hdp16 htv hol hSt
  have b4 : Bk (w.alloc (.cells #[.bool false, .int .u64 0, .int .u64 0, .bool false, .int .u64 0, .int .u64 0, .int .u16 0, .int .u16 0, .int .u8 0, .int .u32 0, .bool false] 35)) w.heap.size 35 (qC false 0 0 false 0 0 0 0 0 0 false) := Bk.new w 35 #[.bool false, .int .u64 0, .int .u64 0, .bool false, .int .u64 0, .int .u64 0, .int .u16 0, .int .u16 0, .int .u8 0, .int .u32 0, .bool false]
  have be : Below w.heap.size w (w.alloc (.cells #[.bool false, .int .u64 0, .int .u64 0, .bool false, .int .u64 0, .int .u64 0, .int .u16 0, .int .u16 0, .int .u8 0, .int .u32 0, .bool false] 35)) := Below.allocS (Below.refl _ _) _
  have yV0 := (be.cell (p := ⟨b, off, none⟩) hbl).trans y0
  have yV9 := (be.cell (p := ⟨b, off + 9, none⟩) hbl).trans y9
  have yV6 := (be.cell (p := ⟨b, off + 6, none⟩) hbl).trans y6
  have zV := be.size
  clear hcell y0 y9 y6
  go_enter Try.func14, Try.ntmps14
  go_upto_region 3 with (fail)
  generalize w.alloc (.cells #[.bool false, .int .u64 0, .int .u64 0, .bool false, .int .u64 0, .int .u64 0, .int .u16 0, .int .u16 0, .int .u8 0, .int .u32 0, .bool false] 35) = V at *
  have zb : b < V.heap.size := by omega
  go_wp2
  refine wp_relS 15 143 rfl (by kernel_rfl) (by kernel_rfl) ?_
  apply Steps.one (MP.eq _) 1 rfl
  · intro o ho FA x hO hD K hK
    obtain rfl := Option.some.inj ho.symm
    clear ho
    have e0 := hO 0 (by kernel_rfl)
    simp only [eval_tmp, List.getElem?_toArray, List.getElem?_cons_succ, List.getElem?_cons_zero, Option.getD_some] at e0
    have ev0 := Lib.hid ((eval_tmp FA 0).trans e0)
    clear hO hD
    go_simp
    exact hK.out _ _ (Ex.refl _) rfl
  apply Steps.one (MP.eq _) 2 rfl
  · intro o ho FA x hO hD K hK
    obtain rfl := Option.some.inj ho.symm
    clear ho
    have ev19 : FA.eval (.tmp 19) = _ := hD 0 19 (by kernel_rfl)
    have e19 := (eval_tmp FA 19).symm.trans ev19
    replace ev19 := Lib.hid ev19
    clear hO hD
    go_simp
    exact hK.out _ _ (Ex.refl _) rfl
  apply Steps.one (MP.eq _) 3 rfl
  · intro o ho FA x hO hD K hK
    obtain rfl := Option.some.inj ho.symm
    clear ho
    have ev20 : FA.eval (.tmp 20) = _ := hD 1 20 (by kernel_rfl)
    have e20 := (eval_tmp FA 20).symm.trans ev20
    replace ev20 := Lib.hid ev20
    clear hO hD
    go_simp
    exact hK.out _ _ (Ex.refl _) rfl
  apply Steps.one (MP.eq _) 4 rfl
  · intro o ho FA x hO hD K hK
    obtain rfl := Option.some.inj ho.symm
    clear ho
    have ev21 : FA.eval (.tmp 21) = _ := hD 2 21 (by kernel_rfl)
    have e21 := (eval_tmp FA 21).symm.trans ev21
    replace ev21 := Lib.hid ev21
    clear hO hD
    go_simp
    exact hK.out _ _ (Ex.refl _) rfl
  apply Steps.one (MP.eq _) 5 rfl
  · intro o ho FA x hO hD K hK
    obtain rfl := Option.some.inj ho.symm
    clear ho
    have ev22 : FA.eval (.tmp 22) = _ := hD 3 22 (by kernel_rfl)
    have e22 := (eval_tmp FA 22).symm.trans ev22
    replace ev22 := Lib.hid ev22
    clear hO hD
    go_simp
    exact hK.out _ _ (Ex.refl _) rfl
  apply Steps.one (MP.eq _) 6 rfl
  · intro o ho FA x hO hD K hK
    obtain rfl := Option.some.inj ho.symm
    clear ho
    have ev23 : FA.eval (.tmp 23) = _ := hD 4 23 (by kernel_rfl)
    have e23 := (eval_tmp FA 23).symm.trans ev23
    replace ev23 := Lib.hid ev23
    clear hO hD
    go_simp
    exact hK.out _ _ (Ex.refl _) rfl
  apply Steps.one (MP.eq _) 7 rfl
  · intro o ho FA x hO hD K hK
    obtain rfl := Option.some.inj ho.symm
    clear ho
    have e0 := hO 0 (by kernel_rfl)
    simp only [eval_tmp, List.getElem?_toArray, List.getElem?_cons_succ, List.getElem?_cons_zero, Option.getD_some] at e0
    have ev0 := Lib.hid ((eval_tmp FA 0).trans e0)
    clear hO hD
    go_simp
    exact hK.out _ _ (Ex.refl _) rfl
  apply Steps.one (MP.eq _) 8 rfl
  · intro o ho FA x hO hD K hK
    obtain rfl := Option.some.inj ho.symm
    clear ho
    have ev25 : FA.eval (.tmp 25) = _ := hD 6 25 (by kernel_rfl)
    have e25 := (eval_tmp FA 25).symm.trans ev25
    replace ev25 := Lib.hid ev25
    clear hO hD
    go_simp
    exact hK.out _ _ (Ex.refl _) rfl
  apply Steps.one (MP.eq _) 9 rfl
  · intro o ho FA x hO hD K hK
    obtain rfl := Option.some.inj ho.symm
    clear ho
    have ev26 : FA.eval (.tmp 26) = _ := hD 7 26 (by kernel_rfl)
    have e26 := (eval_tmp FA 26).symm.trans ev26
    replace ev26 := Lib.hid ev26
    clear hO hD
    go_simp
    exact hK.out _ _ (Ex.refl _) rfl
  apply Steps.one (MP.eq _) 10 rfl
  · intro o ho FA x hO hD K hK
    obtain rfl := Option.some.inj ho.symm
    clear ho
    have ev27 : FA.eval (.tmp 27) = _ := hD 8 27 (by kernel_rfl)
    have e27 := (eval_tmp FA 27).symm.trans ev27
    replace ev27 := Lib.hid ev27
    clear hO hD
    go_simp
    exact hK.out _ _ (Ex.refl _) rfl
  apply Steps.one (MP.eq _) 11 rfl
  · intro o ho FA x hO hD K hK
    obtain rfl := Option.some.inj ho.symm
    clear ho
    have ev24 : FA.eval (.tmp 24) = _ := hD 5 24 (by kernel_rfl)
    have e24 := (eval_tmp FA 24).symm.trans ev24
    replace ev24 := Lib.hid ev24
    clear hO hD
    go_simp
    exact hK.out _ _ (Ex.refl _) rfl
  apply Steps.one (MP.eq _) 12 rfl
  · intro o ho FA x hO hD K hK
    obtain rfl := Option.some.inj ho.symm
    clear ho
    clear hO hD
    go_simp
    exact hK.out _ _ (Ex.refl _) rfl
  apply Steps.one (MP.eq _) 13 rfl
  · intro o ho FA x hO hD K hK
    obtain rfl := Option.some.inj ho.symm
    clear ho
    clear hO hD
    go_simp
    exact hK.out _ _ (Ex.refl _) rfl
  apply Steps.one (MP.eq _) 14 rfl
  · intro o ho FA x hO hD K hK
    obtain rfl := Option.some.inj ho.symm
    clear ho
    have ev28 : FA.eval (.tmp 28) = _ := hD 9 28 (by kernel_rfl)
    have e28 := (eval_tmp FA 28).symm.trans ev28
    replace ev28 := Lib.hid ev28
    clear hO hD
    go_simp
    exact hK.out _ _ (Ex.refl _) rfl
  apply Steps.one (MP.eq _) 15 rfl
  · intro o ho FA x hO hD K hK
    obtain rfl := Option.some.inj ho.symm
    clear ho
    clear hO hD
    go_simp
    exact hK.out _ _ (Ex.refl _) rfl
  refine Steps.fin_ (fun vs x hp => ?_)
  have p0 : vs 0 = _ := hp 0 (by omega)
  have p1 : vs 1 = _ := hp 1 (by omega)
  have p2 : vs 2 = _ := hp 2 (by omega)
  have p3 : vs 3 = _ := hp 3 (by omega)
  have p4 : vs 4 = _ := hp 4 (by omega)
  have p5 : vs 5 = _ := hp 5 (by omega)
  have p6 : vs 6 = _ := hp 6 (by omega)
  have p7 : vs 7 = _ := hp 7 (by omega)
  have p8 : vs 8 = _ := hp 8 (by omega)
  have p9 : vs 9 = _ := hp 9 (by omega)
  have p10 : vs 10 = _ := hp 10 (by omega)
  have p11 : vs 11 = _ := hp 11 (by omega)
  have p12 : vs 12 = _ := hp 12 (by omega)
  have p13 : vs 13 = _ := hp 13 (by omega)
  have p14 : vs 14 = _ := hp 14 (by omega)
  clear hp
  simp only [List.take_succ_cons, List.take_zero, List.drop_succ_cons, List.drop_zero, putAll, Nat.zero_add, Nat.reduceAdd, Act.put, List.setIfInBounds_toArray, List.set_cons_zero, List.set_cons_succ, p0, p1, p2, p3, p4, p5, p6, p7, p8, p9, p10, p11, p12, p13, p14]
  clear p0 p1 p2 p3 p4 p5 p6 p7 p8 p9 p10 p11 p12 p13 p14
  clear vs
  have zs := be.size
  have yW0 := (cell_plus V x.bs x.d b off zb).trans yV0
  have yW6 := (cell_plus V x.bs x.d b (off + 6) zb).trans yV6
  replace be := belowP be x.bs x.d
  replace b4 := b4.later (below_plus _ x.bs x.d)
  clear yV0 yV6 yV9
  generalize plus V x.bs x.d = V1 at *
  have zb1 : b < V1.heap.size := Nat.lt_of_lt_of_le hbl be.size
  go_upto_region 5 with (fail)
  go_wp2
  refine wp_relS 9 143 rfl (by kernel_rfl) (by kernel_rfl) ?_
  apply Steps.one (MP.eq _) 1 rfl
  · intro o ho FA x hO hD K hK
    obtain rfl := Option.some.inj ho.symm
    clear ho
    have e0 := hO 0 (by kernel_rfl)
    simp only [eval_tmp, List.getElem?_toArray, List.getElem?_cons_succ, List.getElem?_cons_zero, Option.getD_some] at e0
    have ev0 := Lib.hid ((eval_tmp FA 0).trans e0)
    clear hO hD
    go_simp
    exact hK.out _ _ (Ex.refl _) rfl
  apply Steps.one (MP.eq _) 2 rfl
  · intro o ho FA x hO hD K hK
    obtain rfl := Option.some.inj ho.symm
    clear ho
    have ev30 : FA.eval (.tmp 30) = _ := hD 0 30 (by kernel_rfl)
    have e30 := (eval_tmp FA 30).symm.trans ev30
    replace ev30 := Lib.hid ev30
    clear hO hD
    go_simp
    exact hK.out _ _ (Ex.refl _) rfl
  apply Steps.one (MP.eq _) 3 rfl
  · intro o ho FA x hO hD K hK
    obtain rfl := Option.some.inj ho.symm
    clear ho
    have ev31 : FA.eval (.tmp 31) = _ := hD 1 31 (by kernel_rfl)
    have e31 := (eval_tmp FA 31).symm.trans ev31
    replace ev31 := Lib.hid ev31
    clear hO hD
    go_simp
    exact hK.out _ _ (Ex.refl _) rfl
  apply Steps.one (MP.eq _) 4 rfl
  · intro o ho FA x hO hD K hK
    obtain rfl := Option.some.inj ho.symm
    clear ho
    have ev32 : FA.eval (.tmp 32) = _ := hD 2 32 (by kernel_rfl)
    have e32 := (eval_tmp FA 32).symm.trans ev32
    replace ev32 := Lib.hid ev32
    clear hO hD
    go_simp
    exact hK.out _ _ (Ex.refl _) rfl
  apply Steps.one (MP.eq _) 5 rfl
  · intro o ho FA x hO hD K hK
    obtain rfl := Option.some.inj ho.symm
    clear ho
    clear hO hD
    go_simp
    exact hK.out _ _ (Ex.refl _) rfl
  apply Steps.one (MP.eq _) 6 rfl
  · intro o ho FA x hO hD K hK
    obtain rfl := Option.some.inj ho.symm
    clear ho
    clear hO hD
    go_simp
    exact hK.out _ _ (Ex.refl _) rfl
  apply Steps.one (MP.eq _) 7 rfl
  · intro o ho FA x hO hD K hK
    obtain rfl := Option.some.inj ho.symm
    clear ho
    clear hO hD
    go_simp
    exact hK.out _ _ (Ex.refl _) rfl
  apply Steps.one (MP.eq _) 8 rfl
  · intro o ho FA x hO hD K hK
    obtain rfl := Option.some.inj ho.symm
    clear ho
    have ev33 : FA.eval (.tmp 33) = _ := hD 3 33 (by kernel_rfl)
    have e33 := (eval_tmp FA 33).symm.trans ev33
    replace ev33 := Lib.hid ev33
    clear hO hD
    go_simp
    exact hK.out _ _ (Ex.refl _) rfl
  apply Steps.one (MP.eq _) 9 rfl
  · intro o ho FA x hO hD K hK
    obtain rfl := Option.some.inj ho.symm
    clear ho
    clear hO hD
    go_simp
    exact hK.out _ _ (Ex.refl _) rfl
  refine Steps.fin_ (fun vs x hp => ?_)
  have p0 : vs 0 = _ := hp 0 (by omega)
  have p1 : vs 1 = _ := hp 1 (by omega)
  have p2 : vs 2 = _ := hp 2 (by omega)
  have p3 : vs 3 = _ := hp 3 (by omega)
  have p4 : vs 4 = _ := hp 4 (by omega)
  have p5 : vs 5 = _ := hp 5 (by omega)
  have p6 : vs 6 = _ := hp 6 (by omega)
  have p7 : vs 7 = _ := hp 7 (by omega)
  have p8 : vs 8 = _ := hp 8 (by omega)
  clear hp
  simp only [List.take_succ_cons, List.take_zero, List.drop_succ_cons, List.drop_zero, putAll, Nat.zero_add, Nat.reduceAdd, Act.put, List.setIfInBounds_toArray, List.set_cons_zero, List.set_cons_succ, p0, p1, p2, p3, p4, p5, p6, p7, p8]
  clear p0 p1 p2 p3 p4 p5 p6 p7 p8
  clear vs
  have zs2 := be.size
  have yX0 := (cell_plus V1 x.bs x.d b off zb1).trans yW0
  have yX6 := (cell_plus V1 x.bs x.d b (off + 6) zb1).trans yW6
  replace be := belowP be x.bs x.d
  replace b4 := b4.later (below_plus _ x.bs x.d)
  clear yW0 yW6
  generalize plus V1 x.bs x.d = V2 at *
  have zb2 : b < V2.heap.size := Nat.lt_of_lt_of_le hbl be.size
  go_upto_region 9 with (first
    | (refine at_op (.store 35 (.tmp 11) (.tmp 70)) rfl ?_; refine wpList_stA (t := 35) 35 (.tmp 11) (.tmp 70) rfl rfl (qC false 0 0 false 0 0 0 0 0 0 false) (qC false 0 0 false 0 0 0 0 0 0 false) rfl (qC_one _ _ _ _ _ _ _ _ _ _ _) rfl rfl ?_ (szRQ _ _ _ _ _ _ _ _ _ _ _) ?_; (· refine Bk.newK _ _ _ ?_ rfl; simp [size_plus]); intro W1 hX g1))
  have z1 := be.size
  have z4 := b4.lt
  have b1 := below_grown (Below.allocS (Below.refl V2.heap.size V2) _) g1 (Nat.le_refl _)
  replace be := be.trans (b1.mono z1)
  replace b4 := b4.later b1
  have hg : w.heap.size < V2.heap.size := by omega
  clear b1 g1
  generalize V2.heap.size = g11 at *
  have zX := hX.lt
  go_upto_region 10 with (first
    | (go_at_call 55; (with_reducible refine (H1.out _ be).mono ?_); rintro e w1 ⟨bs0, ds0, rfl, rfl⟩)
    | (replace hX := hX.later (below_plus _ bs0 ds0); (refine at_op (.store 26 (.tmp 82) (.tmp 79)) rfl ?_; refine wpList_stM (t := 35) 26 (.tmp 82) (.tmp 79) rfl rfl (adC s1 h1 l1) _ (by simp [adC, qC]) (adC_one _ _ _) rfl rfl hX (szAd _ _ _) ?_; intro W2 hX0 gx0)))
  simp only [splice, adC, qC, List.take_succ_cons, List.take_zero, List.drop_succ_cons, List.drop_zero, List.length_cons, List.length_nil, Nat.zero_add, Nat.reduceAdd, List.cons_append, List.nil_append] at hX0
  replace b4 := (b4.later (below_plus _ bs0 ds0)).grown gx0 (by simp; omega)
  replace be := below_grown (belowP be bs0 ds0) gx0 (by omega)
  clear hX gx0
  have hX := hX0
  clear hX0
  have zX := hX.lt
  go_upto_region 11 with (first
    | (go_at_call 55; (with_reducible refine (H2.out _ be).mono ?_); rintro e w1 ⟨bs1, ds1, rfl, rfl⟩)
    | (replace hX := hX.later (below_plus _ bs1 ds1); (refine at_op (.store 26 (.tmp 97) (.tmp 94)) rfl ?_; refine wpList_stM (t := 35) 26 (.tmp 97) (.tmp 94) rfl rfl (adC s2 h2 l2) _ (by simp [adC, qC]) (adC_one _ _ _) rfl rfl hX (szAd _ _ _) ?_; intro W3 hX1 gx1)))
  simp only [splice, adC, qC, List.take_succ_cons, List.take_zero, List.drop_succ_cons, List.drop_zero, List.length_cons, List.length_nil, Nat.zero_add, Nat.reduceAdd, List.cons_append, List.nil_append] at hX1
  replace b4 := (b4.later (below_plus _ bs1 ds1)).grown gx1 (by simp; omega)
  replace be := below_grown (belowP be bs1 ds1) gx1 (by omega)
  clear hX gx1
  have hX := hX1
  clear hX1
  have zX := hX.lt
  go_upto_region 12 with (refine at_op (.store 5 (.tmp 101) (.tmp 99)) rfl ?_; refine wpList_st1 5 (.tmp 101) (.tmp 99) rfl rfl rfl rfl hX (by simp [qC]) rfl (by kernel_rfl) ?_; intro W4 hX4 g4)
  replace b4 := b4.grown g4 (by simp; omega)
  replace be := below_grown be g4 (by omega)
  simp only [List.set_cons_succ, List.set_cons_zero] at hX4
  clear hX g4
  go_upto_region 13 with (first
    | (go_at_call 54; (with_reducible refine (HSP.out _ (h.later be)).mono ?_); rintro e w1 ⟨rfl, rfl⟩)
    | (refine at_op (.store 27 (.tmp 107) (.tmp 105)) rfl ?_; refine wpList_st1 27 (.tmp 107) (.tmp 105) rfl rfl rfl rfl hX4 (by simp [qC]) rfl (by kernel_rfl) ?_; intro W5 hX5 g5))
  replace b4 := b4.grown g5 (by simp; omega)
  replace be := below_grown be g5 (by omega)
  simp only [List.set_cons_succ, List.set_cons_zero] at hX5
  clear hX4 g5
  go_upto_region 14 with (first
    | (go_at_call 54; (with_reducible refine (HDP.out _ (h.later be)).mono ?_); rintro e w1 ⟨rfl, rfl⟩)
    | (refine at_op (.store 27 (.tmp 114) (.tmp 112)) rfl ?_; refine wpList_st1 27 (.tmp 114) (.tmp 112) rfl rfl rfl rfl hX5 (by simp [qC]) rfl (by kernel_rfl) ?_; intro W6 hX6 g6))
  replace b4 := b4.grown g6 (by simp; omega)
  replace be := below_grown be g6 (by omega)
  simp only [List.set_cons_succ, List.set_cons_zero] at hX6
  clear hX5 g6
  have z6 := be.size
  have z46 := b4.lt
  have zX6 := hX6.lt
  go_wp2_with fail
  refine (HPA.out _ be).mono ?_
  rintro e w1 ⟨Ao, no, ko, Ap, np, kp, bs7, d7, rfl, rfl, ho, -⟩
  go_upto_region 15 with (refine at_op (.store 56 (.tmp 12) (.tmp 120)) rfl ?_; refine wpList_stA (t := 56) 56 (.tmp 12) (.tmp 120) rfl rfl ([.int .u16 (x0 : Int), .int .u16 (x1 : Int), .int .u32 (x2 : Int), .int .u32 (x3 : Int), .int .u8 (x4 : Int), .int .u16 (x5 : Int), .int .u16 (x6 : Int), .int .u16 (x7 : Int), .slice Ao no ko, .slice Ap np kp]) ([.int .u16 0, .int .u16 0, .int .u32 0, .int .u32 0, .int .u8 0, .int .u16 0, .int .u16 0, .int .u16 0, .slice none 0 0, .slice none 0 0]) rfl (by simp [Value.oneCell']) rfl rfl ?_ (by kernel_rfl) ?_; (· refine Bk.newK _ _ _ ?_ rfl; simp [size_plus]); intro W7 hS g7)
  have b7 := below_grown (Below.allocS (below_plus W6 bs7 d7) _) g7 (by omega)
  replace be := be.trans (b7.mono z6)
  replace b4 := b4.later b7
  replace hX6 := hX6.later b7
  replace ho := ho.later (below_grown (Below.allocS (Below.refl _ _) _) g7 (by simp [size_plus]))
  clear b7 g7
  generalize W6.heap.size + bs7.length = g12 at *
  have yo : W7.cell? ⟨g12, 8, none⟩ = some (.slice Ao no ko) := hS.cell 8
  have zS := hS.lt
  go_wp2_with fail
  refine (HT.out _ _ _ _ ho).mono ?_
  rintro e w1 ⟨rfl, rfl⟩
  replace hX6 : Bk W7 g11 35 (qC s1 h1 l1 s2 h2 l2 sp dp p6 0 false) := hX6
  go_wp2_with (first
    | (refine at_op (.load 35 (.tmp 11)) rfl ?_; refine wpList_ldA (t := 35) 35 (.tmp 11) rfl rfl (qC s1 h1 l1 s2 h2 l2 sp dp p6 0 false) rfl (hX6) (whole_ _) r1 r2 (szRQ _ _ _ _ _ _ _ _ _ _ _) ?_)
    | (refine at_op (.store 35 (.tmp 4) (.tmp 142)) rfl ?_; refine wpList_stA (t := 35) 35 (.tmp 4) (.tmp 142) rfl rfl (qC s1 h1 l1 s2 h2 l2 sp dp p6 0 false) (qC false 0 0 false 0 0 0 0 0 0 false) rfl (qC_one _ _ _ _ _ _ _ _ _ _ _) rfl rfl b4 (szRQ _ _ _ _ _ _ _ _ _ _ _) ?_; intro W9 h9 g9))
  refine bodyPost_agg2 Try.results14 rfl rfl h9.range r1 r2 (szRQ _ _ _ _ _ _ _ _ _ _ _) rfl (RetV.mk ?_)
  exact below_grown be g9 (by omega)
set_option maxHeartbeats 4000000 in
set_option maxRecDepth 100000 in
theorem refRead6_6s (A : Option Addr) (n c : Nat) (l : List UInt8) (w : World) (h : Rb w A n c l) (hm : n ≤ 1000000) (x p9 p6 f : Nat) (hx : num ((l.drop 0).take 1) = x) (hx9 : num ((l.drop 9).take 1) = p9) (hx6 : num ((l.drop 6).take 1) = p6) (hxf : num ((l.drop 6).take 2) = f) (hn : 20 ≤ n) (hv : x / 16 = 6) (hs8 : 48 ≤ n) (hp : p6 = 6) (s1 : Bool) (h1 l1 : Nat) (s2 : Bool) (h2 l2 sp dp : Nat) (x0 x1 x2 x3 x4 x5 x6 x7 : Nat) (o1 o2 : List UInt8) (E : Int) (at_ v : Nat) (hE : E = 0) (hSt : stampsAt o1 = some at_) (hv_ : num ((o1.drop at_).take 4) = v) (hsp : num ((l.drop 40).take 2) = sp) (hdp : num ((l.drop (40 + 2)).take 2) = dp) (hol : o1.length ≤ 1000000) (H1 : ∀ w', Below w.heap.size w w' → Calls Try.prog 55 #[.slice (cutA A c 8 1) 16 (c - 8)] w' (RetV w' (.tuple #[.agg (adC s1 h1 l1).toArray, .bool true]))) (H2 : ∀ w', Below w.heap.size w w' → Calls Try.prog 55 #[.slice (cutA A c 24 1) 16 (c - 24)] w' (RetV w' (.tuple #[.agg (adC s2 h2 l2).toArray, .bool true]))) (HPA : ∀ w', Below w.heap.size w w' → Calls Try.prog 56 #[.slice (cutA A c 40 1) (n - 40) (c - 40)] w' (RetSeg w' x0 x1 x2 x3 x4 x5 x6 x7 o1 o2 (.int .i64 E))) : Calls Try.prog 14 #[.slice A n c, .bool true] w (RetV w (.tuple #[.agg (qC s1 h1 l1 s2 h2 l2 sp dp p6 v true).toArray, .bool true])) := by
  obtain ⟨dq, r1, r2⟩ := rowRQ
  have hc := h.2.1
  have hl := h.1
  obtain ⟨b, off, rfl, hbl, hcell⟩ := h.2.2.at_ (by rw [bcs_length, h.1]; omega)
  have y0 := num_cell hcell 0 (by omega)
  rw [hx, Nat.add_zero] at y0
  have y9 := num_cell hcell 9 (by omega)
  have y6 := num_cell hcell 6 (by omega)
  rw [hx9] at y9
  rw [hx6] at y6
  have hx8 : x < 256 := by rw [← hx]; exact num_lt' l 0 1 256 (by decide)
  have hp9 : p9 < 256 := by rw [← hx9]; exact num_lt' l 9 1 256 (by decide)
  have hp6 : p6 < 256 := by rw [← hx6]; exact num_lt' l 6 1 256 (by decide)
  have i0 : (0 : Int) < (n : Int) := by omega
  have i0n : 0 < n := by omega
  have i6 : (6 : Int) < (n : Int) := by omega
  have i6n : 6 < n := by omega
  have i9 : (9 : Int) < (n : Int) := by omega
  have i9n : 9 < n := by omega
  have tai : decide ((n : Int) < 20) = false := by simp only [decide_eq_false_iff_not]; omega
  have tan : decide (n < 20) = false := by simp only [decide_eq_false_iff_not]; omega
  obtain ⟨q, hq⟩ : ∃ q : Nat, q = x / 16 := ⟨_, rfl⟩
  have e1 : (x : Int) / 16 = (q : Int) := by omega
  have e1m : (q : Int) % 256 = (q : Int) := by omega
  obtain ⟨m, hm0⟩ : ∃ m : Nat, x % 16 = m := ⟨_, rfl⟩
  have v0 : (x : Int) % 16 = (m : Int) := by omega
  have v0t : (x : Int).tmod 16 = (m : Int) := by rw [Int.tmod_eq_emod_of_nonneg (by omega)]; omega
  have v1 : IntKind.i64.wrap (m : Int) = (m : Int) := IntWalk.i64_in _ (by omega)
  obtain ⟨z, hz⟩ : ∃ z : Nat, z = 4 * m := ⟨_, rfl⟩
  have v2 : IntKind.i64.wrap ((m : Int) * 4) = (z : Int) := by rw [IntWalk.i64_in _ (by omega)]; omega
  have v3 : IntKind.i64.wrap (p9 : Int) = (p9 : Int) := IntWalk.i64_in _ (by omega)
  have v4 : IntKind.i64.wrap (p6 : Int) = (p6 : Int) := IntWalk.i64_in _ (by omega)
  obtain ⟨z8, hz8⟩ : ∃ k : Nat, k = z + 8 := ⟨_, rfl⟩
  have v5 : IntKind.i64.wrap ((z : Int) + 8) = (z8 : Int) := by rw [IntWalk.i64_in _ (by omega)]; omega
  have nv : ((q : Int) != 6) = false := by rw [bne_eq_false_iff_eq]; omega
  have tci : decide ((n : Int) < 48) = false := by simp only [decide_eq_false_iff_not]; omega
  have tcn : decide (n < 48) = false := by simp only [decide_eq_false_iff_not]; omega
  have n6 : ((p6 : Int) != 6) = false := by rw [bne_eq_false_iff_eq]; omega
  have n6e : ((p6 : Int) == 6) = true := by rw [beq_iff_eq]; omega
  have wu8 : IntKind.u8.wrap (p6 : Int) = (p6 : Int) := IntWalk.u8_in _ (by omega)
  have wm8 : (p6 : Int) % 256 = (p6 : Int) := by omega
  have hsp16 : sp < 65536 := by rw [← hsp]; exact num_lt' l _ 2 65536 (by decide)
  have hdp16 : dp < 65536 := by rw [← hdp]; exact num_lt' l _ 2 65536 (by decide)
  have wsp : IntKind.u16.wrap (sp : Int) = (sp : Int) := IntWalk.u16_in _ (by omega)
  have wdp : IntKind.u16.wrap (dp : Int) = (dp : Int) := IntWalk.u16_in _ (by omega)
  have htv : resT (stampsAt o1) = .int .i64 (at_ : Int) := by rw [hSt]; rfl
  have HT := Lib.hid (fun A n c w (h : Rb w A n c o1) => (by have := refStamps_any A n c o1 w h (by rw [← h.1]; exact hol); rwa [htv] at this : Calls Try.prog 57 #[.slice A n c] w fun e w' => e = .returned (.int .i64 (at_ : Int)) ∧ w = w'))
  have hat8 := stp_found _ _ _ _ hSt
  have hv32 : v < 4294967296 := by rw [← hv_]; exact num_lt' o1 _ 4 4294967296 (by decide)
  have wv : IntKind.u32.wrap (v : Int) = (v : Int) := IntWalk.u32_in _ (by omega)
  have dat : decide ((0 : Int) ≤ (at_ : Int)) = true := by simp only [decide_eq_true_eq]; omega
  have HGO := Lib.hid (fun A n c w (h : Rb w A n c o1) => refGetV A n c o1 (at_ : Int) 4 at_ 4 v w h rfl rfl hv_ (by rw [← h.1]; omega) (by rw [← h.1]; omega) (by decide))
  have HSP := Lib.hid (fun w (h : Rb w (some ⟨b, off, none⟩) n c l) => refGetV _ n c l (40 : Int) 2 40 2 sp w h rfl rfl hsp (by omega) (by omega) (by omega))
  have HDP := Lib.hid (fun w (h : Rb w (some ⟨b, off, none⟩) n c l) => refGetV _ n c l (42 : Int) 2 42 2 dp w h rfl rfl hdp (by omega) (by omega) (by omega))
  have j8a : (24 : Int) ≤ (c : Int) := by omega
  have j8b : (40 : Int) ≤ (c : Int) := by omega
  replace H1 := Lib.hid H1
  replace H2 := Lib.hid H2
  replace HPA := Lib.hid HPA
  have j40 : (40 : Int) ≤ (n : Int) := by omega
  have j40c : (40 : Int) ≤ (c : Int) := by omega
  subst hE
  clear hv hs8 hp hx hx9 hx6 hxf hq hm0 hz hz8 hm hn hsp hdp hsp16 hdp16 htv hol hSt hv_ hat8 hv32
  have b4 : Bk (w.alloc (.cells #[.bool false, .int .u64 0, .int .u64 0, .bool false, .int .u64 0, .int .u64 0, .int .u16 0, .int .u16 0, .int .u8 0, .int .u32 0, .bool false] 35)) w.heap.size 35 (qC false 0 0 false 0 0 0 0 0 0 false) := Bk.new w 35 #[.bool false, .int .u64 0, .int .u64 0, .bool false, .int .u64 0, .int .u64 0, .int .u16 0, .int .u16 0, .int .u8 0, .int .u32 0, .bool false]
  have be : Below w.heap.size w (w.alloc (.cells #[.bool false, .int .u64 0, .int .u64 0, .bool false, .int .u64 0, .int .u64 0, .int .u16 0, .int .u16 0, .int .u8 0, .int .u32 0, .bool false] 35)) := Below.allocS (Below.refl _ _) _
  have yV0 := (be.cell (p := ⟨b, off, none⟩) hbl).trans y0
  have yV9 := (be.cell (p := ⟨b, off + 9, none⟩) hbl).trans y9
  have yV6 := (be.cell (p := ⟨b, off + 6, none⟩) hbl).trans y6
  have zV := be.size
  clear hcell y0 y9 y6
  go_enter Try.func14, Try.ntmps14
  go_upto_region 3 with (fail)
  generalize w.alloc (.cells #[.bool false, .int .u64 0, .int .u64 0, .bool false, .int .u64 0, .int .u64 0, .int .u16 0, .int .u16 0, .int .u8 0, .int .u32 0, .bool false] 35) = V at *
  have zb : b < V.heap.size := by omega
  go_wp2
  refine wp_relS 15 143 rfl (by kernel_rfl) (by kernel_rfl) ?_
  apply Steps.one (MP.eq _) 1 rfl
  · intro o ho FA x hO hD K hK
    obtain rfl := Option.some.inj ho.symm
    clear ho
    have e0 := hO 0 (by kernel_rfl)
    simp only [eval_tmp, List.getElem?_toArray, List.getElem?_cons_succ, List.getElem?_cons_zero, Option.getD_some] at e0
    have ev0 := Lib.hid ((eval_tmp FA 0).trans e0)
    clear hO hD
    go_simp
    exact hK.out _ _ (Ex.refl _) rfl
  apply Steps.one (MP.eq _) 2 rfl
  · intro o ho FA x hO hD K hK
    obtain rfl := Option.some.inj ho.symm
    clear ho
    have ev19 : FA.eval (.tmp 19) = _ := hD 0 19 (by kernel_rfl)
    have e19 := (eval_tmp FA 19).symm.trans ev19
    replace ev19 := Lib.hid ev19
    clear hO hD
    go_simp
    exact hK.out _ _ (Ex.refl _) rfl
  apply Steps.one (MP.eq _) 3 rfl
  · intro o ho FA x hO hD K hK
    obtain rfl := Option.some.inj ho.symm
    clear ho
    have ev20 : FA.eval (.tmp 20) = _ := hD 1 20 (by kernel_rfl)
    have e20 := (eval_tmp FA 20).symm.trans ev20
    replace ev20 := Lib.hid ev20
    clear hO hD
    go_simp
    exact hK.out _ _ (Ex.refl _) rfl
  apply Steps.one (MP.eq _) 4 rfl
  · intro o ho FA x hO hD K hK
    obtain rfl := Option.some.inj ho.symm
    clear ho
    have ev21 : FA.eval (.tmp 21) = _ := hD 2 21 (by kernel_rfl)
    have e21 := (eval_tmp FA 21).symm.trans ev21
    replace ev21 := Lib.hid ev21
    clear hO hD
    go_simp
    exact hK.out _ _ (Ex.refl _) rfl
  apply Steps.one (MP.eq _) 5 rfl
  · intro o ho FA x hO hD K hK
    obtain rfl := Option.some.inj ho.symm
    clear ho
    have ev22 : FA.eval (.tmp 22) = _ := hD 3 22 (by kernel_rfl)
    have e22 := (eval_tmp FA 22).symm.trans ev22
    replace ev22 := Lib.hid ev22
    clear hO hD
    go_simp
    exact hK.out _ _ (Ex.refl _) rfl
  apply Steps.one (MP.eq _) 6 rfl
  · intro o ho FA x hO hD K hK
    obtain rfl := Option.some.inj ho.symm
    clear ho
    have ev23 : FA.eval (.tmp 23) = _ := hD 4 23 (by kernel_rfl)
    have e23 := (eval_tmp FA 23).symm.trans ev23
    replace ev23 := Lib.hid ev23
    clear hO hD
    go_simp
    exact hK.out _ _ (Ex.refl _) rfl
  apply Steps.one (MP.eq _) 7 rfl
  · intro o ho FA x hO hD K hK
    obtain rfl := Option.some.inj ho.symm
    clear ho
    have e0 := hO 0 (by kernel_rfl)
    simp only [eval_tmp, List.getElem?_toArray, List.getElem?_cons_succ, List.getElem?_cons_zero, Option.getD_some] at e0
    have ev0 := Lib.hid ((eval_tmp FA 0).trans e0)
    clear hO hD
    go_simp
    exact hK.out _ _ (Ex.refl _) rfl
  apply Steps.one (MP.eq _) 8 rfl
  · intro o ho FA x hO hD K hK
    obtain rfl := Option.some.inj ho.symm
    clear ho
    have ev25 : FA.eval (.tmp 25) = _ := hD 6 25 (by kernel_rfl)
    have e25 := (eval_tmp FA 25).symm.trans ev25
    replace ev25 := Lib.hid ev25
    clear hO hD
    go_simp
    exact hK.out _ _ (Ex.refl _) rfl
  apply Steps.one (MP.eq _) 9 rfl
  · intro o ho FA x hO hD K hK
    obtain rfl := Option.some.inj ho.symm
    clear ho
    have ev26 : FA.eval (.tmp 26) = _ := hD 7 26 (by kernel_rfl)
    have e26 := (eval_tmp FA 26).symm.trans ev26
    replace ev26 := Lib.hid ev26
    clear hO hD
    go_simp
    exact hK.out _ _ (Ex.refl _) rfl
  apply Steps.one (MP.eq _) 10 rfl
  · intro o ho FA x hO hD K hK
    obtain rfl := Option.some.inj ho.symm
    clear ho
    have ev27 : FA.eval (.tmp 27) = _ := hD 8 27 (by kernel_rfl)
    have e27 := (eval_tmp FA 27).symm.trans ev27
    replace ev27 := Lib.hid ev27
    clear hO hD
    go_simp
    exact hK.out _ _ (Ex.refl _) rfl
  apply Steps.one (MP.eq _) 11 rfl
  · intro o ho FA x hO hD K hK
    obtain rfl := Option.some.inj ho.symm
    clear ho
    have ev24 : FA.eval (.tmp 24) = _ := hD 5 24 (by kernel_rfl)
    have e24 := (eval_tmp FA 24).symm.trans ev24
    replace ev24 := Lib.hid ev24
    clear hO hD
    go_simp
    exact hK.out _ _ (Ex.refl _) rfl
  apply Steps.one (MP.eq _) 12 rfl
  · intro o ho FA x hO hD K hK
    obtain rfl := Option.some.inj ho.symm
    clear ho
    clear hO hD
    go_simp
    exact hK.out _ _ (Ex.refl _) rfl
  apply Steps.one (MP.eq _) 13 rfl
  · intro o ho FA x hO hD K hK
    obtain rfl := Option.some.inj ho.symm
    clear ho
    clear hO hD
    go_simp
    exact hK.out _ _ (Ex.refl _) rfl
  apply Steps.one (MP.eq _) 14 rfl
  · intro o ho FA x hO hD K hK
    obtain rfl := Option.some.inj ho.symm
    clear ho
    have ev28 : FA.eval (.tmp 28) = _ := hD 9 28 (by kernel_rfl)
    have e28 := (eval_tmp FA 28).symm.trans ev28
    replace ev28 := Lib.hid ev28
    clear hO hD
    go_simp
    exact hK.out _ _ (Ex.refl _) rfl
  apply Steps.one (MP.eq _) 15 rfl
  · intro o ho FA x hO hD K hK
    obtain rfl := Option.some.inj ho.symm
    clear ho
    clear hO hD
    go_simp
    exact hK.out _ _ (Ex.refl _) rfl
  refine Steps.fin_ (fun vs x hp => ?_)
  have p0 : vs 0 = _ := hp 0 (by omega)
  have p1 : vs 1 = _ := hp 1 (by omega)
  have p2 : vs 2 = _ := hp 2 (by omega)
  have p3 : vs 3 = _ := hp 3 (by omega)
  have p4 : vs 4 = _ := hp 4 (by omega)
  have p5 : vs 5 = _ := hp 5 (by omega)
  have p6 : vs 6 = _ := hp 6 (by omega)
  have p7 : vs 7 = _ := hp 7 (by omega)
  have p8 : vs 8 = _ := hp 8 (by omega)
  have p9 : vs 9 = _ := hp 9 (by omega)
  have p10 : vs 10 = _ := hp 10 (by omega)
  have p11 : vs 11 = _ := hp 11 (by omega)
  have p12 : vs 12 = _ := hp 12 (by omega)
  have p13 : vs 13 = _ := hp 13 (by omega)
  have p14 : vs 14 = _ := hp 14 (by omega)
  clear hp
  simp only [List.take_succ_cons, List.take_zero, List.drop_succ_cons, List.drop_zero, putAll, Nat.zero_add, Nat.reduceAdd, Act.put, List.setIfInBounds_toArray, List.set_cons_zero, List.set_cons_succ, p0, p1, p2, p3, p4, p5, p6, p7, p8, p9, p10, p11, p12, p13, p14]
  clear p0 p1 p2 p3 p4 p5 p6 p7 p8 p9 p10 p11 p12 p13 p14
  clear vs
  have zs := be.size
  have yW0 := (cell_plus V x.bs x.d b off zb).trans yV0
  have yW6 := (cell_plus V x.bs x.d b (off + 6) zb).trans yV6
  replace be := belowP be x.bs x.d
  replace b4 := b4.later (below_plus _ x.bs x.d)
  clear yV0 yV6 yV9
  generalize plus V x.bs x.d = V1 at *
  have zb1 : b < V1.heap.size := Nat.lt_of_lt_of_le hbl be.size
  go_upto_region 5 with (fail)
  go_wp2
  refine wp_relS 9 143 rfl (by kernel_rfl) (by kernel_rfl) ?_
  apply Steps.one (MP.eq _) 1 rfl
  · intro o ho FA x hO hD K hK
    obtain rfl := Option.some.inj ho.symm
    clear ho
    have e0 := hO 0 (by kernel_rfl)
    simp only [eval_tmp, List.getElem?_toArray, List.getElem?_cons_succ, List.getElem?_cons_zero, Option.getD_some] at e0
    have ev0 := Lib.hid ((eval_tmp FA 0).trans e0)
    clear hO hD
    go_simp
    exact hK.out _ _ (Ex.refl _) rfl
  apply Steps.one (MP.eq _) 2 rfl
  · intro o ho FA x hO hD K hK
    obtain rfl := Option.some.inj ho.symm
    clear ho
    have ev30 : FA.eval (.tmp 30) = _ := hD 0 30 (by kernel_rfl)
    have e30 := (eval_tmp FA 30).symm.trans ev30
    replace ev30 := Lib.hid ev30
    clear hO hD
    go_simp
    exact hK.out _ _ (Ex.refl _) rfl
  apply Steps.one (MP.eq _) 3 rfl
  · intro o ho FA x hO hD K hK
    obtain rfl := Option.some.inj ho.symm
    clear ho
    have ev31 : FA.eval (.tmp 31) = _ := hD 1 31 (by kernel_rfl)
    have e31 := (eval_tmp FA 31).symm.trans ev31
    replace ev31 := Lib.hid ev31
    clear hO hD
    go_simp
    exact hK.out _ _ (Ex.refl _) rfl
  apply Steps.one (MP.eq _) 4 rfl
  · intro o ho FA x hO hD K hK
    obtain rfl := Option.some.inj ho.symm
    clear ho
    have ev32 : FA.eval (.tmp 32) = _ := hD 2 32 (by kernel_rfl)
    have e32 := (eval_tmp FA 32).symm.trans ev32
    replace ev32 := Lib.hid ev32
    clear hO hD
    go_simp
    exact hK.out _ _ (Ex.refl _) rfl
  apply Steps.one (MP.eq _) 5 rfl
  · intro o ho FA x hO hD K hK
    obtain rfl := Option.some.inj ho.symm
    clear ho
    clear hO hD
    go_simp
    exact hK.out _ _ (Ex.refl _) rfl
  apply Steps.one (MP.eq _) 6 rfl
  · intro o ho FA x hO hD K hK
    obtain rfl := Option.some.inj ho.symm
    clear ho
    clear hO hD
    go_simp
    exact hK.out _ _ (Ex.refl _) rfl
  apply Steps.one (MP.eq _) 7 rfl
  · intro o ho FA x hO hD K hK
    obtain rfl := Option.some.inj ho.symm
    clear ho
    clear hO hD
    go_simp
    exact hK.out _ _ (Ex.refl _) rfl
  apply Steps.one (MP.eq _) 8 rfl
  · intro o ho FA x hO hD K hK
    obtain rfl := Option.some.inj ho.symm
    clear ho
    have ev33 : FA.eval (.tmp 33) = _ := hD 3 33 (by kernel_rfl)
    have e33 := (eval_tmp FA 33).symm.trans ev33
    replace ev33 := Lib.hid ev33
    clear hO hD
    go_simp
    exact hK.out _ _ (Ex.refl _) rfl
  apply Steps.one (MP.eq _) 9 rfl
  · intro o ho FA x hO hD K hK
    obtain rfl := Option.some.inj ho.symm
    clear ho
    clear hO hD
    go_simp
    exact hK.out _ _ (Ex.refl _) rfl
  refine Steps.fin_ (fun vs x hp => ?_)
  have p0 : vs 0 = _ := hp 0 (by omega)
  have p1 : vs 1 = _ := hp 1 (by omega)
  have p2 : vs 2 = _ := hp 2 (by omega)
  have p3 : vs 3 = _ := hp 3 (by omega)
  have p4 : vs 4 = _ := hp 4 (by omega)
  have p5 : vs 5 = _ := hp 5 (by omega)
  have p6 : vs 6 = _ := hp 6 (by omega)
  have p7 : vs 7 = _ := hp 7 (by omega)
  have p8 : vs 8 = _ := hp 8 (by omega)
  clear hp
  simp only [List.take_succ_cons, List.take_zero, List.drop_succ_cons, List.drop_zero, putAll, Nat.zero_add, Nat.reduceAdd, Act.put, List.setIfInBounds_toArray, List.set_cons_zero, List.set_cons_succ, p0, p1, p2, p3, p4, p5, p6, p7, p8]
  clear p0 p1 p2 p3 p4 p5 p6 p7 p8
  clear vs
  have zs2 := be.size
  have yX0 := (cell_plus V1 x.bs x.d b off zb1).trans yW0
  have yX6 := (cell_plus V1 x.bs x.d b (off + 6) zb1).trans yW6
  replace be := belowP be x.bs x.d
  replace b4 := b4.later (below_plus _ x.bs x.d)
  clear yW0 yW6
  generalize plus V1 x.bs x.d = V2 at *
  have zb2 : b < V2.heap.size := Nat.lt_of_lt_of_le hbl be.size
  go_upto_region 9 with (first
    | (refine at_op (.store 35 (.tmp 11) (.tmp 70)) rfl ?_; refine wpList_stA (t := 35) 35 (.tmp 11) (.tmp 70) rfl rfl (qC false 0 0 false 0 0 0 0 0 0 false) (qC false 0 0 false 0 0 0 0 0 0 false) rfl (qC_one _ _ _ _ _ _ _ _ _ _ _) rfl rfl ?_ (szRQ _ _ _ _ _ _ _ _ _ _ _) ?_; (· refine Bk.newK _ _ _ ?_ rfl; simp [size_plus]); intro W1 hX g1))
  have z1 := be.size
  have z4 := b4.lt
  have b1 := below_grown (Below.allocS (Below.refl V2.heap.size V2) _) g1 (Nat.le_refl _)
  replace be := be.trans (b1.mono z1)
  replace b4 := b4.later b1
  have hg : w.heap.size < V2.heap.size := by omega
  clear b1 g1
  generalize V2.heap.size = g11 at *
  have zX := hX.lt
  go_upto_region 10 with (first
    | (go_at_call 55; (with_reducible refine (H1.out _ be).mono ?_); rintro e w1 ⟨bs0, ds0, rfl, rfl⟩)
    | (replace hX := hX.later (below_plus _ bs0 ds0); (refine at_op (.store 26 (.tmp 82) (.tmp 79)) rfl ?_; refine wpList_stM (t := 35) 26 (.tmp 82) (.tmp 79) rfl rfl (adC s1 h1 l1) _ (by simp [adC, qC]) (adC_one _ _ _) rfl rfl hX (szAd _ _ _) ?_; intro W2 hX0 gx0)))
  simp only [splice, adC, qC, List.take_succ_cons, List.take_zero, List.drop_succ_cons, List.drop_zero, List.length_cons, List.length_nil, Nat.zero_add, Nat.reduceAdd, List.cons_append, List.nil_append] at hX0
  replace b4 := (b4.later (below_plus _ bs0 ds0)).grown gx0 (by simp; omega)
  replace be := below_grown (belowP be bs0 ds0) gx0 (by omega)
  clear hX gx0
  have hX := hX0
  clear hX0
  have zX := hX.lt
  go_upto_region 11 with (first
    | (go_at_call 55; (with_reducible refine (H2.out _ be).mono ?_); rintro e w1 ⟨bs1, ds1, rfl, rfl⟩)
    | (replace hX := hX.later (below_plus _ bs1 ds1); (refine at_op (.store 26 (.tmp 97) (.tmp 94)) rfl ?_; refine wpList_stM (t := 35) 26 (.tmp 97) (.tmp 94) rfl rfl (adC s2 h2 l2) _ (by simp [adC, qC]) (adC_one _ _ _) rfl rfl hX (szAd _ _ _) ?_; intro W3 hX1 gx1)))
  simp only [splice, adC, qC, List.take_succ_cons, List.take_zero, List.drop_succ_cons, List.drop_zero, List.length_cons, List.length_nil, Nat.zero_add, Nat.reduceAdd, List.cons_append, List.nil_append] at hX1
  replace b4 := (b4.later (below_plus _ bs1 ds1)).grown gx1 (by simp; omega)
  replace be := below_grown (belowP be bs1 ds1) gx1 (by omega)
  clear hX gx1
  have hX := hX1
  clear hX1
  have zX := hX.lt
  go_upto_region 12 with (refine at_op (.store 5 (.tmp 101) (.tmp 99)) rfl ?_; refine wpList_st1 5 (.tmp 101) (.tmp 99) rfl rfl rfl rfl hX (by simp [qC]) rfl (by kernel_rfl) ?_; intro W4 hX4 g4)
  replace b4 := b4.grown g4 (by simp; omega)
  replace be := below_grown be g4 (by omega)
  simp only [List.set_cons_succ, List.set_cons_zero] at hX4
  clear hX g4
  go_upto_region 13 with (first
    | (go_at_call 54; (with_reducible refine (HSP.out _ (h.later be)).mono ?_); rintro e w1 ⟨rfl, rfl⟩)
    | (refine at_op (.store 27 (.tmp 107) (.tmp 105)) rfl ?_; refine wpList_st1 27 (.tmp 107) (.tmp 105) rfl rfl rfl rfl hX4 (by simp [qC]) rfl (by kernel_rfl) ?_; intro W5 hX5 g5))
  replace b4 := b4.grown g5 (by simp; omega)
  replace be := below_grown be g5 (by omega)
  simp only [List.set_cons_succ, List.set_cons_zero] at hX5
  clear hX4 g5
  go_upto_region 14 with (first
    | (go_at_call 54; (with_reducible refine (HDP.out _ (h.later be)).mono ?_); rintro e w1 ⟨rfl, rfl⟩)
    | (refine at_op (.store 27 (.tmp 114) (.tmp 112)) rfl ?_; refine wpList_st1 27 (.tmp 114) (.tmp 112) rfl rfl rfl rfl hX5 (by simp [qC]) rfl (by kernel_rfl) ?_; intro W6 hX6 g6))
  replace b4 := b4.grown g6 (by simp; omega)
  replace be := below_grown be g6 (by omega)
  simp only [List.set_cons_succ, List.set_cons_zero] at hX6
  clear hX5 g6
  have z6 := be.size
  have z46 := b4.lt
  have zX6 := hX6.lt
  go_wp2_with fail
  refine (HPA.out _ be).mono ?_
  rintro e w1 ⟨Ao, no, ko, Ap, np, kp, bs7, d7, rfl, rfl, ho, -⟩
  go_upto_region 15 with (refine at_op (.store 56 (.tmp 12) (.tmp 120)) rfl ?_; refine wpList_stA (t := 56) 56 (.tmp 12) (.tmp 120) rfl rfl ([.int .u16 (x0 : Int), .int .u16 (x1 : Int), .int .u32 (x2 : Int), .int .u32 (x3 : Int), .int .u8 (x4 : Int), .int .u16 (x5 : Int), .int .u16 (x6 : Int), .int .u16 (x7 : Int), .slice Ao no ko, .slice Ap np kp]) ([.int .u16 0, .int .u16 0, .int .u32 0, .int .u32 0, .int .u8 0, .int .u16 0, .int .u16 0, .int .u16 0, .slice none 0 0, .slice none 0 0]) rfl (by simp [Value.oneCell']) rfl rfl ?_ (by kernel_rfl) ?_; (· refine Bk.newK _ _ _ ?_ rfl; simp [size_plus]); intro W7 hS g7)
  have b7 := below_grown (Below.allocS (below_plus W6 bs7 d7) _) g7 (by omega)
  replace be := be.trans (b7.mono z6)
  replace b4 := b4.later b7
  replace hX6 := hX6.later b7
  replace ho := ho.later (below_grown (Below.allocS (Below.refl _ _) _) g7 (by simp [size_plus]))
  clear b7 g7
  generalize W6.heap.size + bs7.length = g12 at *
  have yo : W7.cell? ⟨g12, 8, none⟩ = some (.slice Ao no ko) := hS.cell 8
  have zS := hS.lt
  go_wp2_with fail
  refine (HT.out _ _ _ _ ho).mono ?_
  rintro e w1 ⟨rfl, rfl⟩
  replace hX6 : Bk W7 g11 35 (qC s1 h1 l1 s2 h2 l2 sp dp p6 0 false) := hX6
  have zX7 := hX6.lt
  go_upto_region 18 with (first
    | (go_at_call 54; (with_reducible refine (HGO.out _ _ _ _ ho).mono ?_); rintro e w1 ⟨rfl, rfl⟩)
    | (refine at_op (.store 30 (.tmp 140) (.tmp 139)) rfl ?_; refine wpList_st1 30 (.tmp 140) (.tmp 139) rfl rfl rfl rfl hX6 (by simp [qC]) rfl (by kernel_rfl) ?_; intro W8 hX8 g8)
    | (refine at_op (.store 4 (.tmp 141) (.const (.bool true))) rfl ?_; refine wpList_st1 4 (.tmp 141) (.const (.bool true)) rfl rfl rfl rfl hX8 (by simp [qC]) rfl (by kernel_rfl) ?_; intro W10 hX10 g10))
  replace b4 := (b4.grown g8 (by simp; omega)).grown g10 (by simp; omega)
  replace be := below_grown (below_grown be g8 (by omega)) g10 (by omega)
  replace hX6 : Bk W10 g11 35 (qC s1 h1 l1 s2 h2 l2 sp dp p6 v true) := hX10
  clear hX8 hX10 g8 g10
  go_wp2_with (first
    | (refine at_op (.load 35 (.tmp 11)) rfl ?_; refine wpList_ldA (t := 35) 35 (.tmp 11) rfl rfl (qC s1 h1 l1 s2 h2 l2 sp dp p6 v true) rfl (hX6) (whole_ _) r1 r2 (szRQ _ _ _ _ _ _ _ _ _ _ _) ?_)
    | (refine at_op (.store 35 (.tmp 4) (.tmp 142)) rfl ?_; refine wpList_stA (t := 35) 35 (.tmp 4) (.tmp 142) rfl rfl (qC s1 h1 l1 s2 h2 l2 sp dp p6 v true) (qC false 0 0 false 0 0 0 0 0 0 false) rfl (qC_one _ _ _ _ _ _ _ _ _ _ _) rfl rfl b4 (szRQ _ _ _ _ _ _ _ _ _ _ _) ?_; intro W9 h9 g9))
  refine bodyPost_agg2 Try.results14 rfl rfl h9.range r1 r2 (szRQ _ _ _ _ _ _ _ _ _ _ _) rfl (RetV.mk ?_)
  exact below_grown be g9 (by omega)
end Go.Proofs.Ytfmkndemkpecpaa
