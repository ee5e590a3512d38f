/- Texts of the law ConfigRestores, part 6. -/
import Derived.Test.YtkecgdnmehgpjaaDoorZConfigRestores5
set_option linter.unusedVariables false
set_option linter.unusedSimpArgs false
namespace Go.Proofs.YtkecgdnmehgpjaaDoor
section
open Go.Lib
open Go.RowKit
attribute [local go_sem ↓] sliced_cut
attribute [local go_sem] cutA_zero
theorem neqS_ad (w : World) (a : Adr) : (binOp .neq 32 (.agg (adC a.1 a.2.1 a.2.2).toArray) (.agg (adC a.1 a.2.1 a.2.2).toArray)).run Tryd.prog w = .ok (.bool false) w := by
 rw [neq_ad]
 simp
attribute [local go_sem ↓] neqS_ad
set_option maxHeartbeats 4000000 in
set_option maxRecDepth 100000 in
theorem is22_any {G : Nat → Prop} (v : Vp) (xA : Option Addr) (xn xc xT : Nat) (yA : Option Addr) (yn yc : Nat) (yB : Option Addr) (ym yd : Nat) (hok : StkOk v.S) (w : World) (hm : Rs 2 w xA xn xc (prs .i64 v.ms)) (hx : Bk w xT 102 (stkC v.S)) (hr : Rs 2 w yA yn yc (prs .i64 v.ms)) (hs : RSt G w v.S.lv yB ym yd) (hle : v.ms.length ≤ 1000000) (hT : TabB w) : Calls Tryd.prog 27 #[.agg (veC (v, (⟨xA, xn, xc, xT⟩ : VE))).toArray, .agg (rvC (v, (⟨yA, yn, yc, yB, ym, yd⟩ : Rx))).toArray] w (RetV w (.bool true)) := by
 obtain ⟨dva, va1, va2⟩ := rowAdC
 obtain ⟨dvt, vt1, vt2⟩ := rowRst
 have hxl : v.ms.length = xn := by have := hm.1; rw [prs_length] at this; omega
 have hyl : v.ms.length = yn := by have := hr.1; rw [prs_length] at this; omega
 obtain ⟨dvv1, vv1, vv2⟩ := rowVe
 obtain ⟨dvr1, vr1, vr2⟩ := rowRv
 obtain ⟨bv, br, be, zV⟩ := box2 w 53 62 (veC (v, (⟨xA, xn, xc, xT⟩ : VE))) (rvC (v, (⟨yA, yn, yc, yB, ym, yd⟩ : Rx)))
 go_enter Tryd.func27, Tryd.ntmps27
 go_upto_region 1 with (fail)
 generalize (w.alloc (.cells (veC (v, (⟨xA, xn, xc, xT⟩ : VE))).toArray 53)).alloc (.cells (rvC (v, (⟨yA, yn, yc, yB, ym, yd⟩ : Rx))).toArray 62) = V at *
 have HCB := Lib.hid (fun W (h : Below V.heap.size V W) => stkBytes_any v.S hok xT W (hx.later (be.trans (h.mono be.size))) (hT.later (be.trans (h.mono be.size))))
 have HRB := Lib.hid (fun W (h : Below V.heap.size V W) => refStkBytes_any v.S hok yB ym yd W (hs.later (be.trans (h.mono be.size))))
 have hxm : xn ≤ 1000000 := by omega
 have hym : yn ≤ 1000000 := by omega
 have hnn : (xn : Int) = (yn : Int) := by omega
 go_upto_region 1 with (fail)
 refine wp_relS 46 99 rfl (by kernel_rfl) (by kernel_rfl) ?_
 apply Steps.o1 (MP.eq _) 1 rfl rfl
 ·intro FA x hO hD K hK
  have e2 := hO 2 (by kernel_rfl)
  simp only [eval_tmp, qgT, qgS, qgZ, qoS] at e2
  have ev2 := Lib.hid ((eval_tmp FA 2).trans e2)
  clear hO hD
  go_simp
  exact hK.out _ _ (Ex.refl _) rfl
 apply Steps.o1 (MP.eq _) 2 rfl rfl
 ·intro FA x hO hD K hK
  obtain ⟨e7, ev7⟩ := qE (hD 0 7 (by kernel_rfl))
  clear hO hD
  refine wanted_if rfl ?_
  refine wp_ldA 32 (.tmp 7) rfl (adC v.ad.1 v.ad.2.1 v.ad.2.2) ev7.out (bv.later (below_plus _ _ _)) rfl va1 va2 (szAd _ _ _) ?_
  exact hK.out _ _ (Ex.refl _) rfl
 apply Steps.o1 (MP.eq _) 3 rfl rfl
 ·intro FA x hO hD K hK
  have e3 := hO 3 (by kernel_rfl)
  simp only [eval_tmp, qgT, qgS, qgZ, qoS] at e3
  have ev3 := Lib.hid ((eval_tmp FA 3).trans e3)
  clear hO hD
  go_simp
  exact hK.out _ _ (Ex.refl _) rfl
 apply Steps.o1 (MP.eq _) 4 rfl rfl
 ·intro FA x hO hD K hK
  obtain ⟨e9, ev9⟩ := qE (hD 2 9 (by kernel_rfl))
  clear hO hD
  refine wanted_if rfl ?_
  refine wp_ldA 32 (.tmp 9) rfl (adC v.ad.1 v.ad.2.1 v.ad.2.2) ev9.out (br.later (below_plus _ _ _)) rfl va1 va2 (szAd _ _ _) ?_
  exact hK.out _ _ (Ex.refl _) rfl
 apply Steps.o1 (MP.eq _) 5 rfl rfl
 ·intro FA x hO hD K hK
  obtain ⟨e8, ev8⟩ := qE (hD 1 8 (by kernel_rfl))
  obtain ⟨e10, ev10⟩ := qE (hD 3 10 (by kernel_rfl))
  clear hO hD
  go_simp
  exact hK.out _ _ (Ex.refl _) rfl
 apply Steps.o1 (MP.eq _) 6 rfl rfl
 ·intro FA x hO hD K hK
  obtain ⟨e11, ev11⟩ := qE (hD 4 11 (by kernel_rfl))
  clear hO hD
  go_simp
  exact hK.out _ _ (Ex.refl _) rfl
 apply Steps.o1 (MP.eq _) 7 rfl rfl
 ·intro FA x hO hD K hK
  have e2 := hO 2 (by kernel_rfl)
  simp only [eval_tmp, qgT, qgS, qgZ, qoS] at e2
  have ev2 := Lib.hid ((eval_tmp FA 2).trans e2)
  obtain ⟨e12, ev12⟩ := qE (hD 5 12 (by kernel_rfl))
  first | have ge12 := slot_of e12 | have ge12 := slot_un e12
  clear hO hD
  first | (go_simp; exact hK.out _ _ (Ex.refl _) rfl) | (rcases ge12 with ge12 | ge12 <;> (go_simp; exact hK.out _ _ (Ex.refl _) rfl))
 apply Steps.o1 (MP.eq _) 8 rfl rfl
 ·intro FA x hO hD K hK
  obtain ⟨e13, ev13⟩ := qE (hD 6 13 (by kernel_rfl))
  obtain ⟨e12, ev12⟩ := qE (hD 5 12 (by kernel_rfl))
  first | have ge12 := slot_of e12 | have ge12 := slot_un e12
  clear hO hD
  first | (refine wanted_ifG ?_ ?_; (· go_simp); refine wp_ld1 42 (.tmp 13) rfl ev13.out (bv.later (below_plus _ _ _)) rfl Tryd.underlying42 rfl ?_; exact hK.out _ _ (Ex.refl _) rfl) | (go_simp; exact hK.out _ _ (Ex.refl _) rfl) | (rcases ge12 with ge12 | ge12 <;> (go_simp; exact hK.out _ _ (Ex.refl _) rfl))
 apply Steps.o1 (MP.eq _) 9 rfl rfl
 ·intro FA x hO hD K hK
  have e3 := hO 3 (by kernel_rfl)
  simp only [eval_tmp, qgT, qgS, qgZ, qoS] at e3
  have ev3 := Lib.hid ((eval_tmp FA 3).trans e3)
  obtain ⟨e12, ev12⟩ := qE (hD 5 12 (by kernel_rfl))
  first | have ge12 := slot_of e12 | have ge12 := slot_un e12
  clear hO hD
  first | (go_simp; exact hK.out _ _ (Ex.refl _) rfl) | (rcases ge12 with ge12 | ge12 <;> (go_simp; exact hK.out _ _ (Ex.refl _) rfl))
 apply Steps.o1 (MP.eq _) 10 rfl rfl
 ·intro FA x hO hD K hK
  obtain ⟨e15, ev15⟩ := qE (hD 8 15 (by kernel_rfl))
  obtain ⟨e12, ev12⟩ := qE (hD 5 12 (by kernel_rfl))
  first | have ge12 := slot_of e12 | have ge12 := slot_un e12
  clear hO hD
  first | (refine wanted_ifG ?_ ?_; (· go_simp); refine wp_ld1 42 (.tmp 15) rfl ev15.out (br.later (below_plus _ _ _)) rfl Tryd.underlying42 rfl ?_; exact hK.out _ _ (Ex.refl _) rfl) | (go_simp; exact hK.out _ _ (Ex.refl _) rfl) | (rcases ge12 with ge12 | ge12 <;> (go_simp; exact hK.out _ _ (Ex.refl _) rfl))
 apply Steps.o1 (MP.eq _) 11 rfl rfl
 ·intro FA x hO hD K hK
  obtain ⟨e14, ev14⟩ := qE (hD 7 14 (by kernel_rfl))
  obtain ⟨e16, ev16⟩ := qE (hD 9 16 (by kernel_rfl))
  obtain ⟨e12, ev12⟩ := qE (hD 5 12 (by kernel_rfl))
  first | have ge12 := slot_of e12 | have ge12 := slot_un e12
  clear hO hD
  first | (go_simp; exact hK.out _ _ (Ex.refl _) rfl) | (rcases ge12 with ge12 | ge12 <;> (go_simp; exact hK.out _ _ (Ex.refl _) rfl))
 apply Steps.o1 (MP.eq _) 12 rfl rfl
 ·intro FA x hO hD K hK
  obtain ⟨e12, ev12⟩ := qE (hD 5 12 (by kernel_rfl))
  obtain ⟨e17, ev17⟩ := qE (hD 10 17 (by kernel_rfl))
  clear hO hD
  go_simp
  exact hK.out _ _ (Ex.refl _) rfl
 apply Steps.o1 (MP.eq _) 13 rfl rfl
 ·intro FA x hO hD K hK
  obtain ⟨e18, ev18⟩ := qE (hD 11 18 (by kernel_rfl))
  clear hO hD
  go_simp
  exact hK.out _ _ (Ex.refl _) rfl
 apply Steps.o1 (MP.eq _) 14 rfl rfl
 ·intro FA x hO hD K hK
  have e2 := hO 2 (by kernel_rfl)
  simp only [eval_tmp, qgT, qgS, qgZ, qoS] at e2
  have ev2 := Lib.hid ((eval_tmp FA 2).trans e2)
  obtain ⟨e19, ev19⟩ := qE (hD 12 19 (by kernel_rfl))
  first | have ge19 := slot_of e19 | have ge19 := slot_un e19
  clear hO hD
  first | (go_simp; exact hK.out _ _ (Ex.refl _) rfl) | (rcases ge19 with ge19 | ge19 <;> (go_simp; exact hK.out _ _ (Ex.refl _) rfl))
 apply Steps.o1 (MP.eq _) 15 rfl rfl
 ·intro FA x hO hD K hK
  obtain ⟨e20, ev20⟩ := qE (hD 13 20 (by kernel_rfl))
  obtain ⟨e19, ev19⟩ := qE (hD 12 19 (by kernel_rfl))
  first | have ge19 := slot_of e19 | have ge19 := slot_un e19
  clear hO hD
  first | (refine wanted_ifG ?_ ?_; (· go_simp); refine wp_ld1 5 (.tmp 20) rfl ev20.out (bv.later (below_plus _ _ _)) rfl Tryd.underlying5 rfl ?_; exact hK.out _ _ (Ex.refl _) rfl) | (go_simp; exact hK.out _ _ (Ex.refl _) rfl) | (rcases ge19 with ge19 | ge19 <;> (go_simp; exact hK.out _ _ (Ex.refl _) rfl))
 apply Steps.o1 (MP.eq _) 16 rfl rfl
 ·intro FA x hO hD K hK
  have e3 := hO 3 (by kernel_rfl)
  simp only [eval_tmp, qgT, qgS, qgZ, qoS] at e3
  have ev3 := Lib.hid ((eval_tmp FA 3).trans e3)
  obtain ⟨e19, ev19⟩ := qE (hD 12 19 (by kernel_rfl))
  first | have ge19 := slot_of e19 | have ge19 := slot_un e19
  clear hO hD
  first | (go_simp; exact hK.out _ _ (Ex.refl _) rfl) | (rcases ge19 with ge19 | ge19 <;> (go_simp; exact hK.out _ _ (Ex.refl _) rfl))
 apply Steps.o1 (MP.eq _) 17 rfl rfl
 ·intro FA x hO hD K hK
  obtain ⟨e22, ev22⟩ := qE (hD 15 22 (by kernel_rfl))
  obtain ⟨e19, ev19⟩ := qE (hD 12 19 (by kernel_rfl))
  first | have ge19 := slot_of e19 | have ge19 := slot_un e19
  clear hO hD
  first | (refine wanted_ifG ?_ ?_; (· go_simp); refine wp_ld1 5 (.tmp 22) rfl ev22.out (br.later (below_plus _ _ _)) rfl Tryd.underlying5 rfl ?_; exact hK.out _ _ (Ex.refl _) rfl) | (go_simp; exact hK.out _ _ (Ex.refl _) rfl) | (rcases ge19 with ge19 | ge19 <;> (go_simp; exact hK.out _ _ (Ex.refl _) rfl))
 apply Steps.o1 (MP.eq _) 18 rfl rfl
 ·intro FA x hO hD K hK
  obtain ⟨e21, ev21⟩ := qE (hD 14 21 (by kernel_rfl))
  obtain ⟨e23, ev23⟩ := qE (hD 16 23 (by kernel_rfl))
  obtain ⟨e19, ev19⟩ := qE (hD 12 19 (by kernel_rfl))
  first | have ge19 := slot_of e19 | have ge19 := slot_un e19
  clear hO hD
  first | (go_simp; exact hK.out _ _ (Ex.refl _) rfl) | (rcases ge19 with ge19 | ge19 <;> (go_simp; exact hK.out _ _ (Ex.refl _) rfl))
 apply Steps.o1 (MP.eq _) 19 rfl rfl
 ·intro FA x hO hD K hK
  obtain ⟨e19, ev19⟩ := qE (hD 12 19 (by kernel_rfl))
  obtain ⟨e24, ev24⟩ := qE (hD 17 24 (by kernel_rfl))
  clear hO hD
  go_simp
  exact hK.out _ _ (Ex.refl _) rfl
 apply Steps.o1 (MP.eq _) 20 rfl rfl
 ·intro FA x hO hD K hK
  obtain ⟨e25, ev25⟩ := qE (hD 18 25 (by kernel_rfl))
  clear hO hD
  go_simp
  exact hK.out _ _ (Ex.refl _) rfl
 apply Steps.o1 (MP.eq _) 21 rfl rfl
 ·intro FA x hO hD K hK
  have e2 := hO 2 (by kernel_rfl)
  simp only [eval_tmp, qgT, qgS, qgZ, qoS] at e2
  have ev2 := Lib.hid ((eval_tmp FA 2).trans e2)
  obtain ⟨e26, ev26⟩ := qE (hD 19 26 (by kernel_rfl))
  first | have ge26 := slot_of e26 | have ge26 := slot_un e26
  clear hO hD
  first | (go_simp; exact hK.out _ _ (Ex.refl _) rfl) | (rcases ge26 with ge26 | ge26 <;> (go_simp; exact hK.out _ _ (Ex.refl _) rfl))
 apply Steps.o1 (MP.eq _) 22 rfl rfl
 ·intro FA x hO hD K hK
  obtain ⟨e27, ev27⟩ := qE (hD 20 27 (by kernel_rfl))
  obtain ⟨e26, ev26⟩ := qE (hD 19 26 (by kernel_rfl))
  first | have ge26 := slot_of e26 | have ge26 := slot_un e26
  clear hO hD
  first | (refine wanted_ifG ?_ ?_; (· go_simp); refine wp_ld1 3 (.tmp 27) rfl ev27.out (bv.later (below_plus _ _ _)) rfl Tryd.underlying3 rfl ?_; exact hK.out _ _ (Ex.refl _) rfl) | (go_simp; exact hK.out _ _ (Ex.refl _) rfl) | (rcases ge26 with ge26 | ge26 <;> (go_simp; exact hK.out _ _ (Ex.refl _) rfl))
 apply Steps.o1 (MP.eq _) 23 rfl rfl
 ·intro FA x hO hD K hK
  have e3 := hO 3 (by kernel_rfl)
  simp only [eval_tmp, qgT, qgS, qgZ, qoS] at e3
  have ev3 := Lib.hid ((eval_tmp FA 3).trans e3)
  obtain ⟨e26, ev26⟩ := qE (hD 19 26 (by kernel_rfl))
  first | have ge26 := slot_of e26 | have ge26 := slot_un e26
  clear hO hD
  first | (go_simp; exact hK.out _ _ (Ex.refl _) rfl) | (rcases ge26 with ge26 | ge26 <;> (go_simp; exact hK.out _ _ (Ex.refl _) rfl))
 apply Steps.o1 (MP.eq _) 24 rfl rfl
 ·intro FA x hO hD K hK
  obtain ⟨e29, ev29⟩ := qE (hD 22 29 (by kernel_rfl))
  obtain ⟨e26, ev26⟩ := qE (hD 19 26 (by kernel_rfl))
  first | have ge26 := slot_of e26 | have ge26 := slot_un e26
  clear hO hD
  first | (refine wanted_ifG ?_ ?_; (· go_simp); refine wp_ld1 3 (.tmp 29) rfl ev29.out (br.later (below_plus _ _ _)) rfl Tryd.underlying3 rfl ?_; exact hK.out _ _ (Ex.refl _) rfl) | (go_simp; exact hK.out _ _ (Ex.refl _) rfl) | (rcases ge26 with ge26 | ge26 <;> (go_simp; exact hK.out _ _ (Ex.refl _) rfl))
 apply Steps.o1 (MP.eq _) 25 rfl rfl
 ·intro FA x hO hD K hK
  obtain ⟨e28, ev28⟩ := qE (hD 21 28 (by kernel_rfl))
  obtain ⟨e30, ev30⟩ := qE (hD 23 30 (by kernel_rfl))
  obtain ⟨e26, ev26⟩ := qE (hD 19 26 (by kernel_rfl))
  first | have ge26 := slot_of e26 | have ge26 := slot_un e26
  clear hO hD
  first | (go_simp; exact hK.out _ _ (Ex.refl _) rfl) | (rcases ge26 with ge26 | ge26 <;> (go_simp; exact hK.out _ _ (Ex.refl _) rfl))
 apply Steps.o1 (MP.eq _) 26 rfl rfl
 ·intro FA x hO hD K hK
  obtain ⟨e26, ev26⟩ := qE (hD 19 26 (by kernel_rfl))
  obtain ⟨e31, ev31⟩ := qE (hD 24 31 (by kernel_rfl))
  clear hO hD
  go_simp
  exact hK.out _ _ (Ex.refl _) rfl
 apply Steps.o1 (MP.eq _) 27 rfl rfl
 ·intro FA x hO hD K hK
  obtain ⟨e32, ev32⟩ := qE (hD 25 32 (by kernel_rfl))
  clear hO hD
  go_simp
  exact hK.out _ _ (Ex.refl _) rfl
 apply Steps.o1 (MP.eq _) 28 rfl rfl
 ·intro FA x hO hD K hK
  have e2 := hO 2 (by kernel_rfl)
  simp only [eval_tmp, qgT, qgS, qgZ, qoS] at e2
  have ev2 := Lib.hid ((eval_tmp FA 2).trans e2)
  obtain ⟨e33, ev33⟩ := qE (hD 26 33 (by kernel_rfl))
  first | have ge33 := slot_of e33 | have ge33 := slot_un e33
  clear hO hD
  first | (go_simp; exact hK.out _ _ (Ex.refl _) rfl) | (rcases ge33 with ge33 | ge33 <;> (go_simp; exact hK.out _ _ (Ex.refl _) rfl))
 apply Steps.o1 (MP.eq _) 29 rfl rfl
 ·intro FA x hO hD K hK
  obtain ⟨e34, ev34⟩ := qE (hD 27 34 (by kernel_rfl))
  obtain ⟨e33, ev33⟩ := qE (hD 26 33 (by kernel_rfl))
  first | have ge33 := slot_of e33 | have ge33 := slot_un e33
  clear hO hD
  first | (refine wanted_ifG ?_ ?_; (· go_simp); refine wp_ld1 43 (.tmp 34) rfl ev34.out (bv.later (below_plus _ _ _)) rfl Tryd.underlying43 rfl ?_; exact hK.out _ _ (Ex.refl _) rfl) | (go_simp; exact hK.out _ _ (Ex.refl _) rfl) | (rcases ge33 with ge33 | ge33 <;> (go_simp; exact hK.out _ _ (Ex.refl _) rfl))
 apply Steps.o1 (MP.eq _) 30 rfl rfl
 ·intro FA x hO hD K hK
  obtain ⟨e35, ev35⟩ := qE (hD 28 35 (by kernel_rfl))
  obtain ⟨e33, ev33⟩ := qE (hD 26 33 (by kernel_rfl))
  first | have ge33 := slot_of e33 | have ge33 := slot_un e33
  clear hO hD
  first | (go_simp; exact hK.out _ _ (Ex.refl _) rfl) | (rcases ge33 with ge33 | ge33 <;> (go_simp; exact hK.out _ _ (Ex.refl _) rfl))
 apply Steps.o1 (MP.eq _) 31 rfl rfl
 ·intro FA x hO hD K hK
  have e3 := hO 3 (by kernel_rfl)
  simp only [eval_tmp, qgT, qgS, qgZ, qoS] at e3
  have ev3 := Lib.hid ((eval_tmp FA 3).trans e3)
  obtain ⟨e33, ev33⟩ := qE (hD 26 33 (by kernel_rfl))
  first | have ge33 := slot_of e33 | have ge33 := slot_un e33
  clear hO hD
  first | (go_simp; exact hK.out _ _ (Ex.refl _) rfl) | (rcases ge33 with ge33 | ge33 <;> (go_simp; exact hK.out _ _ (Ex.refl _) rfl))
 apply Steps.o1 (MP.eq _) 32 rfl rfl
 ·intro FA x hO hD K hK
  obtain ⟨e37, ev37⟩ := qE (hD 30 37 (by kernel_rfl))
  obtain ⟨e33, ev33⟩ := qE (hD 26 33 (by kernel_rfl))
  first | have ge33 := slot_of e33 | have ge33 := slot_un e33
  clear hO hD
  first | (refine wanted_ifG ?_ ?_; (· go_simp); refine wp_ld1 23 (.tmp 37) rfl ev37.out (br.later (below_plus _ _ _)) rfl Tryd.underlying23 rfl ?_; exact hK.out _ _ (Ex.refl _) rfl) | (go_simp; exact hK.out _ _ (Ex.refl _) rfl) | (rcases ge33 with ge33 | ge33 <;> (go_simp; exact hK.out _ _ (Ex.refl _) rfl))
 apply Steps.o1 (MP.eq _) 33 rfl rfl
 ·intro FA x hO hD K hK
  obtain ⟨e38, ev38⟩ := qE (hD 31 38 (by kernel_rfl))
  obtain ⟨e33, ev33⟩ := qE (hD 26 33 (by kernel_rfl))
  first | have ge33 := slot_of e33 | have ge33 := slot_un e33
  clear hO hD
  first | (go_simp; exact hK.out _ _ (Ex.refl _) rfl) | (rcases ge33 with ge33 | ge33 <;> (go_simp; exact hK.out _ _ (Ex.refl _) rfl))
 apply Steps.o1 (MP.eq _) 34 rfl rfl
 ·intro FA x hO hD K hK
  obtain ⟨e36, ev36⟩ := qE (hD 29 36 (by kernel_rfl))
  obtain ⟨e39, ev39⟩ := qE (hD 32 39 (by kernel_rfl))
  obtain ⟨e33, ev33⟩ := qE (hD 26 33 (by kernel_rfl))
  first | have ge33 := slot_of e33 | have ge33 := slot_un e33
  clear hO hD
  first | (go_simp; exact hK.out _ _ (Ex.refl _) rfl) | (rcases ge33 with ge33 | ge33 <;> (go_simp; exact hK.out _ _ (Ex.refl _) rfl))
 apply Steps.o1 (MP.eq _) 35 rfl rfl
 ·intro FA x hO hD K hK
  obtain ⟨e33, ev33⟩ := qE (hD 26 33 (by kernel_rfl))
  obtain ⟨e40, ev40⟩ := qE (hD 33 40 (by kernel_rfl))
  clear hO hD
  go_simp
  exact hK.out _ _ (Ex.refl _) rfl
 apply Steps.o1 (MP.eq _) 36 rfl rfl
 ·intro FA x hO hD K hK
  obtain ⟨e41, ev41⟩ := qE (hD 34 41 (by kernel_rfl))
  clear hO hD
  go_simp
  exact hK.out _ _ (Ex.refl _) rfl
 apply Steps.o1 (MP.eq _) 37 rfl rfl
 ·intro FA x hO hD K hK
  have e2 := hO 2 (by kernel_rfl)
  simp only [eval_tmp, qgT, qgS, qgZ, qoS] at e2
  have ev2 := Lib.hid ((eval_tmp FA 2).trans e2)
  obtain ⟨e42, ev42⟩ := qE (hD 35 42 (by kernel_rfl))
  first | have ge42 := slot_of e42 | have ge42 := slot_un e42
  clear hO hD
  first | (go_simp; exact hK.out _ _ (Ex.refl _) rfl) | (rcases ge42 with ge42 | ge42 <;> (go_simp; exact hK.out _ _ (Ex.refl _) rfl))
 apply Steps.o1 (MP.eq _) 38 rfl rfl
 ·intro FA x hO hD K hK
  obtain ⟨e43, ev43⟩ := qE (hD 36 43 (by kernel_rfl))
  obtain ⟨e42, ev42⟩ := qE (hD 35 42 (by kernel_rfl))
  first | have ge42 := slot_of e42 | have ge42 := slot_un e42
  clear hO hD
  first | (refine wanted_ifG ?_ ?_; (· go_simp); refine wp_ld1 51 (.tmp 43) rfl ev43.out (bv.later (below_plus _ _ _)) rfl Tryd.underlying51 rfl ?_; exact hK.out _ _ (Ex.refl _) rfl) | (go_simp; exact hK.out _ _ (Ex.refl _) rfl) | (rcases ge42 with ge42 | ge42 <;> (go_simp; exact hK.out _ _ (Ex.refl _) rfl))
 apply Steps.o1 (MP.rb (stkB v.S)) 39 rfl rfl
 ·intro FA x hO hD K hK
  obtain ⟨e44, ev44⟩ := qE (hD 37 44 (by kernel_rfl))
  obtain ⟨e42, ev42⟩ := qE (hD 35 42 (by kernel_rfl))
  first | have ge42 := slot_of e42 | have ge42 := slot_un e42
  clear hO hD
  refine wanted_ifG (by go_simp) ?_
  go_simp
  refine (HCB.out _ (below_plus _ _ _)).mono ?_
  rintro e w1 ⟨A1, n1, c1, bs1, d1, rfl, rfl, ho1⟩
  exact hK.out _ _ (Ex.plus_ _ _ _) ⟨_, _, _, rfl, ho1.rb⟩
 apply Steps.o1 (MP.eq _) 40 rfl rfl
 ·intro FA x hO hD K hK
  obtain ⟨u45, f45, e45, ev45⟩ := qG (hD 38 45 (by kernel_rfl))
  obtain ⟨e42, ev42⟩ := qE (hD 35 42 (by kernel_rfl))
  first | have ge42 := slot_of e42 | have ge42 := slot_un e42
  clear hO hD
  obtain ⟨A1, n1, c1, rfl, hr1⟩ := f45
  have es := run_str bt Tryd.underlying9 hr1
  go_simp
  exact hK.out _ _ (Ex.refl _) rfl
 apply Steps.o1 (MP.eq _) 41 rfl rfl
 ·intro FA x hO hD K hK
  have e3 := hO 3 (by kernel_rfl)
  simp only [eval_tmp, qgT, qgS, qgZ, qoS] at e3
  have ev3 := Lib.hid ((eval_tmp FA 3).trans e3)
  obtain ⟨e42, ev42⟩ := qE (hD 35 42 (by kernel_rfl))
  first | have ge42 := slot_of e42 | have ge42 := slot_un e42
  clear hO hD
  first | (go_simp; exact hK.out _ _ (Ex.refl _) rfl) | (rcases ge42 with ge42 | ge42 <;> (go_simp; exact hK.out _ _ (Ex.refl _) rfl))
 apply Steps.o1 (MP.eq _) 42 rfl rfl
 ·intro FA x hO hD K hK
  obtain ⟨e47, ev47⟩ := qE (hD 40 47 (by kernel_rfl))
  obtain ⟨e42, ev42⟩ := qE (hD 35 42 (by kernel_rfl))
  first | have ge42 := slot_of e42 | have ge42 := slot_un e42
  clear hO hD
  first | (refine wanted_ifG ?_ ?_; (· go_simp); refine wp_ldA 60 (.tmp 47) rfl (rstC yB ym yd v.S) ev47.out (br.later (below_plus _ _ _)) rfl vt1 vt2 (szRst _ _ _ _) ?_; exact hK.out _ _ (Ex.refl _) rfl) | (go_simp; exact hK.out _ _ (Ex.refl _) rfl) | (rcases ge42 with ge42 | ge42 <;> (go_simp; exact hK.out _ _ (Ex.refl _) rfl))
 apply Steps.o1 (MP.rb (stkB v.S)) 43 rfl rfl
 ·intro FA x hO hD K hK
  obtain ⟨e48, ev48⟩ := qE (hD 41 48 (by kernel_rfl))
  obtain ⟨e42, ev42⟩ := qE (hD 35 42 (by kernel_rfl))
  first | have ge42 := slot_of e42 | have ge42 := slot_un e42
  clear hO hD
  refine wanted_ifG (by go_simp) ?_
  go_simp
  refine (HRB.out _ (below_plus _ _ _)).mono ?_
  rintro e w1 ⟨A1, n1, c1, bs1, d1, rfl, rfl, ho1⟩
  exact hK.out _ _ (Ex.plus_ _ _ _) ⟨_, _, _, rfl, ho1.rb⟩
 apply Steps.o1 (MP.eq _) 44 rfl rfl
 ·intro FA x hO hD K hK
  obtain ⟨u49, f49, e49, ev49⟩ := qG (hD 42 49 (by kernel_rfl))
  obtain ⟨e42, ev42⟩ := qE (hD 35 42 (by kernel_rfl))
  first | have ge42 := slot_of e42 | have ge42 := slot_un e42
  clear hO hD
  obtain ⟨A1, n1, c1, rfl, hr1⟩ := f49
  have es := run_str bt Tryd.underlying9 hr1
  go_simp
  exact hK.out _ _ (Ex.refl _) rfl
 apply Steps.o1 (MP.eq _) 45 rfl rfl
 ·intro FA x hO hD K hK
  obtain ⟨e46, ev46⟩ := qE (hD 39 46 (by kernel_rfl))
  obtain ⟨e50, ev50⟩ := qE (hD 43 50 (by kernel_rfl))
  obtain ⟨e42, ev42⟩ := qE (hD 35 42 (by kernel_rfl))
  first | have ge42 := slot_of e42 | have ge42 := slot_un e42
  clear hO hD
  first | (go_simp; exact hK.out _ _ (Ex.refl _) rfl) | (rcases ge42 with ge42 | ge42 <;> (go_simp; exact hK.out _ _ (Ex.refl _) rfl))
 apply Steps.o1 (MP.eq _) 46 rfl rfl
 ·intro FA x hO hD K hK
  obtain ⟨e42, ev42⟩ := qE (hD 35 42 (by kernel_rfl))
  obtain ⟨e51, ev51⟩ := qE (hD 44 51 (by kernel_rfl))
  clear hO hD
  go_simp
  exact hK.out _ _ (Ex.refl _) rfl
 refine Steps.fin_ (fun vs x hp => ?_)
 have p0 : vs 0 = _ := hp 0 (by omega)
 have p1 : vs 1 = _ := hp 1 (by omega)
 have p2 : vs 2 = _ := hp 2 (by omega)
 have p3 : vs 3 = _ := hp 3 (by omega)
 have p4 : vs 4 = _ := hp 4 (by omega)
 have p5 : vs 5 = _ := hp 5 (by omega)
 have p6 : vs 6 = _ := hp 6 (by omega)
 have p7 : vs 7 = _ := hp 7 (by omega)
 have p8 : vs 8 = _ := hp 8 (by omega)
 have p9 : vs 9 = _ := hp 9 (by omega)
 have p10 : vs 10 = _ := hp 10 (by omega)
 have p11 : vs 11 = _ := hp 11 (by omega)
 have p12 : vs 12 = _ := hp 12 (by omega)
 have p13 : vs 13 = _ := hp 13 (by omega)
 have p14 : vs 14 = _ := hp 14 (by omega)
 have p15 : vs 15 = _ := hp 15 (by omega)
 have p16 : vs 16 = _ := hp 16 (by omega)
 have p17 : vs 17 = _ := hp 17 (by omega)
 have p18 : vs 18 = _ := hp 18 (by omega)
 have p19 : vs 19 = _ := hp 19 (by omega)
 have p20 : vs 20 = _ := hp 20 (by omega)
 have p21 : vs 21 = _ := hp 21 (by omega)
 have p22 : vs 22 = _ := hp 22 (by omega)
 have p23 : vs 23 = _ := hp 23 (by omega)
 have p24 : vs 24 = _ := hp 24 (by omega)
 have p25 : vs 25 = _ := hp 25 (by omega)
 have p26 : vs 26 = _ := hp 26 (by omega)
 have p27 : vs 27 = _ := hp 27 (by omega)
 have p28 : vs 28 = _ := hp 28 (by omega)
 have p29 : vs 29 = _ := hp 29 (by omega)
 have p30 : vs 30 = _ := hp 30 (by omega)
 have p31 : vs 31 = _ := hp 31 (by omega)
 have p32 : vs 32 = _ := hp 32 (by omega)
 have p33 : vs 33 = _ := hp 33 (by omega)
 have p34 : vs 34 = _ := hp 34 (by omega)
 have p35 : vs 35 = _ := hp 35 (by omega)
 have p36 : vs 36 = _ := hp 36 (by omega)
 have p37 : vs 37 = _ := hp 37 (by omega)
 have p38 := hp 38 (by omega)
 have p39 : vs 39 = _ := hp 39 (by omega)
 have p40 : vs 40 = _ := hp 40 (by omega)
 have p41 : vs 41 = _ := hp 41 (by omega)
 have p42 := hp 42 (by omega)
 have p43 : vs 43 = _ := hp 43 (by omega)
 have p44 : vs 44 = _ := hp 44 (by omega)
 have p45 : vs 45 = _ := hp 45 (by omega)
 clear hp
 simp only [List.take_succ_cons, List.take_zero, List.drop_succ_cons, List.drop_zero, putAll, Nat.zero_add, Nat.reduceAdd, Act.put, qsT, qsZ, qsS, p0, p1, p2, p3, p4, p5, p6, p7, p8, p9, p10, p11, p12, p13, p14, p15, p16, p17, p18, p19, p20, p21, p22, p23, p24, p25, p26, p27, p28, p29, p30, p31, p32, p33, p34, p35, p36, p37, p39, p40, p41, p43, p44, p45]
 clear p0 p1 p2 p3 p4 p5 p6 p7 p8 p9 p10 p11 p12 p13 p14 p15 p16 p17 p18 p19 p20 p21 p22 p23 p24 p25 p26 p27 p28 p29 p30 p31 p32 p33 p34 p35 p36 p37 p39 p40 p41 p43 p44 p45
 generalize vs 38 = y38 at *
 generalize vs 42 = y42 at *
 clear vs
 replace bv := bv.later (below_plus V x.bs x.d)
 replace br := br.later (below_plus V x.bs x.d)
 replace be := be.trans ((below_plus V x.bs x.d).mono be.size)
 clear HCB HRB
 generalize plus V x.bs x.d = V1 at *
 have HBV := Lib.hid (fun W (h : Below V1.heap.size V1 W) => bv.later h)
 have HBR := Lib.hid (fun W (h : Below V1.heap.size V1 W) => br.later h)
 have HM := Lib.hid (fun W (h : Below V1.heap.size V1 W) => hm.later (be.trans (h.mono be.size)))
 have HR := Lib.hid (fun W (h : Below V1.heap.size V1 W) => hr.later (be.trans (h.mono be.size)))
 have HM0 := Lib.hid hm
 have HR0 := Lib.hid hr
 have HBE := Lib.hid be
 clear bv br be hm hr hs hx hT hok
 go_upto_region 4 with (fail)
 go_loopw [5] (fun I wr => ∃ i : Nat, I = .int .i64 (i : Int) ∧ i ≤ yn ∧ Below V1.heap.size V1 wr) (fun I _ => yn - (intOf I).toNat)
 case atStart => exact ⟨0, rfl, Nat.zero_le _, Below.refl _ _⟩
 case round =>
  obtain ⟨i, rfl, hi, be⟩ := hrel
  have bv := HBV.out wr be
  have br := HBR.out wr be
  have q6 : wr.cell? ⟨w.heap.size + 1, 6, none⟩ = some (.slice yA yn yc) := br.cell 6
  by_cases hil : i < yn
  ·have hi1 : (i : Int) < (yn : Int) := by omega
   have hi3 : (i : Int) < (xn : Int) := by omega
   have hil2 : i < v.ms.length := by omega
   obtain ⟨bm, om, hAe, hbm, -⟩ := HM0.out.at_ (by omega) (by decide)
   obtain ⟨bn, on, hBe, hbn, -⟩ := HR0.out.at_ (by omega) (by decide)
   subst hAe hBe
   have HP1 := Lib.hid (fun W (h : Below wr.heap.size wr W) => ((HM.out W (be.trans (h.mono be.size))).range2 i hil2).1)
   have HP2 := Lib.hid (fun W (h : Below wr.heap.size wr W) => ((HM.out W (be.trans (h.mono be.size))).range2 i hil2).2)
   have HP3 := Lib.hid (fun W (h : Below wr.heap.size wr W) => ((HR.out W (be.trans (h.mono be.size))).range2 i hil2).1)
   have HP4 := Lib.hid (fun W (h : Below wr.heap.size wr W) => ((HR.out W (be.trans (h.mono be.size))).range2 i hil2).2)
   go_upto_region 6 with (fail)
   refine wp_relS 28 99 rfl (by kernel_rfl) (by kernel_rfl) ?_
   apply Steps.o1 (MP.eq _) 1 rfl rfl
   ·intro FA x hO hD K hK
    have e2 := hO 2 (by kernel_rfl)
    simp only [eval_tmp, qgT, qgS, qgZ, qoS] at e2
    have ev2 := Lib.hid ((eval_tmp FA 2).trans e2)
    clear hO hD
    go_simp
    exact hK.out _ _ (Ex.refl _) rfl
   apply Steps.o1 (MP.eq _) 2 rfl rfl
   ·intro FA x hO hD K hK
    obtain ⟨e60, ev60⟩ := qE (hD 0 60 (by kernel_rfl))
    clear hO hD
    refine wanted_if rfl ?_
    refine wp_ld1 43 (.tmp 60) rfl ev60.out (bv.later (below_plus _ _ _)) rfl Tryd.underlying43 rfl ?_
    exact hK.out _ _ (Ex.refl _) rfl
   apply Steps.o1 (MP.eq _) 3 rfl rfl
   ·intro FA x hO hD K hK
    have e5 := hO 5 (by kernel_rfl)
    simp only [eval_tmp, qgT, qgS, qgZ, qoS] at e5
    have ev5 := Lib.hid ((eval_tmp FA 5).trans e5)
    clear hO hD
    go_simp
    exact hK.out _ _ (Ex.refl _) rfl
   apply Steps.o1 (MP.eq _) 4 rfl rfl
   ·intro FA x hO hD K hK
    obtain ⟨e61, ev61⟩ := qE (hD 1 61 (by kernel_rfl))
    obtain ⟨e62, ev62⟩ := qE (hD 2 62 (by kernel_rfl))
    clear hO hD
    go_simp
    exact hK.out _ _ (Ex.refl _) rfl
   apply Steps.o1 (MP.eq _) 5 rfl rfl
   ·intro FA x hO hD K hK
    obtain ⟨e63, ev63⟩ := qE (hD 3 63 (by kernel_rfl))
    clear hO hD
    go_simp
    exact hK.out _ _ (Ex.refl _) rfl
   apply Steps.o1 (MP.eq _) 6 rfl rfl
   ·intro FA x hO hD K hK
    obtain ⟨e64, ev64⟩ := qE (hD 4 64 (by kernel_rfl))
    clear hO hD
    refine wanted_if rfl ?_
    have q := HP1.out _ (below_plus wr x.bs x.d)
    go_simp
    exact hK.out _ _ (Ex.refl _) rfl
   apply Steps.o1 (MP.eq _) 7 rfl rfl
   ·intro FA x hO hD K hK
    have e3 := hO 3 (by kernel_rfl)
    simp only [eval_tmp, qgT, qgS, qgZ, qoS] at e3
    have ev3 := Lib.hid ((eval_tmp FA 3).trans e3)
    clear hO hD
    go_simp
    exact hK.out _ _ (Ex.refl _) rfl
   apply Steps.o1 (MP.eq _) 8 rfl rfl
   ·intro FA x hO hD K hK
    obtain ⟨e66, ev66⟩ := qE (hD 6 66 (by kernel_rfl))
    clear hO hD
    refine wanted_if rfl ?_
    refine wp_ld1 23 (.tmp 66) rfl ev66.out (br.later (below_plus _ _ _)) rfl Tryd.underlying23 rfl ?_
    exact hK.out _ _ (Ex.refl _) rfl
   apply Steps.o1 (MP.eq _) 9 rfl rfl
   ·intro FA x hO hD K hK
    have e5 := hO 5 (by kernel_rfl)
    simp only [eval_tmp, qgT, qgS, qgZ, qoS] at e5
    have ev5 := Lib.hid ((eval_tmp FA 5).trans e5)
    clear hO hD
    go_simp
    exact hK.out _ _ (Ex.refl _) rfl
   apply Steps.o1 (MP.eq _) 10 rfl rfl
   ·intro FA x hO hD K hK
    obtain ⟨e67, ev67⟩ := qE (hD 7 67 (by kernel_rfl))
    obtain ⟨e68, ev68⟩ := qE (hD 8 68 (by kernel_rfl))
    clear hO hD
    go_simp
    exact hK.out _ _ (Ex.refl _) rfl
   apply Steps.o1 (MP.eq _) 11 rfl rfl
   ·intro FA x hO hD K hK
    obtain ⟨e69, ev69⟩ := qE (hD 9 69 (by kernel_rfl))
    clear hO hD
    go_simp
    exact hK.out _ _ (Ex.refl _) rfl
   apply Steps.o1 (MP.eq _) 12 rfl rfl
   ·intro FA x hO hD K hK
    obtain ⟨e70, ev70⟩ := qE (hD 10 70 (by kernel_rfl))
    clear hO hD
    refine wanted_if rfl ?_
    have q := HP3.out _ (below_plus wr x.bs x.d)
    go_simp
    exact hK.out _ _ (Ex.refl _) rfl
   apply Steps.o1 (MP.eq _) 13 rfl rfl
   ·intro FA x hO hD K hK
    obtain ⟨e65, ev65⟩ := qE (hD 5 65 (by kernel_rfl))
    obtain ⟨e71, ev71⟩ := qE (hD 11 71 (by kernel_rfl))
    clear hO hD
    go_simp
    exact hK.out _ _ (Ex.refl _) rfl
   apply Steps.o1 (MP.eq _) 14 rfl rfl
   ·intro FA x hO hD K hK
    obtain ⟨e72, ev72⟩ := qE (hD 12 72 (by kernel_rfl))
    clear hO hD
    go_simp
    exact hK.out _ _ (Ex.refl _) rfl
   apply Steps.o1 (MP.eq _) 15 rfl rfl
   ·intro FA x hO hD K hK
    have e2 := hO 2 (by kernel_rfl)
    simp only [eval_tmp, qgT, qgS, qgZ, qoS] at e2
    have ev2 := Lib.hid ((eval_tmp FA 2).trans e2)
    obtain ⟨e73, ev73⟩ := qE (hD 13 73 (by kernel_rfl))
    first | have ge73 := slot_of e73 | have ge73 := slot_un e73
    clear hO hD
    first | (go_simp; exact hK.out _ _ (Ex.refl _) rfl) | (rcases ge73 with ge73 | ge73 <;> (go_simp; exact hK.out _ _ (Ex.refl _) rfl))
   apply Steps.o1 (MP.eq _) 16 rfl rfl
   ·intro FA x hO hD K hK
    obtain ⟨e74, ev74⟩ := qE (hD 14 74 (by kernel_rfl))
    obtain ⟨e73, ev73⟩ := qE (hD 13 73 (by kernel_rfl))
    first | have ge73 := slot_of e73 | have ge73 := slot_un e73
    clear hO hD
    first | (refine wanted_ifG ?_ ?_; (· go_simp); refine wp_ld1 43 (.tmp 74) rfl ev74.out (bv.later (below_plus _ _ _)) rfl Tryd.underlying43 rfl ?_; exact hK.out _ _ (Ex.refl _) rfl) | (go_simp; exact hK.out _ _ (Ex.refl _) rfl) | (rcases ge73 with ge73 | ge73 <;> (go_simp; exact hK.out _ _ (Ex.refl _) rfl))
   apply Steps.o1 (MP.eq _) 17 rfl rfl
   ·intro FA x hO hD K hK
    have e5 := hO 5 (by kernel_rfl)
    simp only [eval_tmp, qgT, qgS, qgZ, qoS] at e5
    have ev5 := Lib.hid ((eval_tmp FA 5).trans e5)
    obtain ⟨e73, ev73⟩ := qE (hD 13 73 (by kernel_rfl))
    first | have ge73 := slot_of e73 | have ge73 := slot_un e73
    clear hO hD
    first | (go_simp; exact hK.out _ _ (Ex.refl _) rfl) | (rcases ge73 with ge73 | ge73 <;> (go_simp; exact hK.out _ _ (Ex.refl _) rfl))
   apply Steps.o1 (MP.eq _) 18 rfl rfl
   ·intro FA x hO hD K hK
    obtain ⟨e75, ev75⟩ := qE (hD 15 75 (by kernel_rfl))
    obtain ⟨e76, ev76⟩ := qE (hD 16 76 (by kernel_rfl))
    obtain ⟨e73, ev73⟩ := qE (hD 13 73 (by kernel_rfl))
    first | have ge73 := slot_of e73 | have ge73 := slot_un e73
    clear hO hD
    first | (go_simp; exact hK.out _ _ (Ex.refl _) rfl) | (rcases ge73 with ge73 | ge73 <;> (go_simp; exact hK.out _ _ (Ex.refl _) rfl))
   apply Steps.o1 (MP.eq _) 19 rfl rfl
   ·intro FA x hO hD K hK
    obtain ⟨e77, ev77⟩ := qE (hD 17 77 (by kernel_rfl))
    obtain ⟨e73, ev73⟩ := qE (hD 13 73 (by kernel_rfl))
    first | have ge73 := slot_of e73 | have ge73 := slot_un e73
    clear hO hD
    first | (go_simp; exact hK.out _ _ (Ex.refl _) rfl) | (rcases ge73 with ge73 | ge73 <;> (go_simp; exact hK.out _ _ (Ex.refl _) rfl))
   apply Steps.o1 (MP.eq _) 20 rfl rfl
   ·intro FA x hO hD K hK
    obtain ⟨e78, ev78⟩ := qE (hD 18 78 (by kernel_rfl))
    obtain ⟨e73, ev73⟩ := qE (hD 13 73 (by kernel_rfl))
    first | have ge73 := slot_of e73 | have ge73 := slot_un e73
    clear hO hD
    refine wanted_ifG (by go_simp) ?_
    have q := HP2.out _ (below_plus wr x.bs x.d)
    go_simp
    exact hK.out _ _ (Ex.refl _) rfl
   apply Steps.o1 (MP.eq _) 21 rfl rfl
   ·intro FA x hO hD K hK
    have e3 := hO 3 (by kernel_rfl)
    simp only [eval_tmp, qgT, qgS, qgZ, qoS] at e3
    have ev3 := Lib.hid ((eval_tmp FA 3).trans e3)
    obtain ⟨e73, ev73⟩ := qE (hD 13 73 (by kernel_rfl))
    first | have ge73 := slot_of e73 | have ge73 := slot_un e73
    clear hO hD
    first | (go_simp; exact hK.out _ _ (Ex.refl _) rfl) | (rcases ge73 with ge73 | ge73 <;> (go_simp; exact hK.out _ _ (Ex.refl _) rfl))
   apply Steps.o1 (MP.eq _) 22 rfl rfl
   ·intro FA x hO hD K hK
    obtain ⟨e80, ev80⟩ := qE (hD 20 80 (by kernel_rfl))
    obtain ⟨e73, ev73⟩ := qE (hD 13 73 (by kernel_rfl))
    first | have ge73 := slot_of e73 | have ge73 := slot_un e73
    clear hO hD
    first | (refine wanted_ifG ?_ ?_; (· go_simp); refine wp_ld1 23 (.tmp 80) rfl ev80.out (br.later (below_plus _ _ _)) rfl Tryd.underlying23 rfl ?_; exact hK.out _ _ (Ex.refl _) rfl) | (go_simp; exact hK.out _ _ (Ex.refl _) rfl) | (rcases ge73 with ge73 | ge73 <;> (go_simp; exact hK.out _ _ (Ex.refl _) rfl))
   apply Steps.o1 (MP.eq _) 23 rfl rfl
   ·intro FA x hO hD K hK
    have e5 := hO 5 (by kernel_rfl)
    simp only [eval_tmp, qgT, qgS, qgZ, qoS] at e5
    have ev5 := Lib.hid ((eval_tmp FA 5).trans e5)
    obtain ⟨e73, ev73⟩ := qE (hD 13 73 (by kernel_rfl))
    first | have ge73 := slot_of e73 | have ge73 := slot_un e73
    clear hO hD
    first | (go_simp; exact hK.out _ _ (Ex.refl _) rfl) | (rcases ge73 with ge73 | ge73 <;> (go_simp; exact hK.out _ _ (Ex.refl _) rfl))
   apply Steps.o1 (MP.eq _) 24 rfl rfl
   ·intro FA x hO hD K hK
    obtain ⟨e81, ev81⟩ := qE (hD 21 81 (by kernel_rfl))
    obtain ⟨e82, ev82⟩ := qE (hD 22 82 (by kernel_rfl))
    obtain ⟨e73, ev73⟩ := qE (hD 13 73 (by kernel_rfl))
    first | have ge73 := slot_of e73 | have ge73 := slot_un e73
    clear hO hD
    first | (go_simp; exact hK.out _ _ (Ex.refl _) rfl) | (rcases ge73 with ge73 | ge73 <;> (go_simp; exact hK.out _ _ (Ex.refl _) rfl))
   apply Steps.o1 (MP.eq _) 25 rfl rfl
   ·intro FA x hO hD K hK
    obtain ⟨e83, ev83⟩ := qE (hD 23 83 (by kernel_rfl))
    obtain ⟨e73, ev73⟩ := qE (hD 13 73 (by kernel_rfl))
    first | have ge73 := slot_of e73 | have ge73 := slot_un e73
    clear hO hD
    first | (go_simp; exact hK.out _ _ (Ex.refl _) rfl) | (rcases ge73 with ge73 | ge73 <;> (go_simp; exact hK.out _ _ (Ex.refl _) rfl))
   apply Steps.o1 (MP.eq _) 26 rfl rfl
   ·intro FA x hO hD K hK
    obtain ⟨e84, ev84⟩ := qE (hD 24 84 (by kernel_rfl))
    obtain ⟨e73, ev73⟩ := qE (hD 13 73 (by kernel_rfl))
    first | have ge73 := slot_of e73 | have ge73 := slot_un e73
    clear hO hD
    refine wanted_ifG (by go_simp) ?_
    have q := HP4.out _ (below_plus wr x.bs x.d)
    go_simp
    exact hK.out _ _ (Ex.refl _) rfl
   apply Steps.o1 (MP.eq _) 27 rfl rfl
   ·intro FA x hO hD K hK
    obtain ⟨e79, ev79⟩ := qE (hD 19 79 (by kernel_rfl))
    obtain ⟨e85, ev85⟩ := qE (hD 25 85 (by kernel_rfl))
    obtain ⟨e73, ev73⟩ := qE (hD 13 73 (by kernel_rfl))
    first | have ge73 := slot_of e73 | have ge73 := slot_un e73
    clear hO hD
    first | (go_simp; exact hK.out _ _ (Ex.refl _) rfl) | (rcases ge73 with ge73 | ge73 <;> (go_simp; exact hK.out _ _ (Ex.refl _) rfl))
   apply Steps.o1 (MP.eq _) 28 rfl rfl
   ·intro FA x hO hD K hK
    obtain ⟨e73, ev73⟩ := qE (hD 13 73 (by kernel_rfl))
    obtain ⟨e86, ev86⟩ := qE (hD 26 86 (by kernel_rfl))
    clear hO hD
    go_simp
    exact hK.out _ _ (Ex.refl _) rfl
   refine Steps.fin_ (fun vs x hp => ?_)
   have p0 : vs 0 = _ := hp 0 (by omega)
   have p1 : vs 1 = _ := hp 1 (by omega)
   have p2 : vs 2 = _ := hp 2 (by omega)
   have p3 : vs 3 = _ := hp 3 (by omega)
   have p4 : vs 4 = _ := hp 4 (by omega)
   have p5 : vs 5 = _ := hp 5 (by omega)
   have p6 : vs 6 = _ := hp 6 (by omega)
   have p7 : vs 7 = _ := hp 7 (by omega)
   have p8 : vs 8 = _ := hp 8 (by omega)
   have p9 : vs 9 = _ := hp 9 (by omega)
   have p10 : vs 10 = _ := hp 10 (by omega)
   have p11 : vs 11 = _ := hp 11 (by omega)
   have p12 : vs 12 = _ := hp 12 (by omega)
   have p13 : vs 13 = _ := hp 13 (by omega)
   have p14 : vs 14 = _ := hp 14 (by omega)
   have p15 : vs 15 = _ := hp 15 (by omega)
   have p16 : vs 16 = _ := hp 16 (by omega)
   have p17 : vs 17 = _ := hp 17 (by omega)
   have p18 : vs 18 = _ := hp 18 (by omega)
   have p19 : vs 19 = _ := hp 19 (by omega)
   have p20 : vs 20 = _ := hp 20 (by omega)
   have p21 : vs 21 = _ := hp 21 (by omega)
   have p22 : vs 22 = _ := hp 22 (by omega)
   have p23 : vs 23 = _ := hp 23 (by omega)
   have p24 : vs 24 = _ := hp 24 (by omega)
   have p25 : vs 25 = _ := hp 25 (by omega)
   have p26 : vs 26 = _ := hp 26 (by omega)
   have p27 : vs 27 = _ := hp 27 (by omega)
   clear hp
   simp only [List.take_succ_cons, List.take_zero, List.drop_succ_cons, List.drop_zero, putAll, Nat.zero_add, Nat.reduceAdd, Act.put, qsT, qsZ, qsS, p0, p1, p2, p3, p4, p5, p6, p7, p8, p9, p10, p11, p12, p13, p14, p15, p16, p17, p18, p19, p20, p21, p22, p23, p24, p25, p26, p27]
   clear p0 p1 p2 p3 p4 p5 p6 p7 p8 p9 p10 p11 p12 p13 p14 p15 p16 p17 p18 p19 p20 p21 p22 p23 p24 p25 p26 p27
   clear vs
   have be4 := be.trans ((below_plus wr x.bs x.d).mono be.size)
   generalize plus wr x.bs x.d = W4 at *
   clear HP1 HP2 HP3 HP4 bv br q6
   go_wp2
   exact ⟨⟨i + 1, by go_num, by omega, be4⟩, by simp [intOf]; omega⟩
  ·have hi1 : ¬ (i : Int) < (yn : Int) := by omega
   go_upto_region 9 with (fail)
   clear bv br q6 hil hi hi1
   have HB2 := Lib.hid be
   clear be
   go_loopw [6] (fun I wr => ∃ i : Nat, I = .int .i64 (i : Int) ∧ i ≤ 66 ∧ Below V1.heap.size V1 wr) (fun I _ => 66 - (intOf I).toNat)
   case atStart => exact ⟨0, rfl, Nat.zero_le _, HB2.out⟩
   case round =>
    clear HB2
    obtain ⟨i, rfl, hi, be⟩ := hrel
    by_cases hil : i < 66
    ·have hi1 : (i : Int) < 66 := by omega
     have bv := HBV.out wr be
     have br := HBR.out wr be
     have HWV := Lib.hid (fun W (h : Below wr.heap.size wr W) => cfgWeight_any (v, (⟨xA, xn, xc, xT⟩ : VE)) (i : Int) W (HM.out W (be.trans (h.mono be.size))) hxm)
     have HWR := Lib.hid (fun W (h : Below wr.heap.size wr W) => refWeight_any (v, (⟨yA, yn, yc, yB, ym, yd⟩ : Rx)) (i : Int) W (HR.out W (be.trans (h.mono be.size))) hym)
     go_upto_region 11 with (fail)
     refine wp_relS 7 99 rfl (by kernel_rfl) (by kernel_rfl) ?_
     apply Steps.o1 (MP.eq _) 1 rfl rfl
     ·intro FA x hO hD K hK
      have e2 := hO 2 (by kernel_rfl)
      simp only [eval_tmp, qgT, qgS, qgZ, qoS] at e2
      have ev2 := Lib.hid ((eval_tmp FA 2).trans e2)
      clear hO hD
      refine wanted_if rfl ?_
      refine wp_ldA 53 (.tmp 2) rfl (veC (v, (⟨xA, xn, xc, xT⟩ : VE))) ev2.out (bv.later (below_plus _ _ _)) (whole_ _) vv1 vv2 (szVe (v, (⟨xA, xn, xc, xT⟩ : VE))) ?_
      exact hK.out _ _ (Ex.refl _) rfl
     apply Steps.o1 (MP.eq _) 2 rfl rfl
     ·intro FA x hO hD K hK
      have e6 := hO 6 (by kernel_rfl)
      simp only [eval_tmp, qgT, qgS, qgZ, qoS] at e6
      have ev6 := Lib.hid ((eval_tmp FA 6).trans e6)
      clear hO hD
      go_simp
      exact hK.out _ _ (Ex.refl _) rfl
     apply Steps.o1 (MP.eq _) 3 rfl rfl
     ·intro FA x hO hD K hK
      obtain ⟨e92, ev92⟩ := qE (hD 0 92 (by kernel_rfl))
      obtain ⟨e93, ev93⟩ := qE (hD 1 93 (by kernel_rfl))
      clear hO hD
      go_simp
      refine (HWV.out _ (below_plus wr x.bs x.d)).mono ?_
      rintro e w1 ⟨bs2, d2, rfl, rfl⟩
      exact hK.out _ _ (Ex.plus_ _ _ _) rfl
     apply Steps.o1 (MP.eq _) 4 rfl rfl
     ·intro FA x hO hD K hK
      have e3 := hO 3 (by kernel_rfl)
      simp only [eval_tmp, qgT, qgS, qgZ, qoS] at e3
      have ev3 := Lib.hid ((eval_tmp FA 3).trans e3)
      clear hO hD
      refine wanted_if rfl ?_
      refine wp_ldA 62 (.tmp 3) rfl (rvC (v, (⟨yA, yn, yc, yB, ym, yd⟩ : Rx))) ev3.out (br.later (below_plus _ _ _)) (whole_ _) vr1 vr2 (szRv (v, (⟨yA, yn, yc, yB, ym, yd⟩ : Rx))) ?_
      exact hK.out _ _ (Ex.refl _) rfl
     apply Steps.o1 (MP.eq _) 5 rfl rfl
     ·intro FA x hO hD K hK
      have e6 := hO 6 (by kernel_rfl)
      simp only [eval_tmp, qgT, qgS, qgZ, qoS] at e6
      have ev6 := Lib.hid ((eval_tmp FA 6).trans e6)
      clear hO hD
      go_simp
      exact hK.out _ _ (Ex.refl _) rfl
     apply Steps.o1 (MP.eq _) 6 rfl rfl
     ·intro FA x hO hD K hK
      obtain ⟨e95, ev95⟩ := qE (hD 3 95 (by kernel_rfl))
      obtain ⟨e96, ev96⟩ := qE (hD 4 96 (by kernel_rfl))
      clear hO hD
      go_simp
      refine (HWR.out _ (below_plus wr x.bs x.d)).mono ?_
      rintro e w1 ⟨bs2, d2, rfl, rfl⟩
      exact hK.out _ _ (Ex.plus_ _ _ _) rfl
     apply Steps.o1 (MP.eq _) 7 rfl rfl
     ·intro FA x hO hD K hK
      obtain ⟨e94, ev94⟩ := qE (hD 2 94 (by kernel_rfl))
      obtain ⟨e97, ev97⟩ := qE (hD 5 97 (by kernel_rfl))
      clear hO hD
      go_simp
      exact hK.out _ _ (Ex.refl _) rfl
     refine Steps.fin_ (fun vs x hp => ?_)
     have p0 : vs 0 = _ := hp 0 (by omega)
     have p1 : vs 1 = _ := hp 1 (by omega)
     have p2 : vs 2 = _ := hp 2 (by omega)
     have p3 : vs 3 = _ := hp 3 (by omega)
     have p4 : vs 4 = _ := hp 4 (by omega)
     have p5 : vs 5 = _ := hp 5 (by omega)
     have p6 : vs 6 = _ := hp 6 (by omega)
     clear hp
     simp only [List.take_succ_cons, List.take_zero, List.drop_succ_cons, List.drop_zero, putAll, Nat.zero_add, Nat.reduceAdd, Act.put, qsT, qsZ, qsS, p0, p1, p2, p3, p4, p5, p6]
     clear p0 p1 p2 p3 p4 p5 p6
     clear vs
     have be4 := be.trans ((below_plus wr x.bs x.d).mono be.size)
     generalize plus wr x.bs x.d = W4 at *
     clear HWV HWR bv br
     go_wp2
     exact ⟨⟨i + 1, by go_num, by omega, be4⟩, by simp [intOf]; omega⟩
    ·have hi1 : ¬ (i : Int) < 66 := by omega
     go_wp2
     go_ret
     exact RetV.is_ rfl (HBE.out.trans (be.mono HBE.out.size))
end

section
open Go.RowKit
theorem two_of {α β : Type} {f : α → β} {l : List α} {a b : β} (h : l.map f = [a, b]) : ∃ x y, l = [x, y] ∧ f x = a ∧ f y = b := by
 match l, h with
 | [x, y], h => simp at h; exact ⟨x, y, rfl, h.1, h.2⟩
theorem ringFields : (Tryd.prog.fieldsOf 79).toList.map (fun f => (f.name, f.type, f.offset)) = [("master", 77, 0), ("epoch", 27, 16)] := by kernel_rfl
theorem ringStood : Tryd.prog.stoodInHeld 79 = false := by kernel_rfl
theorem ringUnder : Tryd.prog.underlying 79 = some (.struct (Tryd.prog.fieldsOf 79)) := by kernel_rfl
theorem ringP0 (w : World) (key : List UInt8) (hk : K16 key) (n : Nat) : (part 77 (ringC key n).toArray 0).run Tryd.prog w = .ok (.agg (bcs key).toArray) w := by
 have hsz := szKey key hk
 cases hi : Tryd.prog.info? 77 with
 | none => rw [hi] at hsz; simp at hsz
 | some i =>
  rw [hi] at hsz
  simp at hsz
  simp [part, isAgg, run_underlying Tryd.underlying77, sizeOf, typeInfo, hi, hsz, ringC, bcs_length]
theorem ringP1 (w : World) (key : List UInt8) (hk : K16 key) (n : Nat) : (part 27 (ringC key n).toArray 16).run Tryd.prog w = .ok (.int .u64 (n : Int)) w := by
 simp [part, isAgg, run_underlying Tryd.underlying27, ringC_16 key hk n]
theorem ringE0 (d : Nat) (w : World) (key : List UInt8) (hk : K16 key) : (Op.equalIn (d + 1 + 1) 77 (.agg (bcs key).toArray) (.agg (bcs key).toArray)).run Tryd.prog w = .ok true w := by
 rw [show bcs key = key.map Extern.Stop.cell from rfl, run_equalIn_bytes w d 77 5 16 Tryd.underlying77 Tryd.underlying5 szU8 key key hk hk]
 simp
theorem eqTwo {P : Program} (w : World) (d : Nat) (xs ys : Array Value) (f0 f1 : Field) (h0 : f0.name ≠ "_") (h1 : f1.name ≠ "_") (u u' v v' : Value)
  (p0 : (part f0.type xs f0.offset).run P w = .ok u w) (p0' : (part f0.type ys f0.offset).run P w = .ok u' w) (p1 : (part f1.type xs f1.offset).run P w = .ok v w) (p1' : (part f1.type ys f1.offset).run P w = .ok v' w)
  (e0 : (Op.equalIn d f0.type u u').run P w = .ok true w) (e1 : (Op.equalIn d f1.type v v').run P w = .ok true w) : (Op.eqFields d xs ys [f0, f1]).run P w = .ok true w := by
 simp only [Op.eqFields, if_pos h0, if_pos h1, Sem.run_bind, p0, p0', p1, p1', e0, e1, Result.andThen_ok, Bool.not_true, Bool.false_eq_true, if_false, Sem.run_pure]
theorem eq_ring_d (d : Nat) (w : World) (key : List UInt8) (hk : K16 key) (n : Nat) : (Op.equalIn (d + 1 + 1 + 1) 79 (.agg (ringC key n).toArray) (.agg (ringC key n).toArray)).run Tryd.prog w = .ok true w := by
 obtain ⟨f0, f1, hl, h0, h1⟩ := two_of ringFields
 simp only [Prod.mk.injEq] at h0 h1
 obtain ⟨a1, a2, a3⟩ := h0
 obtain ⟨b1, b2, b3⟩ := h1
 refine (run_equalIn_struct w (d + 1 + 1) 79 _ _ ringUnder ringStood).trans ?_
 rw [hl]
 refine eqTwo w (d + 1 + 1) _ _ f0 f1 (by rw [a1]; decide) (by rw [b1]; decide) (.agg (bcs key).toArray) (.agg (bcs key).toArray) (.int .u64 (n : Int)) (.int .u64 (n : Int)) ?_ ?_ ?_ ?_ ?_ ?_
 ·rw [a2, a3]; exact ringP0 w key hk n
 ·rw [a2, a3]; exact ringP0 w key hk n
 ·rw [b2, b3]; exact ringP1 w key hk n
 ·rw [b2, b3]; exact ringP1 w key hk n
 ·rw [a2]; exact ringE0 d w key hk
 ·rw [b2, run_equalIn_int w (d + 1) 27 .u64 .u64 (n : Int) (n : Int) Tryd.underlying27]; simp
theorem eq_ring (w : World) (key : List UInt8) (hk : K16 key) (n : Nat) : (Op.equalIn 10000 79 (.agg (ringC key n).toArray) (.agg (ringC key n).toArray)).run Tryd.prog w = .ok true w := by
 have h := eq_ring_d 9997 w key hk n
 simp only [Nat.reduceAdd] at h
 exact h
theorem neq_ring (w : World) (key : List UInt8) (hk : K16 key) (n : Nat) : (binOp .neq 79 (.agg (ringC key n).toArray) (.agg (ringC key n).toArray)).run Tryd.prog w = .ok (.bool false) w := by
 rw [run_neq_struct, eq_ring w key hk n]
 rfl
end

section
open Go.Lib
open Go.RowKit
attribute [local go_sem ↓] sliced_cut
attribute [local go_sem] cutA_zero
theorem neqZ_ad (w : World) : (binOp .neq 32 (.agg #[.bool false, .int .u64 0, .int .u64 0]) (.agg #[.bool false, .int .u64 0, .int .u64 0])).run Tryd.prog w = .ok (.bool false) w := neqS_ad w (false, 0, 0)
theorem neqY_ad (w : World) : (binOp .neq 32 (.agg (adC z0.1 z0.2.1 z0.2.2).toArray) (.agg #[.bool false, .int .u64 0, .int .u64 0])).run Tryd.prog w = .ok (.bool false) w := neqS_ad w (false, 0, 0)
attribute [local go_sem ↓] neqS_ad neq_ring neqZ_ad neqY_ad
theorem rcC_key (C : Cf) (hk : C.key.length = 16) (A : Option Addr) (n c : Nat) : ((rcC C A n c).drop 1).take (bcs C.key).length = bcs C.key := by
 unfold rcC rcL ringC
 simp [List.drop_succ_cons]
theorem part_splice {L x : List Value} {k : Nat} (hk : k ≤ L.length) (h : splice L k x = L) : (L.drop k).take x.length = x := by
 rw [← h]
 unfold splice
 have e2 := List.drop_left (l₁ := L.take k) (l₂ := x ++ L.drop (k + x.length))
 rw [List.length_take, Nat.min_eq_left hk] at e2
 rw [e2, List.take_left]
theorem rcC_ad (C : Cf) (hk : C.key.length = 16) (hb : C.bk.length = 65) (A : Option Addr) (n c : Nat) (i : Nat) (hi : i < 65) : ((rcC C A n c).drop (18 + i * 3)).take (adF (adZ (C.bk.getD i none))).length = adF (adZ (C.bk.getD i none)) := by
 refine part_splice (by rw [rcC_len _ hk hb]; omega) ?_
 unfold rcC
 rw [rcL_setAd _ _ _ _ _ _ _ _ hk (by simp [hb]) i hi]
 congr 1
 have h1 : i < (C.bk.map adZ).length := by simp [hb]; omega
 have h2 : adZ (C.bk.getD i none) = (C.bk.map adZ)[i] := by
  rw [List.getElem_map, List.getD_eq_getElem?_getD, List.getElem?_eq_getElem (by omega)]; rfl
 rw [h2, List.set_getElem_self]
theorem bkA_no (C : Cf) (i : Int) (h : knC C i = false) : bkA C i = z0 := by
 unfold bkA
 split
 ·rename_i h1
  unfold knC at h
  rw [decide_eq_true h1.1, decide_eq_true h1.2] at h
  cases he : C.bk.getD i.toNat none with
  | none => rfl
  | some a => rw [he] at h; simp at h
 ·rfl
theorem bkA_yes (C : Cf) (i : Nat) (h : knC C i = true) : i < 65 ∧ bkA C i = adZ (C.bk.getD i none) := by
 unfold knC at h
 simp only [Bool.and_eq_true, decide_eq_true_eq] at h
 refine ⟨by omega, ?_⟩
 unfold bkA
 rw [if_pos h.1]
 simp [adZ, z0]
set_option maxHeartbeats 4000000 in
set_option maxRecDepth 100000 in
theorem same22_any {G D G2 : Nat → Prop} (C : Cf) (hk : C.key.length = 16) (hb : C.bk.length = 65) (hv : ∀ v ∈ C.vs, StkOk v.S ∧ v.ms.length ≤ 1000000) (hl : C.vs.length ≤ 16) (g : Nat) (A : Option Addr) (n c : Nat) (E : List Ve) (A2 : Option Addr) (n2 c2 : Nat) (E2 : List Re) (w : World) (hX : CfX G D w g C A n c E) (hR : RcX G2 w C A2 n2 c2 E2) (hT : TabB w) : Calls Tryd.prog 13 #[.pointer (some ⟨g, 0, none⟩), .agg (rcC C A2 n2 c2).toArray] w (RetV w (.bool true)) := by
 obtain ⟨dva, va1, va2⟩ := rowAdC
 obtain ⟨dvs, vs1, vs2⟩ := rowSt
 obtain ⟨dvg, vg1, vg2, -⟩ := rowRing
 obtain ⟨dvk, vk1, vk2⟩ := rowK16
 obtain ⟨dvr1, vr1, vr2⟩ := rowRcS
 obtain ⟨br, be, zV⟩ := box1 w 37 (rcC C A2 n2 c2)
 go_enter Tryd.func13, Tryd.ntmps13
 go_upto_region 1 with (fail)
 generalize w.alloc (.cells (rcC C A2 n2 c2).toArray 37) = V at *
 have hst := hX.st.later be
 have hnl := hX.n_
 have hnl2 := hR.n_
 have hnn : (n : Int) = (n2 : Int) := by omega
 have hk16 : K16 C.key := hk
 have HRN := Lib.hid (fun W => ringNew_any C.key hk C.now W)
 have HLN := Lib.hid (fun W (h : Below V.heap.size V W) => cfgLen_any C hk hb A n c g W (hst.later h))
 go_upto_region 1 with (fail)
 refine wp_relS 33 104 rfl (by kernel_rfl) (by kernel_rfl) ?_
 apply Steps.o1 (MP.eq _) 1 rfl rfl
 ·intro FA x hO hD K hK
  have e0 := hO 0 (by kernel_rfl)
  simp only [eval_tmp, qgT, qgS, qgZ, qoS] at e0
  have ev0 := Lib.hid ((eval_tmp FA 0).trans e0)
  clear hO hD
  go_simp
  exact hK.out _ _ (Ex.refl _) rfl
 apply Steps.o1 (MP.eq _) 2 rfl rfl
 ·intro FA x hO hD K hK
  obtain ⟨e11, ev11⟩ := qE (hD 0 11 (by kernel_rfl))
  clear hO hD
  go_simp
  exact hK.out _ _ (Ex.refl _) rfl
 apply Steps.o1 (MP.eq _) 3 rfl rfl
 ·intro FA x hO hD K hK
  obtain ⟨e12, ev12⟩ := qE (hD 1 12 (by kernel_rfl))
  clear hO hD
  go_simp
  exact hK.out _ _ (Ex.refl _) rfl
 apply Steps.o1 (MP.eq _) 4 rfl rfl
 ·intro FA x hO hD K hK
  have e0 := hO 0 (by kernel_rfl)
  simp only [eval_tmp, qgT, qgS, qgZ, qoS] at e0
  have ev0 := Lib.hid ((eval_tmp FA 0).trans e0)
  obtain ⟨e13, ev13⟩ := qE (hD 2 13 (by kernel_rfl))
  first | have ge13 := slot_of e13 | have ge13 := slot_un e13
  clear hO hD
  first | (go_simp; exact hK.out _ _ (Ex.refl _) rfl) | (rcases ge13 with ge13 | ge13 <;> (go_simp; exact hK.out _ _ (Ex.refl _) rfl))
 apply Steps.o1 (MP.eq _) 5 rfl rfl
 ·intro FA x hO hD K hK
  obtain ⟨e14, ev14⟩ := qE (hD 3 14 (by kernel_rfl))
  obtain ⟨e13, ev13⟩ := qE (hD 2 13 (by kernel_rfl))
  first | have ge13 := slot_of e13 | have ge13 := slot_un e13
  clear hO hD
  first | (go_simp; exact hK.out _ _ (Ex.refl _) rfl) | (rcases ge13 with ge13 | ge13 <;> (go_simp; exact hK.out _ _ (Ex.refl _) rfl))
 apply Steps.o1 (MP.eq _) 6 rfl rfl
 ·intro FA x hO hD K hK
  obtain ⟨e15, ev15⟩ := qE (hD 4 15 (by kernel_rfl))
  obtain ⟨e13, ev13⟩ := qE (hD 2 13 (by kernel_rfl))
  first | have ge13 := slot_of e13 | have ge13 := slot_un e13
  clear hO hD
  first | (go_simp; exact hK.out _ _ (Ex.refl _) rfl) | (rcases ge13 with ge13 | ge13 <;> (go_simp; exact hK.out _ _ (Ex.refl _) rfl))
 apply Steps.o1 (MP.eq _) 7 rfl rfl
 ·intro FA x hO hD K hK
  obtain ⟨e16, ev16⟩ := qE (hD 5 16 (by kernel_rfl))
  obtain ⟨e13, ev13⟩ := qE (hD 2 13 (by kernel_rfl))
  first | have ge13 := slot_of e13 | have ge13 := slot_un e13
  clear hO hD
  first | (refine wanted_ifG ?_ ?_; (· go_simp); refine wp_ld1 27 (.tmp 16) rfl ev16.out (hst.later (below_plus _ _ _)) rfl Tryd.underlying27 rfl ?_; exact hK.out _ _ (Ex.refl _) rfl) | (go_simp; exact hK.out _ _ (Ex.refl _) rfl) | (rcases ge13 with ge13 | ge13 <;> (go_simp; exact hK.out _ _ (Ex.refl _) rfl))
 apply Steps.o1 (MP.eq _) 8 rfl rfl
 ·intro FA x hO hD K hK
  have e3 := hO 3 (by kernel_rfl)
  simp only [eval_tmp, qgT, qgS, qgZ, qoS] at e3
  have ev3 := Lib.hid ((eval_tmp FA 3).trans e3)
  obtain ⟨e13, ev13⟩ := qE (hD 2 13 (by kernel_rfl))
  first | have ge13 := slot_of e13 | have ge13 := slot_un e13
  clear hO hD
  first | (go_simp; exact hK.out _ _ (Ex.refl _) rfl) | (rcases ge13 with ge13 | ge13 <;> (go_simp; exact hK.out _ _ (Ex.refl _) rfl))
 apply Steps.o1 (MP.eq _) 9 rfl rfl
 ·intro FA x hO hD K hK
  obtain ⟨e18, ev18⟩ := qE (hD 7 18 (by kernel_rfl))
  obtain ⟨e13, ev13⟩ := qE (hD 2 13 (by kernel_rfl))
  first | have ge13 := slot_of e13 | have ge13 := slot_un e13
  clear hO hD
  first | (refine wanted_ifG ?_ ?_; (· go_simp); refine wp_ld1 27 (.tmp 18) rfl ev18.out (br.later (below_plus _ _ _)) rfl Tryd.underlying27 rfl ?_; exact hK.out _ _ (Ex.refl _) rfl) | (go_simp; exact hK.out _ _ (Ex.refl _) rfl) | (rcases ge13 with ge13 | ge13 <;> (go_simp; exact hK.out _ _ (Ex.refl _) rfl))
 apply Steps.o1 (MP.eq _) 10 rfl rfl
 ·intro FA x hO hD K hK
  obtain ⟨e17, ev17⟩ := qE (hD 6 17 (by kernel_rfl))
  obtain ⟨e19, ev19⟩ := qE (hD 8 19 (by kernel_rfl))
  obtain ⟨e13, ev13⟩ := qE (hD 2 13 (by kernel_rfl))
  first | have ge13 := slot_of e13 | have ge13 := slot_un e13
  clear hO hD
  first | (go_simp; exact hK.out _ _ (Ex.refl _) rfl) | (rcases ge13 with ge13 | ge13 <;> (go_simp; exact hK.out _ _ (Ex.refl _) rfl))
 apply Steps.o1 (MP.eq _) 11 rfl rfl
 ·intro FA x hO hD K hK
  obtain ⟨e13, ev13⟩ := qE (hD 2 13 (by kernel_rfl))
  obtain ⟨e20, ev20⟩ := qE (hD 9 20 (by kernel_rfl))
  clear hO hD
  go_simp
  exact hK.out _ _ (Ex.refl _) rfl
 apply Steps.o1 (MP.eq _) 12 rfl rfl
 ·intro FA x hO hD K hK
  obtain ⟨e21, ev21⟩ := qE (hD 10 21 (by kernel_rfl))
  clear hO hD
  go_simp
  exact hK.out _ _ (Ex.refl _) rfl
 apply Steps.o1 (MP.eq _) 13 rfl rfl
 ·intro FA x hO hD K hK
  have e0 := hO 0 (by kernel_rfl)
  simp only [eval_tmp, qgT, qgS, qgZ, qoS] at e0
  have ev0 := Lib.hid ((eval_tmp FA 0).trans e0)
  obtain ⟨e22, ev22⟩ := qE (hD 11 22 (by kernel_rfl))
  first | have ge22 := slot_of e22 | have ge22 := slot_un e22
  clear hO hD
  first | (go_simp; exact hK.out _ _ (Ex.refl _) rfl) | (rcases ge22 with ge22 | ge22 <;> (go_simp; exact hK.out _ _ (Ex.refl _) rfl))
 apply Steps.o1 (MP.eq _) 14 rfl rfl
 ·intro FA x hO hD K hK
  obtain ⟨e23, ev23⟩ := qE (hD 12 23 (by kernel_rfl))
  obtain ⟨e22, ev22⟩ := qE (hD 11 22 (by kernel_rfl))
  first | have ge22 := slot_of e22 | have ge22 := slot_un e22
  clear hO hD
  first | (go_simp; exact hK.out _ _ (Ex.refl _) rfl) | (rcases ge22 with ge22 | ge22 <;> (go_simp; exact hK.out _ _ (Ex.refl _) rfl))
 apply Steps.o1 (MP.eq _) 15 rfl rfl
 ·intro FA x hO hD K hK
  obtain ⟨e24, ev24⟩ := qE (hD 13 24 (by kernel_rfl))
  obtain ⟨e22, ev22⟩ := qE (hD 11 22 (by kernel_rfl))
  first | have ge22 := slot_of e22 | have ge22 := slot_un e22
  clear hO hD
  first | (go_simp; exact hK.out _ _ (Ex.refl _) rfl) | (rcases ge22 with ge22 | ge22 <;> (go_simp; exact hK.out _ _ (Ex.refl _) rfl))
 apply Steps.o1 (MP.eq _) 16 rfl rfl
 ·intro FA x hO hD K hK
  obtain ⟨e25, ev25⟩ := qE (hD 14 25 (by kernel_rfl))
  obtain ⟨e22, ev22⟩ := qE (hD 11 22 (by kernel_rfl))
  first | have ge22 := slot_of e22 | have ge22 := slot_un e22
  clear hO hD
  refine wanted_ifG (by go_simp) ?_
  refine wp_ldA 79 (.tmp 25) rfl (ringC C.key C.now) ev25.out (hst.later (below_plus _ _ _)) (stC_ring C hk A n c) vg1 vg2 (szRing C.key hk C.now) ?_
  exact hK.out _ _ (Ex.refl _) rfl
 apply Steps.o1 (MP.eq _) 17 rfl rfl
 ·intro FA x hO hD K hK
  have e3 := hO 3 (by kernel_rfl)
  simp only [eval_tmp, qgT, qgS, qgZ, qoS] at e3
  have ev3 := Lib.hid ((eval_tmp FA 3).trans e3)
  obtain ⟨e22, ev22⟩ := qE (hD 11 22 (by kernel_rfl))
  first | have ge22 := slot_of e22 | have ge22 := slot_un e22
  clear hO hD
  first | (go_simp; exact hK.out _ _ (Ex.refl _) rfl) | (rcases ge22 with ge22 | ge22 <;> (go_simp; exact hK.out _ _ (Ex.refl _) rfl))
 apply Steps.o1 (MP.eq _) 18 rfl rfl
 ·intro FA x hO hD K hK
  obtain ⟨e27, ev27⟩ := qE (hD 16 27 (by kernel_rfl))
  obtain ⟨e22, ev22⟩ := qE (hD 11 22 (by kernel_rfl))
  first | have ge22 := slot_of e22 | have ge22 := slot_un e22
  clear hO hD
  first | (go_simp; exact hK.out _ _ (Ex.refl _) rfl) | (rcases ge22 with ge22 | ge22 <;> (go_simp; exact hK.out _ _ (Ex.refl _) rfl))
 apply Steps.o1 (MP.eq _) 19 rfl rfl
 ·intro FA x hO hD K hK
  obtain ⟨e28, ev28⟩ := qE (hD 17 28 (by kernel_rfl))
  obtain ⟨e22, ev22⟩ := qE (hD 11 22 (by kernel_rfl))
  first | have ge22 := slot_of e22 | have ge22 := slot_un e22
  clear hO hD
  refine wanted_ifG (by go_simp) ?_
  refine wp_ldA 28 (.tmp 28) rfl (bcs C.key) ev28.out (br.later (below_plus _ _ _)) (rcC_key C hk A2 n2 c2) vk1 vk2 (szK16 C.key hk) ?_
  exact hK.out _ _ (Ex.refl _) rfl
 apply Steps.o1 (MP.eq _) 20 rfl rfl
 ·intro FA x hO hD K hK
  have e3 := hO 3 (by kernel_rfl)
  simp only [eval_tmp, qgT, qgS, qgZ, qoS] at e3
  have ev3 := Lib.hid ((eval_tmp FA 3).trans e3)
  obtain ⟨e22, ev22⟩ := qE (hD 11 22 (by kernel_rfl))
  first | have ge22 := slot_of e22 | have ge22 := slot_un e22
  clear hO hD
  first | (go_simp; exact hK.out _ _ (Ex.refl _) rfl) | (rcases ge22 with ge22 | ge22 <;> (go_simp; exact hK.out _ _ (Ex.refl _) rfl))
 apply Steps.o1 (MP.eq _) 21 rfl rfl
 ·intro FA x hO hD K hK
  obtain ⟨e30, ev30⟩ := qE (hD 19 30 (by kernel_rfl))
  obtain ⟨e22, ev22⟩ := qE (hD 11 22 (by kernel_rfl))
  first | have ge22 := slot_of e22 | have ge22 := slot_un e22
  clear hO hD
  first | (go_simp; exact hK.out _ _ (Ex.refl _) rfl) | (rcases ge22 with ge22 | ge22 <;> (go_simp; exact hK.out _ _ (Ex.refl _) rfl))
 apply Steps.o1 (MP.eq _) 22 rfl rfl
 ·intro FA x hO hD K hK
  obtain ⟨e31, ev31⟩ := qE (hD 20 31 (by kernel_rfl))
  obtain ⟨e22, ev22⟩ := qE (hD 11 22 (by kernel_rfl))
  first | have ge22 := slot_of e22 | have ge22 := slot_un e22
  clear hO hD
  refine wanted_ifG (by go_simp) ?_
  refine wp_ld1 27 (.tmp 31) rfl ev31.out (br.later (below_plus _ _ _)) (rcL_now _ _ _ _ _ _ _ _ hk) Tryd.underlying27 rfl ?_
  exact hK.out _ _ (Ex.refl _) rfl
 apply Steps.o1 (MP.eq _) 23 rfl rfl
 ·intro FA x hO hD K hK
  obtain ⟨e29, ev29⟩ := qE (hD 18 29 (by kernel_rfl))
  obtain ⟨e32, ev32⟩ := qE (hD 21 32 (by kernel_rfl))
  obtain ⟨e22, ev22⟩ := qE (hD 11 22 (by kernel_rfl))
  first | have ge22 := slot_of e22 | have ge22 := slot_un e22
  clear hO hD
  refine wanted_ifG (by go_simp) ?_
  go_simp
  refine (HRN.out _).mono ?_
  rintro e w1 ⟨bs2, d2, rfl, rfl⟩
  exact hK.out _ _ (Ex.plus_ _ _ _) rfl
 apply Steps.o1 (MP.eq _) 24 rfl rfl
 ·intro FA x hO hD K hK
  obtain ⟨e26, ev26⟩ := qE (hD 15 26 (by kernel_rfl))
  obtain ⟨e33, ev33⟩ := qE (hD 22 33 (by kernel_rfl))
  obtain ⟨e22, ev22⟩ := qE (hD 11 22 (by kernel_rfl))
  first | have ge22 := slot_of e22 | have ge22 := slot_un e22
  clear hO hD
  first | (go_simp; exact hK.out _ _ (Ex.refl _) rfl) | (rcases ge22 with ge22 | ge22 <;> (go_simp; exact hK.out _ _ (Ex.refl _) rfl))
 apply Steps.o1 (MP.eq _) 25 rfl rfl
 ·intro FA x hO hD K hK
  obtain ⟨e22, ev22⟩ := qE (hD 11 22 (by kernel_rfl))
  obtain ⟨e34, ev34⟩ := qE (hD 23 34 (by kernel_rfl))
  clear hO hD
  go_simp
  exact hK.out _ _ (Ex.refl _) rfl
 apply Steps.o1 (MP.eq _) 26 rfl rfl
 ·intro FA x hO hD K hK
  obtain ⟨e35, ev35⟩ := qE (hD 24 35 (by kernel_rfl))
  clear hO hD
  go_simp
  exact hK.out _ _ (Ex.refl _) rfl
 apply Steps.o1 (MP.eq _) 27 rfl rfl
 ·intro FA x hO hD K hK
  have e0 := hO 0 (by kernel_rfl)
  simp only [eval_tmp, qgT, qgS, qgZ, qoS] at e0
  have ev0 := Lib.hid ((eval_tmp FA 0).trans e0)
  obtain ⟨e36, ev36⟩ := qE (hD 25 36 (by kernel_rfl))
  first | have ge36 := slot_of e36 | have ge36 := slot_un e36
  clear hO hD
  first | (go_simp; exact hK.out _ _ (Ex.refl _) rfl) | (rcases ge36 with ge36 | ge36 <;> (go_simp; exact hK.out _ _ (Ex.refl _) rfl))
 apply Steps.o1 (MP.eq _) 28 rfl rfl
 ·intro FA x hO hD K hK
  obtain ⟨e37, ev37⟩ := qE (hD 26 37 (by kernel_rfl))
  obtain ⟨e36, ev36⟩ := qE (hD 25 36 (by kernel_rfl))
  first | have ge36 := slot_of e36 | have ge36 := slot_un e36
  clear hO hD
  refine wanted_ifG (by go_simp) ?_
  go_simp
  refine (HLN.out _ (below_plus _ _ _)).mono ?_
  rintro e w1 ⟨rfl, rfl⟩
  exact hK.out _ _ (Ex.refl _) rfl
 apply Steps.o1 (MP.eq _) 29 rfl rfl
 ·intro FA x hO hD K hK
  have e3 := hO 3 (by kernel_rfl)
  simp only [eval_tmp, qgT, qgS, qgZ, qoS] at e3
  have ev3 := Lib.hid ((eval_tmp FA 3).trans e3)
  obtain ⟨e36, ev36⟩ := qE (hD 25 36 (by kernel_rfl))
  first | have ge36 := slot_of e36 | have ge36 := slot_un e36
  clear hO hD
  first | (go_simp; exact hK.out _ _ (Ex.refl _) rfl) | (rcases ge36 with ge36 | ge36 <;> (go_simp; exact hK.out _ _ (Ex.refl _) rfl))
 apply Steps.o1 (MP.eq _) 30 rfl rfl
 ·intro FA x hO hD K hK
  obtain ⟨e39, ev39⟩ := qE (hD 28 39 (by kernel_rfl))
  obtain ⟨e36, ev36⟩ := qE (hD 25 36 (by kernel_rfl))
  first | have ge36 := slot_of e36 | have ge36 := slot_un e36
  clear hO hD
  refine wanted_ifG (by go_simp) ?_
  refine wp_ld1 35 (.tmp 39) rfl ev39.out (br.later (below_plus _ _ _)) (rcC_vips C hk hb A2 n2 c2) Tryd.underlying35 rfl ?_
  exact hK.out _ _ (Ex.refl _) rfl
 apply Steps.o1 (MP.eq _) 31 rfl rfl
 ·intro FA x hO hD K hK
  obtain ⟨e40, ev40⟩ := qE (hD 29 40 (by kernel_rfl))
  obtain ⟨e36, ev36⟩ := qE (hD 25 36 (by kernel_rfl))
  first | have ge36 := slot_of e36 | have ge36 := slot_un e36
  clear hO hD
  first | (go_simp; exact hK.out _ _ (Ex.refl _) rfl) | (rcases ge36 with ge36 | ge36 <;> (go_simp; exact hK.out _ _ (Ex.refl _) rfl))
 apply Steps.o1 (MP.eq _) 32 rfl rfl
 ·intro FA x hO hD K hK
  obtain ⟨e38, ev38⟩ := qE (hD 27 38 (by kernel_rfl))
  obtain ⟨e41, ev41⟩ := qE (hD 30 41 (by kernel_rfl))
  obtain ⟨e36, ev36⟩ := qE (hD 25 36 (by kernel_rfl))
  first | have ge36 := slot_of e36 | have ge36 := slot_un e36
  clear hO hD
  first | (go_simp; exact hK.out _ _ (Ex.refl _) rfl) | (rcases ge36 with ge36 | ge36 <;> (go_simp; exact hK.out _ _ (Ex.refl _) rfl))
 apply Steps.o1 (MP.eq _) 33 rfl rfl
 ·intro FA x hO hD K hK
  obtain ⟨e36, ev36⟩ := qE (hD 25 36 (by kernel_rfl))
  obtain ⟨e42, ev42⟩ := qE (hD 31 42 (by kernel_rfl))
  clear hO hD
  go_simp
  exact hK.out _ _ (Ex.refl _) rfl
 refine Steps.fin_ (fun vs x hp => ?_)
 have p0 : vs 0 = _ := hp 0 (by omega)
 have p1 : vs 1 = _ := hp 1 (by omega)
 have p2 : vs 2 = _ := hp 2 (by omega)
 have p3 : vs 3 = _ := hp 3 (by omega)
 have p4 : vs 4 = _ := hp 4 (by omega)
 have p5 : vs 5 = _ := hp 5 (by omega)
 have p6 : vs 6 = _ := hp 6 (by omega)
 have p7 : vs 7 = _ := hp 7 (by omega)
 have p8 : vs 8 = _ := hp 8 (by omega)
 have p9 : vs 9 = _ := hp 9 (by omega)
 have p10 : vs 10 = _ := hp 10 (by omega)
 have p11 : vs 11 = _ := hp 11 (by omega)
 have p12 : vs 12 = _ := hp 12 (by omega)
 have p13 : vs 13 = _ := hp 13 (by omega)
 have p14 : vs 14 = _ := hp 14 (by omega)
 have p15 : vs 15 = _ := hp 15 (by omega)
 have p16 : vs 16 = _ := hp 16 (by omega)
 have p17 : vs 17 = _ := hp 17 (by omega)
 have p18 : vs 18 = _ := hp 18 (by omega)
 have p19 : vs 19 = _ := hp 19 (by omega)
 have p20 : vs 20 = _ := hp 20 (by omega)
 have p21 : vs 21 = _ := hp 21 (by omega)
 have p22 : vs 22 = _ := hp 22 (by omega)
 have p23 : vs 23 = _ := hp 23 (by omega)
 have p24 : vs 24 = _ := hp 24 (by omega)
 have p25 : vs 25 = _ := hp 25 (by omega)
 have p26 : vs 26 = _ := hp 26 (by omega)
 have p27 : vs 27 = _ := hp 27 (by omega)
 have p28 : vs 28 = _ := hp 28 (by omega)
 have p29 : vs 29 = _ := hp 29 (by omega)
 have p30 : vs 30 = _ := hp 30 (by omega)
 have p31 : vs 31 = _ := hp 31 (by omega)
 have p32 : vs 32 = _ := hp 32 (by omega)
 clear hp
 simp only [List.take_succ_cons, List.take_zero, List.drop_succ_cons, List.drop_zero, putAll, Nat.zero_add, Nat.reduceAdd, Act.put, qsT, qsZ, qsS, p0, p1, p2, p3, p4, p5, p6, p7, p8, p9, p10, p11, p12, p13, p14, p15, p16, p17, p18, p19, p20, p21, p22, p23, p24, p25, p26, p27, p28, p29, p30, p31, p32]
 clear p0 p1 p2 p3 p4 p5 p6 p7 p8 p9 p10 p11 p12 p13 p14 p15 p16 p17 p18 p19 p20 p21 p22 p23 p24 p25 p26 p27 p28 p29 p30 p31 p32
 clear vs
 replace hst := hst.later (below_plus V x.bs x.d)
 replace br := br.later (below_plus V x.bs x.d)
 replace be := be.trans ((below_plus V x.bs x.d).mono be.size)
 have HNL := Lib.hid hnl
 have HNL2 := Lib.hid hnl2
 clear HRN HLN hnl hnl2 hnn
 generalize plus V x.bs x.d = V1 at *
 have HST := Lib.hid (fun W (h : Below V1.heap.size V1 W) => hst.later h)
 have HBR := Lib.hid (fun W (h : Below V1.heap.size V1 W) => br.later h)
 have HBE := Lib.hid be
 have HX := Lib.hid hX
 have HR := Lib.hid hR
 have HT := Lib.hid hT
 have HVV := Lib.hid hv
 clear hst br be hX hR hT hv
 go_upto_region 4 with (fail)
 go_loopw [5] (fun I wr => ∃ i : Nat, I = .int .i64 (i : Int) ∧ i ≤ 66 ∧ Below V1.heap.size V1 wr) (fun I _ => 66 - (intOf I).toNat)
 case atStart => exact ⟨0, rfl, Nat.zero_le _, Below.refl _ _⟩
 case round =>
  obtain ⟨i, rfl, hi, be⟩ := hrel
  by_cases hil : i < 66
  ·have hi1 : (i : Int) < 66 := by omega
   have HKN := Lib.hid (fun W => refKnown_any C hk hb A2 n2 c2 (i : Int) W)
   have HNO := Lib.hid (bkA_no C (i : Int))
   have HYE := Lib.hid (bkA_yes C i)
   have HBK := Lib.hid (fun W (h : Below V1.heap.size V1 W) => backend_any C hk hb A n c g (i : Int) W (HST.out W h))
   generalize hba : bkA C (i : Int) = ba at *
   generalize hkn : knC C (i : Int) = kn at *
   clear hba hkn
   go_upto_region 6 with (fail)
   refine wp_region_lit ?_
   iterate 2 (refine wpList_plain rfl (fun K hK => ?_); go_simp; with_reducible refine hK _ _ ?_; clear hK K)
   refine wpList_plain rfl (fun K hK => ?_)
   go_simp
   refine (HBK.out _ be).mono ?_
   rintro e w1 ⟨bs1, d1, rfl, rfl⟩
   with_reducible refine hK _ _ ?_
   clear hK K
   iterate 4 (refine wpList_plain rfl (fun K hK => ?_); go_simp; with_reducible refine hK _ _ ?_; clear hK K)
   refine wpList_stA (t := 32) 32 (.tmp 6) (.tmp 52) rfl rfl (adC ba.1 ba.2.1 ba.2.2) [.bool false, .int .u64 0, .int .u64 0] rfl (by simp [adC, Value.oneCell']) rfl rfl (Bk.newK _ _ _ (by simp [size_plus]) rfl) (szAd _ _ _) ?_
   intro W5 h5 g5
   refine wpList_plain rfl (fun K hK => ?_); go_simp; with_reducible refine hK _ _ ?_; clear hK K
   have be5 : Below V1.heap.size V1 W5 := below_grown (Below.allocS (be.trans ((below_plus wr bs1 d1).mono be.size)) _) g5 (by have := be.size; simp [size_plus]; omega)
   generalize wr.heap.size + bs1.length = gs at *
   clear g5 HBK be
   have br5 := HBR.out _ be5
   cases kn with
   | false =>
    have hz := HNO.out rfl
    subst hz
    have hbz : ∀ w, (Instr.build 32 #[]).run Tryd.prog w = .ok (.agg (adC z0.1 z0.2.1 z0.2.2).toArray) w := fun _ => by kernel_rfl
    clear HNO HYE
    go_upto_region 7 with (fail)
    refine wp_relS 25 104 rfl (by kernel_rfl) (by kernel_rfl) ?_
    apply Steps.o1 (MP.eq _) 1 rfl rfl
    ·intro FA x hO hD K hK
     have e7 := hO 7 (by kernel_rfl)
     simp only [eval_tmp, qgT, qgS, qgZ, qoS] at e7
     have ev7 := Lib.hid ((eval_tmp FA 7).trans e7)
     clear hO hD
     go_simp
     exact hK.out _ _ (Ex.refl _) rfl
    apply Steps.o1 (MP.eq _) 2 rfl rfl
    ·intro FA x hO hD K hK
     have e3 := hO 3 (by kernel_rfl)
     simp only [eval_tmp, qgT, qgS, qgZ, qoS] at e3
     have ev3 := Lib.hid ((eval_tmp FA 3).trans e3)
     clear hO hD
     refine wanted_if rfl ?_
     refine wp_ldA 37 (.tmp 3) rfl (rcC C A2 n2 c2) ev3.out (br5.later (below_plus _ _ _)) (whole_ _) vr1 vr2 (szRcS C hk hb A2 n2 c2) ?_
     exact hK.out _ _ (Ex.refl _) rfl
    apply Steps.o1 (MP.eq _) 3 rfl rfl
    ·intro FA x hO hD K hK
     have e5 := hO 5 (by kernel_rfl)
     simp only [eval_tmp, qgT, qgS, qgZ, qoS] at e5
     have ev5 := Lib.hid ((eval_tmp FA 5).trans e5)
     clear hO hD
     go_simp
     exact hK.out _ _ (Ex.refl _) rfl
    apply Steps.o1 (MP.eq _) 4 rfl rfl
    ·intro FA x hO hD K hK
     obtain ⟨e55, ev55⟩ := qE (hD 1 55 (by kernel_rfl))
     obtain ⟨e56, ev56⟩ := qE (hD 2 56 (by kernel_rfl))
     clear hO hD
     go_simp
     refine (HKN.out _).mono ?_
     rintro e w1 ⟨bs2, d2, rfl, rfl⟩
     exact hK.out _ _ (Ex.plus_ _ _ _) rfl
    apply Steps.o1 (MP.eq _) 5 rfl rfl
    ·intro FA x hO hD K hK
     obtain ⟨e54, ev54⟩ := qE (hD 0 54 (by kernel_rfl))
     obtain ⟨e57, ev57⟩ := qE (hD 3 57 (by kernel_rfl))
     clear hO hD
     go_simp
     exact hK.out _ _ (Ex.refl _) rfl
    apply Steps.o1 (MP.eq _) 6 rfl rfl
    ·intro FA x hO hD K hK
     obtain ⟨e58, ev58⟩ := qE (hD 4 58 (by kernel_rfl))
     clear hO hD
     go_simp
     exact hK.out _ _ (Ex.refl _) rfl
    apply Steps.o1 (MP.eq _) 7 rfl rfl
    ·intro FA x hO hD K hK
     have e7 := hO 7 (by kernel_rfl)
     simp only [eval_tmp, qgT, qgS, qgZ, qoS] at e7
     have ev7 := Lib.hid ((eval_tmp FA 7).trans e7)
     obtain ⟨e59, ev59⟩ := qE (hD 5 59 (by kernel_rfl))
     first | have ge59 := slot_of e59 | have ge59 := slot_un e59
     clear hO hD
     first | (go_simp; exact hK.out _ _ (Ex.refl _) rfl) | (rcases ge59 with ge59 | ge59 <;> (go_simp; exact hK.out _ _ (Ex.refl _) rfl))
    apply Steps.o1 (MP.eq _) 8 rfl rfl
    ·intro FA x hO hD K hK
     obtain ⟨e60, ev60⟩ := qE (hD 6 60 (by kernel_rfl))
     obtain ⟨e59, ev59⟩ := qE (hD 5 59 (by kernel_rfl))
     first | have ge59 := slot_of e59 | have ge59 := slot_un e59
     clear hO hD
     first | (go_simp; exact hK.out _ _ (Ex.refl _) rfl) | (rcases ge59 with ge59 | ge59 <;> (go_simp; exact hK.out _ _ (Ex.refl _) rfl))
    apply Steps.o1 (MP.eq _) 9 rfl rfl
    ·intro FA x hO hD K hK
     have e6 := hO 6 (by kernel_rfl)
     simp only [eval_tmp, qgT, qgS, qgZ, qoS] at e6
     have ev6 := Lib.hid ((eval_tmp FA 6).trans e6)
     obtain ⟨e61, ev61⟩ := qE (hD 7 61 (by kernel_rfl))
     first | have ge61 := slot_of e61 | have ge61 := slot_un e61
     clear hO hD
     first | (refine wanted_ifG ?_ ?_; (· go_simp); refine wp_ldA 32 (.tmp 6) rfl (adC z0.1 z0.2.1 z0.2.2) ev6.out (h5.later (below_plus _ _ _)) (whole_ _) va1 va2 (szAd _ _ _) ?_; exact hK.out _ _ (Ex.refl _) rfl) | (go_simp; exact hK.out _ _ (Ex.refl _) rfl) | (rcases ge61 with ge61 | ge61 <;> (go_simp; exact hK.out _ _ (Ex.refl _) rfl))
    apply Steps.o1 (MP.eq _) 10 rfl rfl
    ·intro FA x hO hD K hK
     have e5 := hO 5 (by kernel_rfl)
     simp only [eval_tmp, qgT, qgS, qgZ, qoS] at e5
     have ev5 := Lib.hid ((eval_tmp FA 5).trans e5)
     obtain ⟨e61, ev61⟩ := qE (hD 7 61 (by kernel_rfl))
     first | have ge61 := slot_of e61 | have ge61 := slot_un e61
     clear hO hD
     first | (go_simp; exact hK.out _ _ (Ex.refl _) rfl) | (rcases ge61 with ge61 | ge61 <;> (go_simp; exact hK.out _ _ (Ex.refl _) rfl))
    apply Steps.o1 (MP.eq _) 11 rfl rfl
    ·intro FA x hO hD K hK
     have e3 := hO 3 (by kernel_rfl)
     simp only [eval_tmp, qgT, qgS, qgZ, qoS] at e3
     have ev3 := Lib.hid ((eval_tmp FA 3).trans e3)
     obtain ⟨e61, ev61⟩ := qE (hD 7 61 (by kernel_rfl))
     first | have ge61 := slot_of e61 | have ge61 := slot_un e61
     clear hO hD
     first | (go_simp; exact hK.out _ _ (Ex.refl _) rfl) | (rcases ge61 with ge61 | ge61 <;> (go_simp; exact hK.out _ _ (Ex.refl _) rfl))
    apply Steps.o1 (MP.eq _) 12 rfl rfl
    ·intro FA x hO hD K hK
     obtain ⟨e64, ev64⟩ := qE (hD 10 64 (by kernel_rfl))
     obtain ⟨e63, ev63⟩ := qE (hD 9 63 (by kernel_rfl))
     obtain ⟨e61, ev61⟩ := qE (hD 7 61 (by kernel_rfl))
     first | have ge61 := slot_of e61 | have ge61 := slot_un e61
     clear hO hD
     first | (go_simp; exact hK.out _ _ (Ex.refl _) rfl) | (rcases ge61 with ge61 | ge61 <;> (go_simp; exact hK.out _ _ (Ex.refl _) rfl))
    apply Steps.o1 (MP.eq _) 13 rfl rfl
    ·intro FA x hO hD K hK
     obtain ⟨e65, ev65⟩ := qE (hD 11 65 (by kernel_rfl))
     obtain ⟨e61, ev61⟩ := qE (hD 7 61 (by kernel_rfl))
     first | have ge61 := slot_of e61 | have ge61 := slot_un e61
     clear hO hD
     go_simp
     exact hK.out _ _ (Ex.refl _) rfl
    apply Steps.o1 (MP.eq _) 14 rfl rfl
    ·intro FA x hO hD K hK
     obtain ⟨e62, ev62⟩ := qE (hD 8 62 (by kernel_rfl))
     obtain ⟨e66, ev66⟩ := qE (hD 12 66 (by kernel_rfl))
     obtain ⟨e61, ev61⟩ := qE (hD 7 61 (by kernel_rfl))
     first | have ge61 := slot_of e61 | have ge61 := slot_un e61
     clear hO hD
     first | (go_simp; exact hK.out _ _ (Ex.refl _) rfl) | (rcases ge61 with ge61 | ge61 <;> (go_simp; exact hK.out _ _ (Ex.refl _) rfl))
    apply Steps.o1 (MP.eq _) 15 rfl rfl
    ·intro FA x hO hD K hK
     obtain ⟨e61, ev61⟩ := qE (hD 7 61 (by kernel_rfl))
     obtain ⟨e67, ev67⟩ := qE (hD 13 67 (by kernel_rfl))
     obtain ⟨e59, ev59⟩ := qE (hD 5 59 (by kernel_rfl))
     first | have ge59 := slot_of e59 | have ge59 := slot_un e59
     clear hO hD
     first | (go_simp; exact hK.out _ _ (Ex.refl _) rfl) | (rcases ge59 with ge59 | ge59 <;> (go_simp; exact hK.out _ _ (Ex.refl _) rfl))
    apply Steps.o1 (MP.eq _) 16 rfl rfl
    ·intro FA x hO hD K hK
     obtain ⟨e59, ev59⟩ := qE (hD 5 59 (by kernel_rfl))
     obtain ⟨e68, ev68⟩ := qE (hD 14 68 (by kernel_rfl))
     clear hO hD
     go_simp
     exact hK.out _ _ (Ex.refl _) rfl
    apply Steps.o1 (MP.eq _) 17 rfl rfl
    ·intro FA x hO hD K hK
     obtain ⟨e69, ev69⟩ := qE (hD 15 69 (by kernel_rfl))
     clear hO hD
     go_simp
     exact hK.out _ _ (Ex.refl _) rfl
    apply Steps.o1 (MP.eq _) 18 rfl rfl
    ·intro FA x hO hD K hK
     have e7 := hO 7 (by kernel_rfl)
     simp only [eval_tmp, qgT, qgS, qgZ, qoS] at e7
     have ev7 := Lib.hid ((eval_tmp FA 7).trans e7)
     obtain ⟨e70, ev70⟩ := qE (hD 16 70 (by kernel_rfl))
     first | have ge70 := slot_of e70 | have ge70 := slot_un e70
     clear hO hD
     first | (go_simp; exact hK.out _ _ (Ex.refl _) rfl) | (rcases ge70 with ge70 | ge70 <;> (go_simp; exact hK.out _ _ (Ex.refl _) rfl))
    apply Steps.o1 (MP.eq _) 19 rfl rfl
    ·intro FA x hO hD K hK
     obtain ⟨e71, ev71⟩ := qE (hD 17 71 (by kernel_rfl))
     obtain ⟨e70, ev70⟩ := qE (hD 16 70 (by kernel_rfl))
     first | have ge70 := slot_of e70 | have ge70 := slot_un e70
     clear hO hD
     first | (go_simp; exact hK.out _ _ (Ex.refl _) rfl) | (rcases ge70 with ge70 | ge70 <;> (go_simp; exact hK.out _ _ (Ex.refl _) rfl))
    apply Steps.o1 (MP.eq _) 20 rfl rfl
    ·intro FA x hO hD K hK
     obtain ⟨e72, ev72⟩ := qE (hD 18 72 (by kernel_rfl))
     obtain ⟨e70, ev70⟩ := qE (hD 16 70 (by kernel_rfl))
     first | have ge70 := slot_of e70 | have ge70 := slot_un e70
     clear hO hD
     first | (go_simp; exact hK.out _ _ (Ex.refl _) rfl) | (rcases ge70 with ge70 | ge70 <;> (go_simp; exact hK.out _ _ (Ex.refl _) rfl))
    apply Steps.o1 (MP.eq _) 21 rfl rfl
    ·intro FA x hO hD K hK
     have e6 := hO 6 (by kernel_rfl)
     simp only [eval_tmp, qgT, qgS, qgZ, qoS] at e6
     have ev6 := Lib.hid ((eval_tmp FA 6).trans e6)
     obtain ⟨e73, ev73⟩ := qE (hD 19 73 (by kernel_rfl))
     first | have ge73 := slot_of e73 | have ge73 := slot_un e73
     clear hO hD
     first | (refine wanted_ifG ?_ ?_; (· go_simp); refine wp_ldA 32 (.tmp 6) rfl (adC z0.1 z0.2.1 z0.2.2) ev6.out (h5.later (below_plus _ _ _)) (whole_ _) va1 va2 (szAd _ _ _) ?_; exact hK.out _ _ (Ex.refl _) rfl) | (go_simp; exact hK.out _ _ (Ex.refl _) rfl) | (rcases ge73 with ge73 | ge73 <;> (go_simp; exact hK.out _ _ (Ex.refl _) rfl))
    apply Steps.o1 (MP.eq _) 22 rfl rfl
    ·intro FA x hO hD K hK
     obtain ⟨e73, ev73⟩ := qE (hD 19 73 (by kernel_rfl))
     first | have ge73 := slot_of e73 | have ge73 := slot_un e73
     clear hO hD
     refine wanted_ifG (by go_simp) ?_
     refine wp_buildV 32 [] rfl (.agg (adC z0.1 z0.2.1 z0.2.2).toArray) (hbz _) ?_
     exact hK.out _ _ (Ex.refl _) rfl
    apply Steps.o1 (MP.eq _) 23 rfl rfl
    ·intro FA x hO hD K hK
     obtain ⟨e74, ev74⟩ := qE (hD 20 74 (by kernel_rfl))
     obtain ⟨e75, ev75⟩ := qE (hD 21 75 (by kernel_rfl))
     obtain ⟨e73, ev73⟩ := qE (hD 19 73 (by kernel_rfl))
     first | have ge73 := slot_of e73 | have ge73 := slot_un e73
     clear hO hD
     first | (go_simp; exact hK.out _ _ (Ex.refl _) rfl) | (rcases ge73 with ge73 | ge73 <;> (go_simp; exact hK.out _ _ (Ex.refl _) rfl))
    apply Steps.o1 (MP.eq _) 24 rfl rfl
    ·intro FA x hO hD K hK
     obtain ⟨e73, ev73⟩ := qE (hD 19 73 (by kernel_rfl))
     obtain ⟨e76, ev76⟩ := qE (hD 22 76 (by kernel_rfl))
     obtain ⟨e70, ev70⟩ := qE (hD 16 70 (by kernel_rfl))
     first | have ge70 := slot_of e70 | have ge70 := slot_un e70
     clear hO hD
     first | (go_simp; exact hK.out _ _ (Ex.refl _) rfl) | (rcases ge70 with ge70 | ge70 <;> (go_simp; exact hK.out _ _ (Ex.refl _) rfl))
    apply Steps.o1 (MP.eq _) 25 rfl rfl
    ·intro FA x hO hD K hK
     obtain ⟨e70, ev70⟩ := qE (hD 16 70 (by kernel_rfl))
     obtain ⟨e77, ev77⟩ := qE (hD 23 77 (by kernel_rfl))
     clear hO hD
     go_simp
     exact hK.out _ _ (Ex.refl _) rfl
    refine Steps.fin_ (fun vs x hp => ?_)
    have p0 : vs 0 = _ := hp 0 (by omega)
    have p1 : vs 1 = _ := hp 1 (by omega)
    have p2 : vs 2 = _ := hp 2 (by omega)
    have p3 : vs 3 = _ := hp 3 (by omega)
    have p4 : vs 4 = _ := hp 4 (by omega)
    have p5 : vs 5 = _ := hp 5 (by omega)
    have p6 : vs 6 = _ := hp 6 (by omega)
    have p7 : vs 7 = _ := hp 7 (by omega)
    have p8 : vs 8 = _ := hp 8 (by omega)
    have p9 : vs 9 = _ := hp 9 (by omega)
    have p10 : vs 10 = _ := hp 10 (by omega)
    have p11 : vs 11 = _ := hp 11 (by omega)
    have p12 : vs 12 = _ := hp 12 (by omega)
    have p13 : vs 13 = _ := hp 13 (by omega)
    have p14 : vs 14 = _ := hp 14 (by omega)
    have p15 : vs 15 = _ := hp 15 (by omega)
    have p16 : vs 16 = _ := hp 16 (by omega)
    have p17 : vs 17 = _ := hp 17 (by omega)
    have p18 : vs 18 = _ := hp 18 (by omega)
    have p19 : vs 19 = _ := hp 19 (by omega)
    have p20 : vs 20 = _ := hp 20 (by omega)
    have p21 : vs 21 = _ := hp 21 (by omega)
    have p22 : vs 22 = _ := hp 22 (by omega)
    have p23 : vs 23 = _ := hp 23 (by omega)
    have p24 : vs 24 = _ := hp 24 (by omega)
    clear hp
    simp only [List.take_succ_cons, List.take_zero, List.drop_succ_cons, List.drop_zero, putAll, Nat.zero_add, Nat.reduceAdd, Act.put, qsT, qsZ, qsS, p0, p1, p2, p3, p4, p5, p6, p7, p8, p9, p10, p11, p12, p13, p14, p15, p16, p17, p18, p19, p20, p21, p22, p23, p24]
    clear p0 p1 p2 p3 p4 p5 p6 p7 p8 p9 p10 p11 p12 p13 p14 p15 p16 p17 p18 p19 p20 p21 p22 p23 p24
    clear vs
    have be4 := be5.trans ((below_plus W5 x.bs x.d).mono be5.size)
    generalize plus W5 x.bs x.d = W6 at *
    go_wp2
    exact ⟨⟨i + 1, by go_num, by omega, be4⟩, by simp [intOf]; omega⟩
   | true =>
    obtain ⟨hi65, hz⟩ := HYE.out rfl
    have hi2 : (i : Int) < 65 := by omega
    have HAP := Lib.hid (show ((rcC C A2 n2 c2).drop (18 + i * 3)).take (adC ba.1 ba.2.1 ba.2.2).length = adC ba.1 ba.2.1 ba.2.2 by rw [hz]; exact rcC_ad C hk hb A2 n2 c2 i hi65)
    clear HNO HYE hz
    go_upto_region 7 with (fail)
    refine wp_relS 25 104 rfl (by kernel_rfl) (by kernel_rfl) ?_
    apply Steps.o1 (MP.eq _) 1 rfl rfl
    ·intro FA x hO hD K hK
     have e7 := hO 7 (by kernel_rfl)
     simp only [eval_tmp, qgT, qgS, qgZ, qoS] at e7
     have ev7 := Lib.hid ((eval_tmp FA 7).trans e7)
     clear hO hD
     go_simp
     exact hK.out _ _ (Ex.refl _) rfl
    apply Steps.o1 (MP.eq _) 2 rfl rfl
    ·intro FA x hO hD K hK
     have e3 := hO 3 (by kernel_rfl)
     simp only [eval_tmp, qgT, qgS, qgZ, qoS] at e3
     have ev3 := Lib.hid ((eval_tmp FA 3).trans e3)
     clear hO hD
     refine wanted_if rfl ?_
     refine wp_ldA 37 (.tmp 3) rfl (rcC C A2 n2 c2) ev3.out (br5.later (below_plus _ _ _)) (whole_ _) vr1 vr2 (szRcS C hk hb A2 n2 c2) ?_
     exact hK.out _ _ (Ex.refl _) rfl
    apply Steps.o1 (MP.eq _) 3 rfl rfl
    ·intro FA x hO hD K hK
     have e5 := hO 5 (by kernel_rfl)
     simp only [eval_tmp, qgT, qgS, qgZ, qoS] at e5
     have ev5 := Lib.hid ((eval_tmp FA 5).trans e5)
     clear hO hD
     go_simp
     exact hK.out _ _ (Ex.refl _) rfl
    apply Steps.o1 (MP.eq _) 4 rfl rfl
    ·intro FA x hO hD K hK
     obtain ⟨e55, ev55⟩ := qE (hD 1 55 (by kernel_rfl))
     obtain ⟨e56, ev56⟩ := qE (hD 2 56 (by kernel_rfl))
     clear hO hD
     go_simp
     refine (HKN.out _).mono ?_
     rintro e w1 ⟨bs2, d2, rfl, rfl⟩
     exact hK.out _ _ (Ex.plus_ _ _ _) rfl
    apply Steps.o1 (MP.eq _) 5 rfl rfl
    ·intro FA x hO hD K hK
     obtain ⟨e54, ev54⟩ := qE (hD 0 54 (by kernel_rfl))
     obtain ⟨e57, ev57⟩ := qE (hD 3 57 (by kernel_rfl))
     clear hO hD
     go_simp
     exact hK.out _ _ (Ex.refl _) rfl
    apply Steps.o1 (MP.eq _) 6 rfl rfl
    ·intro FA x hO hD K hK
     obtain ⟨e58, ev58⟩ := qE (hD 4 58 (by kernel_rfl))
     clear hO hD
     go_simp
     exact hK.out _ _ (Ex.refl _) rfl
    apply Steps.o1 (MP.eq _) 7 rfl rfl
    ·intro FA x hO hD K hK
     have e7 := hO 7 (by kernel_rfl)
     simp only [eval_tmp, qgT, qgS, qgZ, qoS] at e7
     have ev7 := Lib.hid ((eval_tmp FA 7).trans e7)
     obtain ⟨e59, ev59⟩ := qE (hD 5 59 (by kernel_rfl))
     first | have ge59 := slot_of e59 | have ge59 := slot_un e59
     clear hO hD
     first | (go_simp; exact hK.out _ _ (Ex.refl _) rfl) | (rcases ge59 with ge59 | ge59 <;> (go_simp; exact hK.out _ _ (Ex.refl _) rfl))
    apply Steps.o1 (MP.eq _) 8 rfl rfl
    ·intro FA x hO hD K hK
     obtain ⟨e60, ev60⟩ := qE (hD 6 60 (by kernel_rfl))
     obtain ⟨e59, ev59⟩ := qE (hD 5 59 (by kernel_rfl))
     first | have ge59 := slot_of e59 | have ge59 := slot_un e59
     clear hO hD
     first | (go_simp; exact hK.out _ _ (Ex.refl _) rfl) | (rcases ge59 with ge59 | ge59 <;> (go_simp; exact hK.out _ _ (Ex.refl _) rfl))
    apply Steps.o1 (MP.eq _) 9 rfl rfl
    ·intro FA x hO hD K hK
     have e6 := hO 6 (by kernel_rfl)
     simp only [eval_tmp, qgT, qgS, qgZ, qoS] at e6
     have ev6 := Lib.hid ((eval_tmp FA 6).trans e6)
     obtain ⟨e61, ev61⟩ := qE (hD 7 61 (by kernel_rfl))
     first | have ge61 := slot_of e61 | have ge61 := slot_un e61
     clear hO hD
     first | (refine wanted_ifG ?_ ?_; (· go_simp); refine wp_ldA 32 (.tmp 6) rfl (adC ba.1 ba.2.1 ba.2.2) ev6.out (h5.later (below_plus _ _ _)) (whole_ _) va1 va2 (szAd _ _ _) ?_; exact hK.out _ _ (Ex.refl _) rfl) | (go_simp; exact hK.out _ _ (Ex.refl _) rfl) | (rcases ge61 with ge61 | ge61 <;> (go_simp; exact hK.out _ _ (Ex.refl _) rfl))
    apply Steps.o1 (MP.eq _) 10 rfl rfl
    ·intro FA x hO hD K hK
     have e5 := hO 5 (by kernel_rfl)
     simp only [eval_tmp, qgT, qgS, qgZ, qoS] at e5
     have ev5 := Lib.hid ((eval_tmp FA 5).trans e5)
     obtain ⟨e61, ev61⟩ := qE (hD 7 61 (by kernel_rfl))
     first | have ge61 := slot_of e61 | have ge61 := slot_un e61
     clear hO hD
     first | (go_simp; exact hK.out _ _ (Ex.refl _) rfl) | (rcases ge61 with ge61 | ge61 <;> (go_simp; exact hK.out _ _ (Ex.refl _) rfl))
    apply Steps.o1 (MP.eq _) 11 rfl rfl
    ·intro FA x hO hD K hK
     have e3 := hO 3 (by kernel_rfl)
     simp only [eval_tmp, qgT, qgS, qgZ, qoS] at e3
     have ev3 := Lib.hid ((eval_tmp FA 3).trans e3)
     obtain ⟨e61, ev61⟩ := qE (hD 7 61 (by kernel_rfl))
     first | have ge61 := slot_of e61 | have ge61 := slot_un e61
     clear hO hD
     first | (go_simp; exact hK.out _ _ (Ex.refl _) rfl) | (rcases ge61 with ge61 | ge61 <;> (go_simp; exact hK.out _ _ (Ex.refl _) rfl))
    apply Steps.o1 (MP.eq _) 12 rfl rfl
    ·intro FA x hO hD K hK
     obtain ⟨e64, ev64⟩ := qE (hD 10 64 (by kernel_rfl))
     obtain ⟨e63, ev63⟩ := qE (hD 9 63 (by kernel_rfl))
     obtain ⟨e61, ev61⟩ := qE (hD 7 61 (by kernel_rfl))
     first | have ge61 := slot_of e61 | have ge61 := slot_un e61
     clear hO hD
     first | (go_simp; exact hK.out _ _ (Ex.refl _) rfl) | (rcases ge61 with ge61 | ge61 <;> (go_simp; exact hK.out _ _ (Ex.refl _) rfl))
    apply Steps.o1 (MP.eq _) 13 rfl rfl
    ·intro FA x hO hD K hK
     obtain ⟨e65, ev65⟩ := qE (hD 11 65 (by kernel_rfl))
     obtain ⟨e61, ev61⟩ := qE (hD 7 61 (by kernel_rfl))
     first | have ge61 := slot_of e61 | have ge61 := slot_un e61
     clear hO hD
     refine wanted_ifG (by go_simp) ?_
     refine wp_ldA 32 (.tmp 65) rfl (adC ba.1 ba.2.1 ba.2.2) ev65.out (br5.later (below_plus _ _ _)) (HAP.out) va1 va2 (szAd _ _ _) ?_
     exact hK.out _ _ (Ex.refl _) rfl
    apply Steps.o1 (MP.eq _) 14 rfl rfl
    ·intro FA x hO hD K hK
     obtain ⟨e62, ev62⟩ := qE (hD 8 62 (by kernel_rfl))
     obtain ⟨e66, ev66⟩ := qE (hD 12 66 (by kernel_rfl))
     obtain ⟨e61, ev61⟩ := qE (hD 7 61 (by kernel_rfl))
     first | have ge61 := slot_of e61 | have ge61 := slot_un e61
     clear hO hD
     first | (go_simp; exact hK.out _ _ (Ex.refl _) rfl) | (rcases ge61 with ge61 | ge61 <;> (go_simp; exact hK.out _ _ (Ex.refl _) rfl))
    apply Steps.o1 (MP.eq _) 15 rfl rfl
    ·intro FA x hO hD K hK
     obtain ⟨e61, ev61⟩ := qE (hD 7 61 (by kernel_rfl))
     obtain ⟨e67, ev67⟩ := qE (hD 13 67 (by kernel_rfl))
     obtain ⟨e59, ev59⟩ := qE (hD 5 59 (by kernel_rfl))
     first | have ge59 := slot_of e59 | have ge59 := slot_un e59
     clear hO hD
     first | (go_simp; exact hK.out _ _ (Ex.refl _) rfl) | (rcases ge59 with ge59 | ge59 <;> (go_simp; exact hK.out _ _ (Ex.refl _) rfl))
    apply Steps.o1 (MP.eq _) 16 rfl rfl
    ·intro FA x hO hD K hK
     obtain ⟨e59, ev59⟩ := qE (hD 5 59 (by kernel_rfl))
     obtain ⟨e68, ev68⟩ := qE (hD 14 68 (by kernel_rfl))
     clear hO hD
     go_simp
     exact hK.out _ _ (Ex.refl _) rfl
    apply Steps.o1 (MP.eq _) 17 rfl rfl
    ·intro FA x hO hD K hK
     obtain ⟨e69, ev69⟩ := qE (hD 15 69 (by kernel_rfl))
     clear hO hD
     go_simp
     exact hK.out _ _ (Ex.refl _) rfl
    apply Steps.o1 (MP.eq _) 18 rfl rfl
    ·intro FA x hO hD K hK
     have e7 := hO 7 (by kernel_rfl)
     simp only [eval_tmp, qgT, qgS, qgZ, qoS] at e7
     have ev7 := Lib.hid ((eval_tmp FA 7).trans e7)
     obtain ⟨e70, ev70⟩ := qE (hD 16 70 (by kernel_rfl))
     first | have ge70 := slot_of e70 | have ge70 := slot_un e70
     clear hO hD
     first | (go_simp; exact hK.out _ _ (Ex.refl _) rfl) | (rcases ge70 with ge70 | ge70 <;> (go_simp; exact hK.out _ _ (Ex.refl _) rfl))
    apply Steps.o1 (MP.eq _) 19 rfl rfl
    ·intro FA x hO hD K hK
     obtain ⟨e71, ev71⟩ := qE (hD 17 71 (by kernel_rfl))
     obtain ⟨e70, ev70⟩ := qE (hD 16 70 (by kernel_rfl))
     first | have ge70 := slot_of e70 | have ge70 := slot_un e70
     clear hO hD
     first | (go_simp; exact hK.out _ _ (Ex.refl _) rfl) | (rcases ge70 with ge70 | ge70 <;> (go_simp; exact hK.out _ _ (Ex.refl _) rfl))
    apply Steps.o1 (MP.eq _) 20 rfl rfl
    ·intro FA x hO hD K hK
     obtain ⟨e72, ev72⟩ := qE (hD 18 72 (by kernel_rfl))
     obtain ⟨e70, ev70⟩ := qE (hD 16 70 (by kernel_rfl))
     first | have ge70 := slot_of e70 | have ge70 := slot_un e70
     clear hO hD
     first | (go_simp; exact hK.out _ _ (Ex.refl _) rfl) | (rcases ge70 with ge70 | ge70 <;> (go_simp; exact hK.out _ _ (Ex.refl _) rfl))
    apply Steps.o1 (MP.eq _) 21 rfl rfl
    ·intro FA x hO hD K hK
     have e6 := hO 6 (by kernel_rfl)
     simp only [eval_tmp, qgT, qgS, qgZ, qoS] at e6
     have ev6 := Lib.hid ((eval_tmp FA 6).trans e6)
     obtain ⟨e73, ev73⟩ := qE (hD 19 73 (by kernel_rfl))
     first | have ge73 := slot_of e73 | have ge73 := slot_un e73
     clear hO hD
     first | (refine wanted_ifG ?_ ?_; (· go_simp); refine wp_ldA 32 (.tmp 6) rfl (adC ba.1 ba.2.1 ba.2.2) ev6.out (h5.later (below_plus _ _ _)) (whole_ _) va1 va2 (szAd _ _ _) ?_; exact hK.out _ _ (Ex.refl _) rfl) | (go_simp; exact hK.out _ _ (Ex.refl _) rfl) | (rcases ge73 with ge73 | ge73 <;> (go_simp; exact hK.out _ _ (Ex.refl _) rfl))
    apply Steps.o1 (MP.eq _) 22 rfl rfl
    ·intro FA x hO hD K hK
     obtain ⟨e73, ev73⟩ := qE (hD 19 73 (by kernel_rfl))
     first | have ge73 := slot_of e73 | have ge73 := slot_un e73
     clear hO hD
     first | (go_simp; exact hK.out _ _ (Ex.refl _) rfl) | (rcases ge73 with ge73 | ge73 <;> (go_simp; exact hK.out _ _ (Ex.refl _) rfl))
    apply Steps.o1 (MP.eq _) 23 rfl rfl
    ·intro FA x hO hD K hK
     obtain ⟨e74, ev74⟩ := qE (hD 20 74 (by kernel_rfl))
     obtain ⟨e75, ev75⟩ := qE (hD 21 75 (by kernel_rfl))
     obtain ⟨e73, ev73⟩ := qE (hD 19 73 (by kernel_rfl))
     first | have ge73 := slot_of e73 | have ge73 := slot_un e73
     clear hO hD
     first | (go_simp; exact hK.out _ _ (Ex.refl _) rfl) | (rcases ge73 with ge73 | ge73 <;> (go_simp; exact hK.out _ _ (Ex.refl _) rfl))
    apply Steps.o1 (MP.eq _) 24 rfl rfl
    ·intro FA x hO hD K hK
     obtain ⟨e73, ev73⟩ := qE (hD 19 73 (by kernel_rfl))
     obtain ⟨e76, ev76⟩ := qE (hD 22 76 (by kernel_rfl))
     obtain ⟨e70, ev70⟩ := qE (hD 16 70 (by kernel_rfl))
     first | have ge70 := slot_of e70 | have ge70 := slot_un e70
     clear hO hD
     first | (go_simp; exact hK.out _ _ (Ex.refl _) rfl) | (rcases ge70 with ge70 | ge70 <;> (go_simp; exact hK.out _ _ (Ex.refl _) rfl))
    apply Steps.o1 (MP.eq _) 25 rfl rfl
    ·intro FA x hO hD K hK
     obtain ⟨e70, ev70⟩ := qE (hD 16 70 (by kernel_rfl))
     obtain ⟨e77, ev77⟩ := qE (hD 23 77 (by kernel_rfl))
     clear hO hD
     go_simp
     exact hK.out _ _ (Ex.refl _) rfl
    refine Steps.fin_ (fun vs x hp => ?_)
    have p0 : vs 0 = _ := hp 0 (by omega)
    have p1 : vs 1 = _ := hp 1 (by omega)
    have p2 : vs 2 = _ := hp 2 (by omega)
    have p3 : vs 3 = _ := hp 3 (by omega)
    have p4 : vs 4 = _ := hp 4 (by omega)
    have p5 : vs 5 = _ := hp 5 (by omega)
    have p6 : vs 6 = _ := hp 6 (by omega)
    have p7 : vs 7 = _ := hp 7 (by omega)
    have p8 : vs 8 = _ := hp 8 (by omega)
    have p9 : vs 9 = _ := hp 9 (by omega)
    have p10 : vs 10 = _ := hp 10 (by omega)
    have p11 : vs 11 = _ := hp 11 (by omega)
    have p12 : vs 12 = _ := hp 12 (by omega)
    have p13 : vs 13 = _ := hp 13 (by omega)
    have p14 : vs 14 = _ := hp 14 (by omega)
    have p15 : vs 15 = _ := hp 15 (by omega)
    have p16 : vs 16 = _ := hp 16 (by omega)
    have p17 : vs 17 = _ := hp 17 (by omega)
    have p18 : vs 18 = _ := hp 18 (by omega)
    have p19 : vs 19 = _ := hp 19 (by omega)
    have p20 : vs 20 = _ := hp 20 (by omega)
    have p21 : vs 21 = _ := hp 21 (by omega)
    have p22 : vs 22 = _ := hp 22 (by omega)
    have p23 : vs 23 = _ := hp 23 (by omega)
    have p24 : vs 24 = _ := hp 24 (by omega)
    clear hp
    simp only [List.take_succ_cons, List.take_zero, List.drop_succ_cons, List.drop_zero, putAll, Nat.zero_add, Nat.reduceAdd, Act.put, qsT, qsZ, qsS, p0, p1, p2, p3, p4, p5, p6, p7, p8, p9, p10, p11, p12, p13, p14, p15, p16, p17, p18, p19, p20, p21, p22, p23, p24]
    clear p0 p1 p2 p3 p4 p5 p6 p7 p8 p9 p10 p11 p12 p13 p14 p15 p16 p17 p18 p19 p20 p21 p22 p23 p24
    clear vs
    have be4 := be5.trans ((below_plus W5 x.bs x.d).mono be5.size)
    generalize plus W5 x.bs x.d = W6 at *
    go_wp2
    exact ⟨⟨i + 1, by go_num, by omega, be4⟩, by simp [intOf]; omega⟩
  ·have hi1 : ¬ (i : Int) < 66 := by omega
   go_upto_region 10 with (fail)
   clear hil hi hi1
   have HB2 := Lib.hid be
   clear be
   obtain ⟨dvr, vrr1, vrr2⟩ := rowRv
   obtain ⟨dvv, vv1, vv2⟩ := rowVe
   go_loopw [8] (fun I wr => ∃ i : Nat, I = .int .i64 (i : Int) ∧ i ≤ n2 ∧ Below V1.heap.size V1 wr) (fun I _ => n2 - (intOf I).toNat)
   case atStart => exact ⟨0, rfl, Nat.zero_le _, HB2.out⟩
   case round =>
    clear HB2
    obtain ⟨i, rfl, hi, be⟩ := hrel
    have br := HBR.out wr be
    have h16 : n2 ≤ 16 := by have := HNL2.out; omega
    have q278 : wr.cell? ⟨w.heap.size, 278, none⟩ = some (.slice A2 n2 c2) := (br.cell 278).trans (rcC_vips C hk hb A2 n2 c2)
    by_cases hil : i < n2
    ·have hi1 : (i : Int) < (n2 : Int) := by omega
     have hilC : i < C.vs.length := by have := HNL2.out; omega
     obtain ⟨x0, hx0, hx1⟩ := E_at HX.out (List.getElem?_eq_getElem hilC)
     have hE2 : i < E2.length := by have := HR.out.len; omega
     have hy1 : (E2[i]).1 = C.vs[i] := by
      have h1 : (E2.map (·.1))[i]? = some (E2[i]).1 := by rw [List.getElem?_map, List.getElem?_eq_getElem hE2]; rfl
      rw [HR.out.vs, List.getElem?_eq_getElem hilC] at h1
      exact (Option.some.inj h1).symm
     obtain ⟨bl, ol, rfl, hbl, -⟩ := HR.out.row.at_ (by omega) (by decide)
     have hrg := fun W (h : Below V1.heap.size V1 W) => (HR.out.row.later (HBE.out.trans (h.mono HBE.out.size))).rangeE rvC_len i hE2
     have hmy := HR.out.mm _ (List.getElem_mem hE2)
     have hsy := HR.out.ss _ (List.getElem_mem hE2)
     have hmx := HX.out.mm x0 (List.mem_of_getElem? hx0)
     have htx := HX.out.tb x0 (List.mem_of_getElem? hx0)
     have hvv := HVV.out _ (List.getElem_mem hilC)
     have HVP := Lib.hid (fun W (h : Below V1.heap.size V1 W) => vip_any C hk hb g A n c E i x0 W (HX.out.later (HBE.out.trans (h.mono HBE.out.size))) hx0)
     clear hx0
     generalize C.vs[i] = v0 at *
     generalize E2[i] = y at *
     obtain ⟨v, xA, xn, xc, xT⟩ := x0
     obtain ⟨v2, yA, yn, yc, yB, ym, yd⟩ := y
     obtain rfl : v = v0 := hx1
     obtain rfl : v2 = v := hy1
     have HIS := Lib.hid (fun W (h : Below V1.heap.size V1 W) => is22_any v2 xA xn xn xT yA yn yc yB ym yd hvv.1 W ⟨(hmx.later (HBE.out.trans (h.mono HBE.out.size))).1, Nat.le_refl _, (hmx.later (HBE.out.trans (h.mono HBE.out.size))).2.2⟩ (htx.later (HBE.out.trans (h.mono HBE.out.size))) (hmy.later (HBE.out.trans (h.mono HBE.out.size))) (hsy.later (HBE.out.trans (h.mono HBE.out.size))) hvv.2 (HT.out.later (HBE.out.trans (h.mono HBE.out.size))))
     clear hmy hsy hmx htx hvv hilC hE2
     go_upto_region 12 with (fail)
     refine wp_region_lit ?_
     iterate 2 (refine wpList_plain rfl (fun K hK => ?_); go_simp; with_reducible refine hK _ _ ?_; clear hK K)
     refine wpList_plain rfl (fun K hK => ?_)
     go_simp
     refine (HVP.out _ be).mono ?_
     rintro e w1 ⟨bs1, d1, rfl, rfl⟩
     with_reducible refine hK _ _ ?_
     clear hK K
     iterate 4 (refine wpList_plain rfl (fun K hK => ?_); go_simp; with_reducible refine hK _ _ ?_; clear hK K)
     refine wpList_stA (t := 53) 53 (.tmp 9) (.tmp 90) rfl rfl (veC (clV (v2, (⟨xA, xn, xc, xT⟩ : VE)))) veZ rfl (veC_one _) rfl rfl (Bk.newK _ _ _ (by simp [size_plus]) rfl) (szVe _) ?_
     intro W5 h5 g5
     refine wpList_plain rfl (fun K hK => ?_); go_simp; with_reducible refine hK _ _ ?_; clear hK K
     have be5 : Below V1.heap.size V1 W5 := below_grown (Below.allocS (be.trans ((below_plus wr bs1 d1).mono be.size)) _) g5 (by have := be.size; simp [size_plus]; omega)
     have br5 := HBR.out _ be5
     generalize wr.heap.size + bs1.length = gv at *
     clear g5 HVP be br q278
     go_upto_region 13 with (fail)
     refine wp_relS 12 104 rfl (by kernel_rfl) (by kernel_rfl) ?_
     apply Steps.o1 (MP.eq _) 1 rfl rfl
     ·intro FA x hO hD K hK
      have e10 := hO 10 (by kernel_rfl)
      simp only [eval_tmp, qgT, qgS, qgZ, qoS] at e10
      have ev10 := Lib.hid ((eval_tmp FA 10).trans e10)
      clear hO hD
      go_simp
      exact hK.out _ _ (Ex.refl _) rfl
     apply Steps.o1 (MP.eq _) 2 rfl rfl
     ·intro FA x hO hD K hK
      obtain ⟨e92, ev92⟩ := qE (hD 0 92 (by kernel_rfl))
      clear hO hD
      go_simp
      exact hK.out _ _ (Ex.refl _) rfl
     apply Steps.o1 (MP.eq _) 3 rfl rfl
     ·intro FA x hO hD K hK
      obtain ⟨e93, ev93⟩ := qE (hD 1 93 (by kernel_rfl))
      clear hO hD
      go_simp
      exact hK.out _ _ (Ex.refl _) rfl
     apply Steps.o1 (MP.eq _) 4 rfl rfl
     ·intro FA x hO hD K hK
      have e9 := hO 9 (by kernel_rfl)
      simp only [eval_tmp, qgT, qgS, qgZ, qoS] at e9
      have ev9 := Lib.hid ((eval_tmp FA 9).trans e9)
      obtain ⟨e94, ev94⟩ := qE (hD 2 94 (by kernel_rfl))
      first | have ge94 := slot_of e94 | have ge94 := slot_un e94
      clear hO hD
      first | (refine wanted_ifG ?_ ?_; (· go_simp); refine wp_ldA 53 (.tmp 9) rfl (veC (clV (v2, (⟨xA, xn, xc, xT⟩ : VE)))) ev9.out (h5.later (below_plus _ _ _)) (whole_ _) vv1 vv2 (szVe _) ?_; exact hK.out _ _ (Ex.refl _) rfl) | (go_simp; exact hK.out _ _ (Ex.refl _) rfl) | (rcases ge94 with ge94 | ge94 <;> (go_simp; exact hK.out _ _ (Ex.refl _) rfl))
     apply Steps.o1 (MP.eq _) 5 rfl rfl
     ·intro FA x hO hD K hK
      have e3 := hO 3 (by kernel_rfl)
      simp only [eval_tmp, qgT, qgS, qgZ, qoS] at e3
      have ev3 := Lib.hid ((eval_tmp FA 3).trans e3)
      obtain ⟨e94, ev94⟩ := qE (hD 2 94 (by kernel_rfl))
      first | have ge94 := slot_of e94 | have ge94 := slot_un e94
      clear hO hD
      first | (go_simp; exact hK.out _ _ (Ex.refl _) rfl) | (rcases ge94 with ge94 | ge94 <;> (go_simp; exact hK.out _ _ (Ex.refl _) rfl))
     apply Steps.o1 (MP.eq _) 6 rfl rfl
     ·intro FA x hO hD K hK
      obtain ⟨e96, ev96⟩ := qE (hD 4 96 (by kernel_rfl))
      obtain ⟨e94, ev94⟩ := qE (hD 2 94 (by kernel_rfl))
      first | have ge94 := slot_of e94 | have ge94 := slot_un e94
      clear hO hD
      refine wanted_ifG (by go_simp) ?_
      refine wp_ld1 35 (.tmp 96) rfl ev96.out (br5.later (below_plus _ _ _)) (rcC_vips C hk hb _ n2 c2) Tryd.underlying35 rfl ?_
      exact hK.out _ _ (Ex.refl _) rfl
     apply Steps.o1 (MP.eq _) 7 rfl rfl
     ·intro FA x hO hD K hK
      have e8 := hO 8 (by kernel_rfl)
      simp only [eval_tmp, qgT, qgS, qgZ, qoS] at e8
      have ev8 := Lib.hid ((eval_tmp FA 8).trans e8)
      obtain ⟨e94, ev94⟩ := qE (hD 2 94 (by kernel_rfl))
      first | have ge94 := slot_of e94 | have ge94 := slot_un e94
      clear hO hD
      first | (go_simp; exact hK.out _ _ (Ex.refl _) rfl) | (rcases ge94 with ge94 | ge94 <;> (go_simp; exact hK.out _ _ (Ex.refl _) rfl))
     apply Steps.o1 (MP.eq _) 8 rfl rfl
     ·intro FA x hO hD K hK
      obtain ⟨e97, ev97⟩ := qE (hD 5 97 (by kernel_rfl))
      obtain ⟨e98, ev98⟩ := qE (hD 6 98 (by kernel_rfl))
      obtain ⟨e94, ev94⟩ := qE (hD 2 94 (by kernel_rfl))
      first | have ge94 := slot_of e94 | have ge94 := slot_un e94
      clear hO hD
      first | (go_simp; exact hK.out _ _ (Ex.refl _) rfl) | (rcases ge94 with ge94 | ge94 <;> (go_simp; exact hK.out _ _ (Ex.refl _) rfl))
     apply Steps.o1 (MP.eq _) 9 rfl rfl
     ·intro FA x hO hD K hK
      obtain ⟨e99, ev99⟩ := qE (hD 7 99 (by kernel_rfl))
      obtain ⟨e94, ev94⟩ := qE (hD 2 94 (by kernel_rfl))
      first | have ge94 := slot_of e94 | have ge94 := slot_un e94
      clear hO hD
      refine wanted_ifG (by go_simp) ?_
      refine wp_load_mid 62 (.tmp 99) rfl bl (ol + i * 81) ev99.out (rvC ((v2, (⟨yA, yn, yc, yB, ym, yd⟩ : Rx)) : Re)) _ (hrg _ (be5.trans ((below_plus _ _ _).mono be5.size))) vrr1 vrr2 (szRv _) ?_
      exact hK.out _ _ (Ex.refl _) rfl
     apply Steps.o1 (MP.eq _) 10 rfl rfl
     ·intro FA x hO hD K hK
      obtain ⟨e95, ev95⟩ := qE (hD 3 95 (by kernel_rfl))
      obtain ⟨e100, ev100⟩ := qE (hD 8 100 (by kernel_rfl))
      obtain ⟨e94, ev94⟩ := qE (hD 2 94 (by kernel_rfl))
      first | have ge94 := slot_of e94 | have ge94 := slot_un e94
      clear hO hD
      refine wanted_ifG (by go_simp) ?_
      go_simp
      refine (HIS.out _ (be5.trans ((below_plus _ _ _).mono be5.size))).mono ?_
      rintro e w1 ⟨bs2, d2, rfl, rfl⟩
      exact hK.out _ _ (Ex.plus_ _ _ _) rfl
     apply Steps.o1 (MP.eq _) 11 rfl rfl
     ·intro FA x hO hD K hK
      obtain ⟨e101, ev101⟩ := qE (hD 9 101 (by kernel_rfl))
      obtain ⟨e94, ev94⟩ := qE (hD 2 94 (by kernel_rfl))
      first | have ge94 := slot_of e94 | have ge94 := slot_un e94
      clear hO hD
      first | (go_simp; exact hK.out _ _ (Ex.refl _) rfl) | (rcases ge94 with ge94 | ge94 <;> (go_simp; exact hK.out _ _ (Ex.refl _) rfl))
     apply Steps.o1 (MP.eq _) 12 rfl rfl
     ·intro FA x hO hD K hK
      obtain ⟨e94, ev94⟩ := qE (hD 2 94 (by kernel_rfl))
      obtain ⟨e102, ev102⟩ := qE (hD 10 102 (by kernel_rfl))
      clear hO hD
      go_simp
      exact hK.out _ _ (Ex.refl _) rfl
     refine Steps.fin_ (fun vs x hp => ?_)
     have p0 : vs 0 = _ := hp 0 (by omega)
     have p1 : vs 1 = _ := hp 1 (by omega)
     have p2 : vs 2 = _ := hp 2 (by omega)
     have p3 : vs 3 = _ := hp 3 (by omega)
     have p4 : vs 4 = _ := hp 4 (by omega)
     have p5 : vs 5 = _ := hp 5 (by omega)
     have p6 : vs 6 = _ := hp 6 (by omega)
     have p7 : vs 7 = _ := hp 7 (by omega)
     have p8 : vs 8 = _ := hp 8 (by omega)
     have p9 : vs 9 = _ := hp 9 (by omega)
     have p10 : vs 10 = _ := hp 10 (by omega)
     have p11 : vs 11 = _ := hp 11 (by omega)
     clear hp
     simp only [List.take_succ_cons, List.take_zero, List.drop_succ_cons, List.drop_zero, putAll, Nat.zero_add, Nat.reduceAdd, Act.put, qsT, qsZ, qsS, p0, p1, p2, p3, p4, p5, p6, p7, p8, p9, p10, p11]
     clear p0 p1 p2 p3 p4 p5 p6 p7 p8 p9 p10 p11
     clear vs
     have be6 := be5.trans ((below_plus W5 x.bs x.d).mono be5.size)
     generalize plus W5 x.bs x.d = W6 at *
     clear HIS hrg h5 br5
     go_wp2
     exact ⟨⟨i + 1, by go_num, by omega, be6⟩, by simp [intOf]; omega⟩
    ·have hi1 : ¬ (i : Int) < (n2 : Int) := by omega
     go_wp2
     go_ret
     exact RetV.is_ rfl (HBE.out.trans (be.mono HBE.out.size))
end

section
open Go.Lib
open Go.RowKit
attribute [local go_sem ↓] sliced_cut
attribute [local go_sem] cutA_zero
def RetRq (G : Nat → Prop) (w : World) (C' : Cf) (v : Nat) (e : Ending) (w' : World) : Prop := ∃ A n c E, e = .returned (.tuple #[.agg (rcC C' A n c).toArray, .int .i64 (v : Nat)]) ∧ RcX G w' C' A n c E ∧ Below w.heap.size w w' ∧ (v = 0 → RcO G w.heap.size w' C' A n c E)
set_option maxHeartbeats 4000000
set_option maxRecDepth 100000
theorem rcDoes3_own {G : Nat → Prop} (k b e : Int) (vi : Nat) (six : Bool) (ah al pt pr : Nat) (wy : Int) (ms : List (Int × Int)) (B : Option Addr) (m d : Nat) (C : Cf) (hC : CfR C) (A : Option Addr) (n c : Nat) (E : List Re) (w : World) (hG : ∀ b, G b → b < w.heap.size) (hX : RcX G w C A n c E) (hr : Rs 2 w B m d (prs .i64 ms)) (hm : m ≤ 1000000) (uv : Vp) (huv : C.vs[vi]? = some uv) (hk1 : ¬ k = 1) (hk2 : ¬ k = 2) (hk67 : ¬ (k = 6 ∨ k = 7)) (hk8 : ¬ k = 8) (hk3 : k = 3) : Calls Tryd.prog 18 #[.agg (rcC C A n c).toArray, .agg (opC k (vi : Nat) b e six ah al pt pr wy B m d).toArray] w (RetRo G w (chC C ⟨k, ((vi : Nat) : Int), b, e, six, ah, al, pt, pr, wy, ms⟩) (chE C ⟨k, ((vi : Nat) : Int), b, e, six, ah, al, pt, pr, wy, ms⟩)) := by
 have HK3 := Lib.hid hk3
 clear hk3
 obtain ⟨dva1, va1, va2⟩ := rowAdC
 obtain ⟨dvr1, vr1, vr2⟩ := rowRv
 obtain ⟨dvt1, vt1, vt2⟩ := rowRst
 have hk := hC.key
 have hb := hC.bl
 have HX0 := Lib.hid hX
 have hvn : vi < n := by have := (List.getElem?_eq_some_iff.1 huv).1; have := hX.n_; omega
 have hn16 : n ≤ 16 := by have := hC.vl; have := hX.n_; omega
 have hvi1 : (vi : Int) < (n : Int) := by omega
 have hvi2 : ¬ (n : Int) ≤ (vi : Int) := by omega
 have hok : StkOk uv.S := hC.vs uv (List.mem_of_getElem? huv)
 have HMR := Lib.hid hr
 clear hr
 have HEV := Lib.hid (show chE C ⟨k, ((vi : Nat) : Int), b, e, six, ah, al, pt, pr, wy, ms⟩ = vipE C ⟨k, ((vi : Nat) : Int), b, e, six, ah, al, pt, pr, wy, ms⟩ uv by unfold chE vAt; simp only []; rw [if_neg hk1, if_neg hk2, if_neg hk67, if_neg hk8, if_pos (by omega), Int.toNat_natCast, huv])
 have HCV := Lib.hid (show chC C ⟨k, ((vi : Nat) : Int), b, e, six, ah, al, pt, pr, wy, ms⟩ = { C with vs := C.vs.set vi (vipV ⟨k, ((vi : Nat) : Int), b, e, six, ah, al, pt, pr, wy, ms⟩ uv) } by unfold chC vAt; simp only []; rw [if_neg hk1, if_neg hk2, if_neg hk67, if_neg hk8, if_pos (by omega), Int.toNat_natCast, huv])
 have k1 : (k == 1) = false := by simpa using hk1
 have k2 : (k == 2) = false := by simpa using hk2
 have k6 : (k == 6) = false := by simp; omega
 have k7 : (k == 7) = false := by simp; omega
 have k8 : (k == 8) = false := by simpa using hk8
 clear hk1 hk2 hk67 hk8
 obtain ⟨dvs1, vs1, vs2⟩ := rowRcS
 obtain ⟨dvo1, vo1, vo2⟩ := rowRo
 obtain ⟨bs, bo, be, zV⟩ := box2 w 37 48 (rcC C A n c) (opC k (vi : Nat) b e six ah al pt pr wy B m d)
 go_enter Tryd.func18, Tryd.ntmps18
 go_upto_region 1 with (fail)
 have HVe := Lib.hid (show ((w.alloc (.cells (rcC C A n c).toArray 37)).alloc (.cells (opC k (vi : Nat) b e six ah al pt pr wy B m d).toArray 48)).heap.size = w.heap.size + 1 + 1 by simp)
 generalize (w.alloc (.cells (rcC C A n c).toArray 37)).alloc (.cells (opC k (vi : Nat) b e six ah al pt pr wy B m d).toArray 48) = V at *
 have hz := Bk.newK 37 (Tryd.zeroCells37) _ HVe.out.symm rfl
 have hzl : (Tryd.zeroCells37).toList.length = 279 := by kernel_rfl
 have hbz : Below V.heap.size V (V.alloc (.cells (Tryd.zeroCells37) 37)) := Below.allocS (Below.refl _ _) _
 go_upto_region 1 with (fail)
 have hVs : w.heap.size + 2 ≤ V.heap.size := by have := bo.lt; omega
 generalize hV2 : V.alloc (.cells (Tryd.zeroCells37) 37) = V2 at *
 clear hV2
 generalize hzc : (Tryd.zeroCells37).toList = zl0 at *
 clear hzc
 replace bs := bs.later hbz
 replace bo := bo.later hbz
 replace be := be.trans (hbz.mono be.size)
 clear hbz
 have q0 : V2.cell? ⟨w.heap.size + 1, 0, none⟩ = some (.int .i64 k) := bo.cell 0
 have hv81 : (Tryd.zeroCells62).toList.length = 81 := by kernel_rfl
 go_upto_region 15 with (fail)
 refine wp_region_lit ?_
 refine wpList_plain rfl (fun K hK => ?_); go_simp; with_reducible refine hK _ _ ?_; clear hK K
 refine wpList_ld1 (t := 48) (cs := opC k (vi : Nat) b e six ah al pt pr wy B m d) 3 (.tmp 62) rfl (by rfl) rfl (bo) rfl Tryd.underlying3 rfl ?_
 iterate 2 (refine wpList_plain rfl (fun K hK => ?_); go_simp; with_reducible refine hK _ _ ?_; clear hK K)
 refine wpList_step (fun K hK => ?_); go_simp; with_reducible refine hK _ _ ?_; clear hK K
 refine wpList_ld1 (t := 48) (cs := opC k (vi : Nat) b e six ah al pt pr wy B m d) 3 (.tmp 66) rfl (by go_simp) rfl (bo) rfl Tryd.underlying3 rfl ?_
 refine wpList_step (fun K hK => ?_); go_simp; with_reducible refine hK _ _ ?_; clear hK K
 refine wpList_ld1 (t := 37) (cs := rcC C A n c) 35 (.tmp 68) rfl (by go_simp) rfl bs (rcC_vips C hk hb A n c) Tryd.underlying35 rfl ?_
 iterate 2 (refine wpList_step (fun K hK => ?_); go_simp; with_reducible refine hK _ _ ?_; clear hK K)
 refine wpList_plain rfl (fun K hK => ?_); go_simp; with_reducible refine hK _ _ ?_; clear hK K
 have hlE := HX0.out.len
 have hNn := HX0.out.n_
 obtain ⟨bl, ol, hAe, hbl, -⟩ := HX0.out.row.at_ (by omega) (by decide)
 have hrow := HX0.out.row.later be
 rw [hAe] at hrow
 have hvip : (rcC C A n c)[278]? = some (.slice (some ⟨bl, ol, none⟩) n c) := by rw [← hAe]; exact rcC_vips C hk hb A n c
 have hrg := hrow.rangeE rvC_len vi (by omega)
 have hum : E[vi]'(by omega) ∈ E := List.getElem_mem _
 have hui : (E[vi]'(by omega)).1 = uv := by
  have h1 : (E.map (·.1))[vi]? = some (E[vi]'(by omega)).1 := by rw [List.getElem?_map, List.getElem?_eq_getElem (by omega)]; rfl
  rw [HX0.out.vs, huv] at h1
  exact (Option.some.inj h1).symm
 obtain ⟨u, hu⟩ : ∃ u, u = E[vi]'(by omega) := ⟨_, rfl⟩
 rw [← hu] at hrg hum hui
 have HSSu := HX0.out.ss u hum
 have HMMu := HX0.out.mm u hum
 have HMOu := HX0.out.mo u hum
 obtain ⟨uv', uA, un, uc, uB, um, ud⟩ := u
 have hui2 : uv = uv' := hui.symm
 clear hui
 subst hui2
 replace HSSu : RSt G w uv.S.lv uB um ud := HSSu
 replace HMMu : Rs 2 w uA un uc (prs .i64 uv.ms) := HMMu
 replace HMOu : Off G w uA := HMOu
 clear hlE hAe hrow hNn hu hum
 go_upto_region 17 with (fail)
 refine wp_region_lit ?_
 refine wpList_plain rfl (fun K hK => ?_); go_simp; with_reducible refine hK _ _ ?_; clear hK K
 refine wpList_ld1 (t := 37) (cs := rcC C A n c) 35 (.tmp 74) rfl rfl rfl bs hvip Tryd.underlying35 rfl ?_
 refine wpList_plain rfl (fun K hK => ?_); go_simp; with_reducible refine hK _ _ ?_; clear hK K
 refine wpList_ld1 (t := 48) (cs := opC k (vi : Nat) b e six ah al pt pr wy B m d) 3 (.tmp 76) rfl (by rfl) rfl (bo) rfl Tryd.underlying3 rfl ?_
 refine wpList_plain rfl (fun K hK => ?_); go_simp; with_reducible refine hK _ _ ?_; clear hK K
 refine wpList_load_mid rfl 62 (.tmp 78) rfl bl (ol + vi * 81) rfl (rvC ((uv, ⟨uA, un, uc, uB, um, ud⟩) : Re)) _ hrg vr1 vr2 (szRv _) ?_
 refine wpList_plain rfl (fun K hK => ?_); go_simp; with_reducible refine hK _ _ ?_; clear hK K
 refine wpList_stA (t := 62) 62 (.tmp 6) (.tmp 79) rfl rfl (rvC ((uv, ⟨uA, un, uc, uB, um, ud⟩) : Re)) (Tryd.zeroCells62).toList (by rw [rvC_len]; exact hv81.symm) (rvC_one _) rfl rfl (Bk.new _ _ _) (szRv _) ?_
 intro W7 h7 g7
 simp only [Act.put, qsT, qsZ, qsS]
 have hbz7 := hz.lt
 replace bs := (bs.alloc (.cells (Tryd.zeroCells62) 62)).grown g7 (fun e => by injection e with e; have := bs.lt; omega)
 replace bo := (bo.alloc (.cells (Tryd.zeroCells62) 62)).grown g7 (fun e => by injection e with e; have := bo.lt; omega)
 replace hz := (hz.alloc (.cells (Tryd.zeroCells62) 62)).grown g7 (fun e => by injection e with e; have := hz.lt; omega)
 have be7 : Below w.heap.size w W7 := below_grown (Below.allocS be _) g7 (by have := be.size; omega)
 clear be g7 hrg hvip
 have be := be7
 clear be7
 generalize V2.heap.size = gv at *
 have q0 : W7.cell? ⟨w.heap.size + 1, 0, none⟩ = some (.int .i64 k) := bo.cell 0
 have hgv7 := h7.lt
 have hk3 := HK3.out
 have k3 : (k == 3) = true := by simp [hk3]
 have HE0 := Lib.hid (show vipE C ⟨k, ((vi : Nat) : Int), b, e, six, ah, al, pt, pr, wy, ms⟩ uv = setE C uv ms by unfold vipE; simp only []; rw [if_pos hk3])
 have HC0 := Lib.hid (show vipV ⟨k, ((vi : Nat) : Int), b, e, six, ah, al, pt, pr, wy, ms⟩ uv = setV uv ms by unfold vipV; simp only []; rw [if_pos hk3])
 clear hk3
 go_upto_region 21 with (fail)
 clear q0
 have HBS := Lib.hid be.size
 refine wp_region_lit ?_
 refine wpList_ldA (t := 37) 37 (.tmp 2) rfl rfl (rcC C A n c) rfl (bs) (whole_ _) vs1 vs2 (szRcS C hk hb A n c) ?_
 simp only [Act.put, qsT, qsZ, qsS]
 refine wpList_ldA (t := 48) 48 (.tmp 3) rfl rfl (opC k (vi : Nat) b e six ah al pt pr wy B m d) rfl (bo) (whole_ _) vo1 vo2 (szRo _ _ _ _ _ _ _ _ _ _ _ _ _) ?_
 refine wpList_plain rfl (fun K hK => ?_)
 go_simp
 refine (rcMembers_own (G := (fun b => G b ∨ b = w.heap.size + 1 + 1)) k b e vi six ah al pt pr wy ms B m d C hC A n c E W7 (fun b hb => hb.elim (fun h => by have := hG b h; have := be.size; omega) (fun h => by have := hz.lt; omega) : ∀ b, (fun b => G b ∨ b = w.heap.size + 1 + 1) b → b < W7.heap.size) ((HX0.out.more (G' := fun b => G b ∨ b = w.heap.size + 1 + 1) (fun b hb => hb.elim .inl (fun h => .inr (by omega)))).later be) (HMR.out.later be) hm uv huv).mono ?_
 rintro e w1 ⟨C7, A7, n7, c7, E7, rfl, hX7, hb7, hk7, hbl7, h07, hXo7⟩
 with_reducible refine hK _ _ ?_
 clear hK K
 replace hz := hz.later hb7
 replace be := be.trans (hb7.mono be.size)
 generalize hWW : w1 = W8 at *
 clear hWW
 iterate 2 (refine wpList_plain rfl (fun K hK => ?_); go_simp; with_reducible refine hK _ _ ?_; clear hK K)
 refine wpList_stA (t := 37) 37 (.tmp 4) (.tmp 87) rfl rfl (rcC C7 A7 n7 c7) zl0 (hzl.trans (rcC_len C7 (by assumption) (by assumption) _ _ _).symm).symm (rcL_one _ _ _ _ _ _ _ _) rfl rfl hz (szRcS C7 (by assumption) (by assumption) _ _ _) ?_
 intro W9 h9 g9
 refine wpList_plain rfl (fun K hK => ?_); go_simp; with_reducible refine hK _ _ ?_; clear hK K
 replace be := below_grown be g9 (by omega)
 go_wp2
 refine bodyPost_agg2 Tryd.results18 rfl rfl h9.range vs1 vs2 (szRcS C7 (by assumption) (by assumption) _ _ _) rfl ?_
 have hX9 := (hX7.chg (Chg.one (D := fun b => b = w.heap.size + 1 + 1) g9 rfl) (fun b h => .inr h)).more (G' := G) (fun b h => .inl (.inl h))
 rw [HEV.out, HCV.out, HE0.out, HC0.out]
 exact ⟨C7, A7, n7, c7, E7, rfl, hX9, be, hk7, hbl7, h07, fun h => (((hXo7 h).chg (Chg.one (D := fun b => b = w.heap.size + 1 + 1) g9 rfl) (fun b h => .inr h)).more (G' := G) (fun b h => .inl (.inl h))).base_ HBS.out⟩
theorem refApply3_of {G : Nat → Prop} (k v b e : Int) (six : Bool) (ah al pt pr : Nat) (wy : Int) (ms : List (Int × Int)) (B : Option Addr) (m d : Nat) (C : Cf) (hk : C.key.length = 16) (hb : C.bk.length = 65) (A : Option Addr) (n c : Nat) (E : List Re) (w : World) (hG : ∀ b, G b → b < w.heap.size) (hX : RcX G w C A n c E) (HDO0 : ∀ (W : World) (G' : Nat → Prop), (∀ b, G' b → b < W.heap.size) → RcX G' W C A n c E → Below w.heap.size w W → Calls Tryd.prog 18 #[.agg (rcC C A n c).toArray, .agg (opC k v b e six ah al pt pr wy B m d).toArray] W (RetRo G' W (chC C ⟨k, v, b, e, six, ah, al, pt, pr, wy, ms⟩) (chE C ⟨k, v, b, e, six, ah, al, pt, pr, wy, ms⟩))) : Calls Tryd.prog 9 #[.agg (rcC C A n c).toArray, .agg (opC k v b e six ah al pt pr wy B m d).toArray] w (RetRq G w (apC C ⟨k, v, b, e, six, ah, al, pt, pr, wy, ms⟩) (chE C ⟨k, v, b, e, six, ah, al, pt, pr, wy, ms⟩)) := by
 have HX0 := Lib.hid hX
 have HDO := Lib.hid HDO0
 clear HDO0
 have HAP := Lib.hid (show apC C ⟨k, v, b, e, six, ah, al, pt, pr, wy, ms⟩ = if chE C ⟨k, v, b, e, six, ah, al, pt, pr, wy, ms⟩ = 0 then upN (chC C ⟨k, v, b, e, six, ah, al, pt, pr, wy, ms⟩) else C from rfl)
 have HNU := Lib.hid (chC_num C ⟨k, v, b, e, six, ah, al, pt, pr, wy, ms⟩)
 generalize chE C ⟨k, v, b, e, six, ah, al, pt, pr, wy, ms⟩ = EE at *
 generalize chC C ⟨k, v, b, e, six, ah, al, pt, pr, wy, ms⟩ = CC at *
 generalize apC C ⟨k, v, b, e, six, ah, al, pt, pr, wy, ms⟩ = CA at *
 have hwn : IntKind.u64.wrap ((C.num : Int) + 1) = (((C.num + 1) % 18446744073709551616 : Nat) : Int) := by rw [IntKind.wrap_u64]; omega
 obtain ⟨dvs1, vs1, vs2⟩ := rowRcS
 obtain ⟨dvo1, vo1, vo2⟩ := rowRo
 obtain ⟨bs, bo, be, zV⟩ := box2 w 37 48 (rcC C A n c) (opC k v b e six ah al pt pr wy B m d)
 go_enter Tryd.func9, Tryd.ntmps9
 go_upto_region 1 with (fail)
 have HVe := Lib.hid (show ((w.alloc (.cells (rcC C A n c).toArray 37)).alloc (.cells (opC k v b e six ah al pt pr wy B m d).toArray 48)).heap.size = w.heap.size + 1 + 1 by simp)
 generalize (w.alloc (.cells (rcC C A n c).toArray 37)).alloc (.cells (opC k v b e six ah al pt pr wy B m d).toArray 48) = V at *
 have hz := Bk.newK 37 (Tryd.zeroCells37) _ HVe.out.symm rfl
 have hzl : (Tryd.zeroCells37).toList.length = 279 := by kernel_rfl
 have hbz : Below V.heap.size V (V.alloc (.cells (Tryd.zeroCells37) 37)) := Below.allocS (Below.refl _ _) _
 go_upto_region 1 with (fail)
 have hVs : w.heap.size + 2 ≤ V.heap.size := by have := bo.lt; omega
 generalize hV2 : V.alloc (.cells (Tryd.zeroCells37) 37) = V2 at *
 clear hV2
 generalize hzc : (Tryd.zeroCells37).toList = zl0 at *
 clear hzc
 replace bs := bs.later hbz
 replace bo := bo.later hbz
 replace be := be.trans (hbz.mono be.size)
 clear hbz
 have HZL := Lib.hid (show (Tryd.zeroCells37).toList.length = 279 by kernel_rfl)
 have HBS := Lib.hid be.size
 refine wp_region_lit ?_
 refine wpList_ldA (t := 37) 37 (.tmp 2) rfl rfl (rcC C A n c) rfl (bs) (whole_ _) vs1 vs2 (szRcS C hk hb A n c) ?_
 simp only [Act.put, qsT, qsZ, qsS]
 refine wpList_ldA (t := 48) 48 (.tmp 3) rfl rfl (opC k v b e six ah al pt pr wy B m d) rfl (bo) (whole_ _) vo1 vo2 (szRo _ _ _ _ _ _ _ _ _ _ _ _ _) ?_
 refine wpList_plain rfl (fun K hK => ?_)
 go_simp
 refine (HDO.out V2 (fun b => G b ∨ b = w.heap.size + 1 + 1) (fun b hb => hb.elim (fun h => by have := hG b h; have := be.size; omega) (fun h => by have := hz.lt; omega) : ∀ b, (fun b => G b ∨ b = w.heap.size + 1 + 1) b → b < V2.heap.size) ((HX0.out.more (G' := fun b => G b ∨ b = w.heap.size + 1 + 1) (fun b hb => hb.elim .inl (fun h => .inr (by omega)))).later be) be).mono ?_
 rintro e w1 ⟨C7, A7, n7, c7, E7, rfl, hX7, hb7, hk7, hbl7, h07, hXo7⟩
 with_reducible refine hK _ _ ?_
 clear hK K
 replace bs := bs.later hb7
 replace hz := hz.later hb7
 replace be := be.trans (hb7.mono be.size)
 generalize hWW : w1 = W8 at *
 clear hWW
 iterate 4 (refine wpList_plain rfl (fun K hK => ?_); go_simp; with_reducible refine hK _ _ ?_; clear hK K)
 refine wpList_stA (t := 37) 37 (.tmp 6) (.tmp 12) rfl rfl (rcC C7 A7 n7 c7) (Tryd.zeroCells37).toList (HZL.out.trans (rcC_len C7 hk7 hbl7 _ _ _).symm).symm (rcL_one _ _ _ _ _ _ _ _) rfl rfl (Bk.new _ _ _) (szRcS C7 hk7 hbl7 _ _ _) ?_
 intro W7 h7 g7
 refine wpList_plain rfl (fun K hK => ?_); go_simp; with_reducible refine hK _ _ ?_; clear hK K
 have hgx : w.heap.size + 2 < W8.heap.size := hz.lt
 have hbW : Below W8.heap.size W8 W7 := below_grown (Below.allocS (Below.refl _ _) _) g7 (Nat.le_refl _)
 replace bs := bs.later hbW
 replace hz := hz.later hbW
 replace be := be.trans (hbW.mono be.size)
 clear g7 bo
 by_cases he : EE = 0
 ·have he0 : ((EE : Int) != 0) = false := by simp [he]
  have HCA := Lib.hid (show CA = upN C7 by rw [HAP.out, if_pos he, h07 he])
  have HN7 := Lib.hid (show C7.num = C.num by rw [h07 he]; exact HNU.out)
  have HE := Lib.hid he
  have HXO := Lib.hid (hXo7 he)
  clear he h07 hXo7
  go_upto_region 4 with (fail)
  refine wp_region_lit ?_
  refine wpList_plain rfl (fun K hK => ?_); go_simp; with_reducible refine hK _ _ ?_; clear hK K
  refine wpList_ld1 (t := 37) (cs := rcC C A n c) 27 (.tmp 18) rfl rfl rfl bs (show (rcC C A n c)[0]? = some (.int .u64 (C.num : Int)) from rfl) Tryd.underlying27 rfl ?_
  iterate 2 (refine wpList_plain rfl (fun K hK => ?_); go_simp; with_reducible refine hK _ _ ?_; clear hK K)
  refine wpList_st1 (v := .int .u64 (((C.num + 1) % 18446744073709551616 : Nat) : Int)) (t := 37) (cs := rcC C7 A7 n7 c7) (off := 0) 27 (.tmp 21) (.tmp 20) rfl rfl rfl rfl h7 (by rw [rcC_len C7 hk7 hbl7]; omega) rfl (by kernel_rfl) ?_
  intro W4 h4 g4
  simp only [Act.put, qsT, qsZ, qsS]
  replace h4 : Bk W4 W8.heap.size 37 (rcC { C7 with num := (C.num + 1) % 18446744073709551616 } A7 n7 c7) := h4
  have hbW4 : Below W8.heap.size W8 W4 := below_grown hbW g4 (Nat.le_refl _)
  have hz4 := hz.grown g4 (fun e => by injection e with e; omega)
  have be4 := below_grown be g4 (by omega)
  clear hbW hz be g4 h7 bs
  have hbW := hbW4
  have hz := hz4
  have be := be4
  clear hbW4 hz4 be4
  go_upto_region 5 with (fail)
  refine wp_region_lit ?_
  refine wpList_ldA (t := 37) 37 (.tmp 6) rfl rfl (rcC { C7 with num := (C.num + 1) % 18446744073709551616 } A7 n7 c7) rfl (h4) (whole_ _) vs1 vs2 (szRcS { C7 with num := (C.num + 1) % 18446744073709551616 } hk7 hbl7 _ _ _) ?_
  simp only [Act.put, qsT, qsZ, qsS]
  refine wpList_stA (t := 37) 37 (.tmp 4) (.tmp 22) rfl rfl (rcC { C7 with num := (C.num + 1) % 18446744073709551616 } A7 n7 c7) zl0 (hzl.trans (rcC_len { C7 with num := (C.num + 1) % 18446744073709551616 } (by assumption) (by assumption) _ _ _).symm).symm (rcL_one _ _ _ _ _ _ _ _) rfl rfl hz (szRcS { C7 with num := (C.num + 1) % 18446744073709551616 } (by assumption) (by assumption) _ _ _) ?_
  intro W9 h9 g9
  refine wpList_plain rfl (fun K hK => ?_); go_simp; with_reducible refine hK _ _ ?_; clear hK K
  replace be := below_grown be g9 (by omega)
  go_wp2
  refine bodyPost_agg2 Tryd.results9 rfl rfl h9.range vs1 vs2 (szRcS { C7 with num := (C.num + 1) % 18446744073709551616 } (by assumption) (by assumption) _ _ _) rfl ?_
  have hX9 := ((hX7.later hbW).chg (Chg.one (D := fun b => b = w.heap.size + 1 + 1) g9 rfl) (fun b h => .inr h)).more (G' := G) (fun b h => .inl (.inl h))
  rw [HCA.out, HE.out]
  refine ⟨A7, n7, c7, E7, ?_, ⟨hX9.vs, hX9.row, hX9.off, hX9.mm, hX9.mo, hX9.ss⟩, be, fun _ => ((((HXO.out.later hbW).chg (Chg.one (D := fun b => b = w.heap.size + 1 + 1) g9 rfl) (fun b h => .inr h)).more (G' := G) (fun b h => .inl (.inl h))).base_ HBS.out).num_ rfl⟩
  rw [show upN C7 = { C7 with num := (C.num + 1) % 18446744073709551616 } by unfold upN; rw [HN7.out]]
  rfl
 ·have he0 : ((EE : Int) != 0) = true := by simp [he]
  have HCA := Lib.hid (show CA = C by rw [HAP.out, if_neg he])
  have HNE := Lib.hid he
  clear he h07 hXo7
  go_upto_region 3 with (fail)
  refine wp_region_lit ?_
  refine wpList_ldA (t := 37) 37 (.tmp 2) rfl rfl (rcC C A n c) rfl (bs) (whole_ _) vs1 vs2 (szRcS C hk hb A n c) ?_
  refine wpList_plain rfl (fun K hK => ?_); go_simp; with_reducible refine hK _ _ ?_; clear hK K
  refine wpList_stA (t := 37) 37 (.tmp 4) (.tmp 16) rfl rfl (rcC C A n c) zl0 (hzl.trans (rcC_len C (by assumption) (by assumption) _ _ _).symm).symm (rcL_one _ _ _ _ _ _ _ _) rfl rfl hz (szRcS C (by assumption) (by assumption) _ _ _) ?_
  intro W9 h9 g9
  refine wpList_plain rfl (fun K hK => ?_); go_simp; with_reducible refine hK _ _ ?_; clear hK K
  replace be := below_grown be g9 (by omega)
  go_wp2
  refine bodyPost_agg2 Tryd.results9 rfl rfl h9.range vs1 vs2 (szRcS C (by assumption) (by assumption) _ _ _) rfl ?_
  rw [HCA.out]
  exact ⟨A, n, c, E, rfl, HX0.out.later be, be, fun h => absurd h HNE.out⟩
theorem refApply3 {G : Nat → Prop} (k v b e : Int) (six : Bool) (ah al pt pr : Nat) (wy : Int) (ms : List (Int × Int)) (B : Option Addr) (m d : Nat) (C : Cf) (hC : CfR C) (A : Option Addr) (n c : Nat) (E : List Re) (w : World) (hG : ∀ b, G b → b < w.heap.size) (hX : RcX G w C A n c E) (hr : Rs 2 w B m d (prs .i64 ms)) (hm : m ≤ 1000000) (hal : al < 18446744073709551616) (hk1 : ¬ k = 1) (hk2 : ¬ k = 2) (hk67 : ¬ (k = 6 ∨ k = 7)) (hk8 : ¬ k = 8) (hk3 : k = 3) (hv0 : 0 ≤ v) (hvn : v < (n : Int)) : Calls Tryd.prog 9 #[.agg (rcC C A n c).toArray, .agg (opC k v b e six ah al pt pr wy B m d).toArray] w (RetRq G w (apC C ⟨k, v, b, e, six, ah, al, pt, pr, wy, ms⟩) (chE C ⟨k, v, b, e, six, ah, al, pt, pr, wy, ms⟩)) := by
 obtain ⟨vi, rfl⟩ : ∃ vi : Nat, v = vi := ⟨v.toNat, by omega⟩
 have hvl : vi < C.vs.length := by have := hX.n_; omega
 have huv : C.vs[vi]? = some C.vs[vi] := List.getElem?_eq_getElem hvl
 generalize C.vs[vi] = uv at huv
 exact refApply3_of k ((vi : Nat) : Int) b e six ah al pt pr wy ms B m d C hC.key hC.bl A n c E w hG hX (fun W G' hG' h hb => rcDoes3_own (G := G') k b e vi six ah al pt pr wy ms B m d C hC A n c E W hG' h (hr.later hb) hm uv huv hk1 hk2 hk67 hk8 hk3)
end

section
open Go.Lib
open Go.RowKit
/-! plain -/
def clnV (v : Vp) : Vp := { v with S := ⟨[], 0, 0⟩ }
def clnC (C : Cf) (i : Nat) (v : Vp) : Cf := { C with vs := C.vs.set i (clnV v) }
def oR (i : Nat) (ms : List (Int × Int)) : OpR := ⟨3, i, 0, 0, false, 0, 0, 0, 0, 0, ms⟩
theorem stk0_ok : StkOk ⟨[], 0, 0⟩ := ⟨by simp, by simp, by simp, by simp, by simp⟩
theorem clnC_r {C : Cf} (h : CfOk C) (i : Nat) (v : Vp) : CfR (clnC C i v) := by
 refine ⟨h.key, h.bl, by simpa [clnC] using h.vl, fun u hu => ?_⟩
 rcases List.mem_or_eq_of_mem_set hu with h1 | rfl
 ·exact (h.vs u h1).st
 ·exact stk0_ok
theorem clnC_at {C : Cf} {i : Nat} {v : Vp} (hi : C.vs[i]? = some v) : vAt (clnC C i v) ((i : Nat) : Int) = some (clnV v) := by
 unfold vAt
 rw [if_pos (by omega), Int.toNat_natCast]
 show (C.vs.set i (clnV v))[i]? = _
 rw [List.getElem?_set_self (List.getElem?_eq_some_iff.1 hi).1]
theorem clnC_e {C : Cf} {i : Nat} {v : Vp} (hi : C.vs[i]? = some v) (ms : List (Int × Int)) : chE (clnC C i v) (oR i ms) = if okM C ms then 0 else 1 := by
 have h1 : chE (clnC C i v) (oR i ms) = match vAt (clnC C i v) ((i : Nat) : Int) with | none => 6 | some u => vipE (clnC C i v) (oR i ms) u := rfl
 rw [h1, clnC_at hi]
 show setE (clnC C i v) (clnV v) ms = _
 unfold setE
 rw [show okM (clnC C i v) ms = okM C ms from rfl]
 have h2 : pushE (clnV v).S = 0 := by show pushE ⟨[], 0, 0⟩ = 0; decide
 rw [h2]
 cases okM C ms <;> rfl
theorem clnC_a {C : Cf} {i : Nat} {v : Vp} (hi : C.vs[i]? = some v) {ms : List (Int × Int)} (hok : okM C ms = true) : (apC (clnC C i v) (oR i ms)).vs = C.vs.set i (setV (clnV v) ms) ∧ (apC (clnC C i v) (oR i ms)).key = C.key ∧ (apC (clnC C i v) (oR i ms)).now = C.now ∧ (apC (clnC C i v) (oR i ms)).bk = C.bk := by
 have h0 : chE (clnC C i v) (oR i ms) = 0 := by rw [clnC_e hi, if_pos hok]
 have h1 : apC (clnC C i v) (oR i ms) = upN (chC (clnC C i v) (oR i ms)) := by unfold apC; rw [if_pos h0]
 have h2 : chC (clnC C i v) (oR i ms) = { clnC C i v with vs := (clnC C i v).vs.set i (setV (clnV v) ms) } := by
  have h3 : chC (clnC C i v) (oR i ms) = match vAt (clnC C i v) ((i : Nat) : Int) with | none => clnC C i v | some u => { clnC C i v with vs := (clnC C i v).vs.set ((i : Nat) : Int).toNat (vipV (oR i ms) u) } := rfl
  rw [h3, clnC_at hi]
  rfl
 rw [h1, h2]
 refine ⟨?_, rfl, rfl, rfl⟩
 show (C.vs.set i (clnV v)).set i (setV (clnV v) ms) = _
 rw [List.set_set]
theorem clnC_kb {C : Cf} {i : Nat} {v : Vp} (hi : C.vs[i]? = some v) (ms : List (Int × Int)) : (apC (clnC C i v) (oR i ms)).key = C.key ∧ (apC (clnC C i v) (oR i ms)).bk = C.bk := by
 cases hok : okM C ms with
 | true => exact ⟨(clnC_a hi hok).2.1, (clnC_a hi hok).2.2.2⟩
 | false =>
  have h1 : apC (clnC C i v) (oR i ms) = clnC C i v := by unfold apC; rw [if_neg (by rw [clnC_e hi, hok]; decide)]
  rw [h1]
  exact ⟨rfl, rfl⟩
theorem resC_at {C : Cf} {i : Nat} {v : Vp} (hl : C.vs.length = i + 1) (hi : C.vs[i]? = some v) (ms : List (Int × Int)) (S : Stk) : resC C ms S = { C with vs := C.vs.set i { v with ms := ms, S := S } } := by
 unfold resC
 rw [show C.vs.length - 1 = i by omega, hi]
theorem flat_spl {X : Type} (enc : X → List Value) (s : Nat) (hs : ∀ x, (enc x).length = s) (L : List X) (j : Nat) (x0 x : X) (hj : L[j]? = some x0) (off : Nat) (new : List Value) (hn : off + new.length ≤ s) (h : splice (enc x0) off new = enc x) (cs : List Value) : splice (L.flatMap enc ++ cs) (j * s + off) new = (L.set j x).flatMap enc ++ cs := by
 obtain ⟨hjl, hj0⟩ := List.getElem?_eq_some_iff.1 hj
 have e1 : L.flatMap enc ++ cs = (L.take j).flatMap enc ++ (enc x0 ++ ((L.drop (j + 1)).flatMap enc ++ cs)) := by
  have e : L = L.take j ++ x0 :: L.drop (j + 1) := by rw [← hj0, List.getElem_cons_drop]; simp
  rw [show L.flatMap enc = (L.take j ++ x0 :: L.drop (j + 1)).flatMap enc by rw [← e]]
  simp [List.flatMap_append, List.append_assoc]
 have e2 : (L.set j x).flatMap enc ++ cs = (L.take j).flatMap enc ++ (enc x ++ ((L.drop (j + 1)).flatMap enc ++ cs)) := by
  have e : L.set j x = L.take j ++ x :: L.drop (j + 1) := by rw [List.set_eq_take_append_cons_drop, if_pos hjl]
  rw [e]
  simp [List.flatMap_append, List.append_assoc]
 have hp : ((L.take j).flatMap enc).length = j * s := by
  rw [flat_len enc s hs, List.length_take, Nat.min_eq_left (by omega)]
 have hr := hs x0
 rw [e1, e2, ← h]
 generalize (L.take j).flatMap enc = P at *
 generalize (L.drop (j + 1)).flatMap enc ++ cs = Q at *
 generalize enc x0 = r at *
 unfold splice
 rw [← hp, List.take_length_add_append, List.take_append_of_le_length (by omega), Nat.add_assoc, List.drop_length_add_append, List.drop_append_of_le_length (by omega)]
 simp [List.append_assoc]
theorem Bk_rvS {W : World} {b o : Nat} {x : Re} (h : W.rangeAt b o (rvC x)) : W.rangeAt b (o + 7) (rstC x.2.B x.2.m x.2.d x.1.S) := fun j u hu => by
 have h1 := rvC_stk x
 rw [← h1, List.getElem?_take] at hu
 split at hu
 ·rw [List.getElem?_drop] at hu
  have := h (7 + j) u hu
  rwa [← Nat.add_assoc] at this
 ·cases hu
theorem RcX.setStk {G : Nat → Prop} {w w' : World} {C : Cf} {E : List Re} {n c b : Nat} {cs : List Value} (hv : E.map (·.1) = C.vs) (hn : n = E.length) (hnc : n ≤ c) (hG : ¬ G b) (hm : ∀ x ∈ E, Rs 2 w x.2.A x.2.n x.2.c (prs .i64 x.1.ms)) (ho : ∀ x ∈ E, Off (fun k => G k ∨ k = b) w x.2.A) (hs : ∀ x ∈ E, RSt (fun k => G k ∨ k = b) w x.1.S.lv x.2.B x.2.m x.2.d) {i : Nat} {x : Re} (hi : E[i]? = some x) {S : Stk} {B : Option Addr} {m d : Nat} (hS : RSt (fun k => G k ∨ k = b) w S.lv B m d) (hg : w.grownBy w' (some b)) (hB : Bk w' b 62 (splice (E.flatMap rvC ++ cs) (i * 81 + 7) (rstC B m d S))) : RcX G w' { C with vs := C.vs.set i { x.1 with S := S } } (some ⟨b, 0, none⟩) n c (E.set i ({ x.1 with S := S }, { x.2 with B := B, m := m, d := d })) := by
 rw [flat_spl rvC 81 rvC_len E i x ({ x.1 with S := S }, { x.2 with B := B, m := m, d := d }) hi 7 _ (by rw [rstC_len]; decide) (rvC_setStk x B m d S)] at hB
 have hc : Chg (fun k => k = b) w w' := Chg.one hg rfl
 have hcG : Chg (fun k => G k ∨ k = b) w w' := Chg.one hg (.inr rfl)
 have hx := List.mem_of_getElem? hi
 have hmem : ∀ y ∈ E.set i ({ x.1 with S := S }, { x.2 with B := B, m := m, d := d }), y ∈ E ∨ y = ({ x.1 with S := S }, { x.2 with B := B, m := m, d := d }) := fun y hy => List.mem_or_eq_of_mem_set hy
 have hle : ∀ b', (G b' → G b' ∨ w'.heap.size ≤ b') := fun _ h => .inl h
 refine ⟨by rw [List.map_set, hv], ⟨by rw [flat_len rvC 81 rvC_len, List.length_set, hn], hnc, .inr ⟨b, 0, rfl, hB.lt, fun j u hu => ?_⟩⟩, ?_, ?_, ?_, ?_⟩
 ·rw [Nat.zero_add]
  exact (hB.cell j).trans (by rw [List.getElem?_append_left (List.getElem?_eq_some_iff.1 hu).1]; exact hu)
 ·intro a ha
  injection ha with ha
  subst ha
  exact ⟨hB.lt, hG⟩
 ·intro y hy
  rcases hmem y hy with h | rfl
  ·exact (hm y h).chg hc (fun a ha hD => (ho y h a ha).2 (.inr hD))
  ·exact (hm x hx).chg hc (fun a ha hD => (ho x hx a ha).2 (.inr hD))
 ·intro y hy
  rcases hmem y hy with h | rfl
  ·exact ((ho y h).more (fun k hk => .inl (.inl hk))).size hc.size
  ·exact ((ho x hx).more (fun k hk => .inl (.inl hk))).size hc.size
 ·intro y hy
  rcases hmem y hy with h | rfl
  ·exact ((hs y h).chg hcG).more (fun k hk => .inl (.inl hk))
  ·exact (hS.chg hcG).more (fun k hk => .inl (.inl hk))
/-! two pairs in one memory -/
def RB (G : Nat → Prop) (W : World) (r : Nat) (C : Cf) : Prop := ∃ A n c E, RcX G W C A n c E ∧ Bk W r 37 (rcC C A n c)
section
variable {G D D' : Nat → Prop} {W W' : World} {r : Nat} {C : Cf}
theorem RB.later (h : RB G W r C) (hb : Below W.heap.size W W') : RB G W' r C := by
 obtain ⟨A, n, c, E, h1, h2⟩ := h
 exact ⟨A, n, c, E, h1.later hb, h2.later hb⟩
theorem RB.chg (h : RB G W r C) (hc : Chg D W W') (hd : ∀ b, D b → G b) (hr : ¬ D r) : RB G W' r C := by
 obtain ⟨A, n, c, E, h1, h2⟩ := h
 exact ⟨A, n, c, E, h1.chg hc hd, h2.chg hc hr⟩
theorem RB.more {G' : Nat → Prop} (h : RB G W r C) (hd : ∀ b, G' b → G b ∨ W.heap.size ≤ b) : RB G' W r C := by
 obtain ⟨A, n, c, E, h1, h2⟩ := h
 exact ⟨A, n, c, E, h1.more hd, h2⟩
theorem RB.lt (h : RB G W r C) : r < W.heap.size := by
 obtain ⟨A, n, c, E, h1, h2⟩ := h
 exact h2.lt
theorem CfM.ltr {g : Nat} (h : CfM G D W g C) (hb : Below W.heap.size W W') : CfM G D W' g C := by
 obtain ⟨A, n, c, E, hX⟩ := h
 exact ⟨A, n, c, E, hX.later hb⟩
end
structure Pg (B0 : Nat) (G D D' : Nat → Prop) (W : World) (g : Nat) (C : Cf) (r : Nat) (K : Cf) (g' : Nat) (C' : Cf) (r' : Nat) (K' : Cf) : Prop where
 m1 : CfM G D W g C
 m2 : CfM G D' W g' C'
 dd : ∀ b, D b → ¬ D' b
 g0 : ∀ b, G b → B0 ≤ b
 r1 : G r ∧ ¬ D r ∧ ¬ D' r
 r2 : G r' ∧ ¬ D r' ∧ ¬ D' r'
 ne : r ≠ r'
 b1 : RB G W r K
 b2 : RB G W r' K'
def Pq (B0 : Nat) (W : World) (g : Nat) (C : Cf) (r : Nat) (K : Cf) (g' : Nat) (C' : Cf) (r' : Nat) (K' : Cf) : Prop := ∃ G D D', Pg B0 G D D' W g C r K g' C' r' K'
section
variable {B0 : Nat} {G D D' : Nat → Prop} {W W1 : World} {g : Nat} {C : Cf} {r : Nat} {K : Cf} {g' : Nat} {C' : Cf} {r' : Nat} {K' : Cf}
theorem Pg.lt (h : Pg B0 G D D' W g C r K g' C' r' K') : ∀ b, G b → b < W.heap.size := by
 obtain ⟨_, _, _, _, hX⟩ := h.m1
 exact hX.lt
theorem Pg.sub (h : Pg B0 G D D' W g C r K g' C' r' K') : ∀ b, D b → G b := by
 obtain ⟨_, _, _, _, hX⟩ := h.m1
 exact hX.sub
theorem Pg.swap (h : Pg B0 G D D' W g C r K g' C' r' K') : Pg B0 G D' D W g' C' r' K' g C r K :=
 ⟨h.m2, h.m1, fun b h1 h2 => h.dd b h2 h1, h.g0, ⟨h.r2.1, h.r2.2.2, h.r2.2.1⟩, ⟨h.r1.1, h.r1.2.2, h.r1.2.1⟩, h.ne.symm, h.b2, h.b1⟩
theorem Pg.later (h : Pg B0 G D D' W g C r K g' C' r' K') (hb : Below W.heap.size W W1) : Pg B0 G D D' W1 g C r K g' C' r' K' :=
 ⟨h.m1.ltr hb, h.m2.ltr hb, h.dd, h.g0, h.r1, h.r2, h.ne, h.b1.later hb, h.b2.later hb⟩
theorem Pq.swap (h : Pq B0 W g C r K g' C' r' K') : Pq B0 W g' C' r' K' g C r K := by
 obtain ⟨G, D, D', h⟩ := h
 exact ⟨G, D', D, h.swap⟩
theorem Pq.later (h : Pq B0 W g C r K g' C' r' K') (hb : Below W.heap.size W W1) : Pq B0 W1 g C r K g' C' r' K' := by
 obtain ⟨G, D, D', h⟩ := h
 exact ⟨G, D, D', h.later hb⟩
theorem Pg.ret (h : Pg B0 G D D' W g C r K g' C' r' K') (h0 : B0 ≤ W.heap.size) {C1 : Cf} {v : Value} {e : Ending} (hr : RetCf G D W g C1 v e W1) : e = .returned v ∧ Pq B0 W1 g C1 r K g' C' r' K' ∧ Chg D W W1 := by
 obtain ⟨rfl, G2, D2, hM, hgr, hc⟩ := hr
 obtain ⟨A', n', c', E', hY⟩ := h.m2
 have hlt : ∀ b, G2 b → b < W1.heap.size := by
  obtain ⟨_, _, _, _, hZ⟩ := hM
  exact hZ.lt
 have hY2 := hY.chg hc h.sub h.dd
 have hrl := h.b1.lt
 have hrl' := h.b2.lt
 refine ⟨rfl, ⟨G2, D2, D', hM, ⟨A', n', c', E', hY2.more hgr.gg hlt (fun y hy => ((hY.mo y hy).more (fun b hb2 => hgr.gn b hb2)).size hc.size)⟩, ?_, ?_, ⟨hgr.gg _ h.r1.1, fun hd => (hgr.dn _ hd).elim h.r1.2.1 (fun h => by omega), h.r1.2.2⟩, ⟨hgr.gg _ h.r2.1, fun hd => (hgr.dn _ hd).elim h.r2.2.1 (fun h => by omega), h.r2.2.2⟩, h.ne, ?_, ?_⟩, hc⟩
 ·intro b hb hd
  rcases hgr.dn b hb with h1 | h1
  ·exact h.dd b h1 hd
  ·have := hY.lt b (hY.sub b hd); omega
 ·intro b hb
  rcases hgr.gn b hb with h1 | h1
  ·exact h.g0 b h1
  ·omega
 ·exact (h.b1.more (G' := G2) hgr.gn).chg hc (fun b hD => hgr.gg b (h.sub b hD)) h.r1.2.1
 ·exact (h.b2.more (G' := G2) hgr.gn).chg hc (fun b hD => hgr.gg b (h.sub b hD)) h.r2.2.1
theorem Pg.ref (h : Pg B0 G D D' W g C r K g' C' r' K') {K1 : Cf} (hc : Chg (fun b => b = r) W W1) (hb : RB G W1 r K1) : Pg B0 G D D' W1 g C r K1 g' C' r' K' := by
 obtain ⟨A, n, c, E, hX⟩ := h.m1
 obtain ⟨A', n', c', E', hY⟩ := h.m2
 exact ⟨⟨A, n, c, E, hX.chg hc (fun b e => by rw [e]; exact h.r1.1) (fun b e => by rw [e]; exact h.r1.2.1)⟩, ⟨A', n', c', E', hY.chg hc (fun b e => by rw [e]; exact h.r1.1) (fun b e => by rw [e]; exact h.r1.2.2)⟩, h.dd, h.g0, h.r1, h.r2, h.ne, hb, h.b2.chg hc (fun b e => by rw [e]; exact h.r1.1) (fun e => h.ne e.symm)⟩
theorem Pq.apply (h : Pq B0 W g C r K g' C' r' K') (hC : CfOk C) (hb : Below W.heap.size W W1) (h0 : B0 ≤ W.heap.size) (x : OpX) (ho : OpOk x.o) {B : Option Addr} {d : Nat} (hr : Os 68 2 W1 W.heap.size B x.n d (prs .i64 x.ms)) (hm : x.n ≤ 1000000) :
  Calls Tryd.prog 7 #[.pointer (some ⟨g, 0, none⟩), .agg (opC x.k x.v x.b x.e x.six x.ah x.al x.pt x.pr x.wy B x.n d).toArray] W1 fun e w' => e = .returned (.int .i64 (chE C x.o : Nat)) ∧ Pq B0 w' g (apC C x.o) r K g' C' r' K' ∧ Below B0 W1 w' := by
 obtain ⟨G, D, D', h⟩ := h
 have h1 := h.later hb
 obtain ⟨A, n, c, E, hX⟩ := h1.m1
 refine (apply_any x.k x.v x.b x.e x.six x.ah x.al x.pt x.pr x.wy x.ms B x.n d C hC g A n c E W1 hX ho hr.rs (Off.own hr h.lt) hm).mono ?_
 intro e w' hre
 obtain ⟨rfl, hq, hc⟩ := h1.ret (Nat.le_trans h0 hb.size) hre
 exact ⟨rfl, hq, hc.below (fun b hD => h.g0 b (h.sub b hD)) (Nat.le_trans h0 hb.size)⟩
end
def rsvT (C : Cf) (ms : List (Int × Int)) : Option Stk → Cf
 | some S => rsvS C ms S
 | none => C
def TOk (D : Nat → Prop) (W : World) : Option Stk → Option Addr → Prop
 | some S, p => StkOk S ∧ ∃ t, p = some ⟨t, 0, none⟩ ∧ D t ∧ Bk W t 102 (stkC S)
 | none, p => p = none
theorem TOk.later {D : Nat → Prop} {W W' : World} {p : Option Addr} (hb : Below W.heap.size W W') : ∀ {T : Option Stk}, TOk D W T p → TOk D W' T p
 | some S, ⟨h1, t, h2, h3, h4⟩ => ⟨h1, t, h2, h3, h4.later hb⟩
 | none, h => h
theorem TOk.chg {D D' : Nat → Prop} {W W' : World} {p : Option Addr} (hc : Chg D' W W') (hd : ∀ b, D' b → ¬ D b) : ∀ {T : Option Stk}, TOk D W T p → TOk D W' T p
 | some S, ⟨h1, t, h2, h3, h4⟩ => ⟨h1, t, h2, h3, h4.chg hc (fun h => hd t h h3)⟩
 | none, h => h
theorem vip0_any {G D : Nat → Prop} {W : World} {g : Nat} {X : Cf} (hM : CfM G D W g X) (hC : CfOk X) : ∃ (vc : List Value) (T : Option Stk) (p : Option Addr), vc.length = 8 ∧ (∀ u ∈ vc, u.oneCell' = true) ∧ vc[7]? = some (.pointer p) ∧ T = (X.vs[0]?).map (·.S) ∧ TOk D W T p ∧ ∀ W1, Below W.heap.size W W1 → Calls Tryd.prog 10 #[.pointer (some ⟨g, 0, none⟩), .int .i64 0] W1 (RetV W1 (.tuple #[.agg vc.toArray, .bool T.isSome])) := by
 obtain ⟨A, n, c, E, hX⟩ := hM
 by_cases h0 : 0 < X.vs.length
 ·obtain ⟨x0, hx0, hx1⟩ := E_at hX (List.getElem?_eq_getElem h0)
  have hm := List.mem_of_getElem? hx0
  refine ⟨veC (clV x0), some (X.vs[0]).S, some ⟨x0.2.T, 0, none⟩, veC_len _, veC_one _, rfl, by rw [List.getElem?_eq_getElem h0]; rfl, ⟨(hC.vs _ (List.getElem_mem h0)).st, x0.2.T, rfl, hX.dt x0 hm, hx1 ▸ hX.tb x0 hm⟩, fun W1 h => ?_⟩
  exact vip_any X hC.key hC.bl g A n c E 0 x0 W1 (hX.later h) hx0
 ·have hn := hX.n_
  refine ⟨veZ, none, none, rfl, veZ_one, rfl, by rw [List.getElem?_eq_none (by omega)]; rfl, rfl, fun W1 h => ?_⟩
  exact vip_no X hC.key hC.bl g A n c E 0 W1 (hX.later h) (by omega)
theorem Pg.restore {B0 : Nat} {G D D' : Nat → Prop} {W : World} {g : Nat} {C : Cf} {r : Nat} {K : Cf} {g' : Nat} {C' : Cf} {r' : Nat} {K' : Cf} (h : Pg B0 G D D' W g C r K g' C' r' K') (hC : CfOk C) (h0 : B0 ≤ W.heap.size) (ms : List (Int × Int)) {B : Option Addr} {m d : Nat} (hr : Rs 2 W B m d (prs .i64 ms)) (hm : m ≤ 1000000) (T : Option Stk) (p : Option Addr) {DT : Nat → Prop} (hT : TOk DT W T p) :
  Calls Tryd.prog 11 #[.pointer (some ⟨g, 0, none⟩), .slice B m d, .pointer p] W fun e w' => e = .returned (.int .i64 (resE C ms T : Nat)) ∧ Pq B0 w' g (rsvT C ms T) r K g' C' r' K' ∧ Chg D W w' := by
 obtain ⟨A, n, c, E, hX⟩ := h.m1
 cases T with
 | none =>
  obtain rfl : p = none := hT
  refine (restoreNil_any C hC g A n c E B m d W hX).mono ?_
  rintro e w' ⟨rfl, rfl⟩
  refine ⟨?_, ⟨G, D, D', h⟩, Chg.refl _⟩
  unfold resE
  split <;> rfl
 | some S =>
  obtain ⟨hS, t, rfl, -, ht⟩ := hT
  refine (restore_any ms B m d S hS t C hC g A n c E W hX hr hm ht).mono ?_
  intro e w' hre
  exact h.ret h0 hre
end

section
open Go.Lib
open Go.RowKit
attribute [local go_sem ↓] sliced_cut
attribute [local go_sem] cutA_zero
def MP.rc (G : Nat → Prop) (C : Cf) (F : Value → Value) : MP := ⟨fun v w => ∃ A n c E, v = F (.agg (rcC C A n c).toArray) ∧ RcX G w C A n c E, fun _ _ _ ⟨A, n, c, E, h1, h2⟩ h => ⟨A, n, c, E, h1, h2.later h.below⟩⟩
def MC.rc {D : Nat → Prop} (G : Nat → Prop) (C : Cf) (F : Value → Value) (hd : ∀ b, D b → G b) : MC D := ⟨fun v w => ∃ A n c E, v = F (.agg (rcC C A n c).toArray) ∧ RcX G w C A n c E, fun _ _ _ ⟨A, n, c, E, h1, h2⟩ h => ⟨A, n, c, E, h1, h2.chg h hd⟩⟩
theorem st12_later (G : Nat → Prop) (r : Nat) (C C' : Cf) (As : Option Addr) (ns cs : Nat) : ∀ k w w', (match k with | 0 => Bk w r 37 (rcC C As ns cs) | 1 => Bk w r 37 (rcC C As ns cs) | _ => ∃ A n c E, RcX G w C' A n c E ∧ Bk w r 37 (rcC C' A n c)) → Ex w w' → (match k with | 0 => Bk w' r 37 (rcC C As ns cs) | 1 => Bk w' r 37 (rcC C As ns cs) | _ => ∃ A n c E, RcX G w' C' A n c E ∧ Bk w' r 37 (rcC C' A n c))
 | 0, w, w', h, hx => h.later hx.below
 | 1, w, w', h, hx => h.later hx.below
 | _ + 2, w, w', ⟨A, n, c, E, h1, h2⟩, hx => ⟨A, n, c, E, h1.later hx.below, h2.later hx.below⟩
set_option maxHeartbeats 4000000 in
set_option maxRecDepth 100000 in
theorem run_bK0 (w : World) : (Instr.build 28 #[]).run Tryd.prog w = .ok (.agg (bcs k16o).toArray) w := by kernel_rfl
theorem run_bS0 (w : World) : (Instr.build 60 #[]).run Tryd.prog w = .ok (.agg (rstC none 0 0 ⟨[], 0, 0⟩).toArray) w := by kernel_rfl
theorem run_bOm (Q : Option Addr) (n c : Nat) (w : World) : (Instr.build 48 #[(8, .slice Q n c)]).run Tryd.prog w = .ok (.agg (opC 0 0 0 0 false 0 0 0 0 0 Q n c).toArray) w := by kernel_rfl
theorem run_bO3r (i : Nat) (Q : Option Addr) (n c : Nat) (w : World) : (Instr.build 48 #[(0, .int .i64 3), (1, .int .i64 (i : Int)), (8, .slice Q n c)]).run Tryd.prog w = .ok (.agg (opC 3 (i : Nat) 0 0 false 0 0 0 0 0 Q n c).toArray) w := by kernel_rfl
def SR18 (B0 : Nat) (G D D' : Nat → Prop) (g : Nat) (K K1 : Cf) (r g2 : Nat) (X : Cf) (r2 : Nat) (k : Nat) (w : World) : Prop := match k with | 0 => Pg B0 G D D' w g K r K g2 X r2 X | _ => Pq B0 w g K1 r K g2 X r2 X
theorem SR18.ex {B0 : Nat} {G D D' : Nat → Prop} {g : Nat} {K K1 : Cf} {r g2 : Nat} {X : Cf} {r2 : Nat} : ∀ k w w', SR18 B0 G D D' g K K1 r g2 X r2 k w → Ex w w' → SR18 B0 G D D' g K K1 r g2 X r2 k w'
 | 0, w, w', h, hx => Pg.later h hx.below
 | _ + 1, w, w', h, hx => Pq.later h hx.below
def MC.mb {D : Nat → Prop} (base : Nat) (hd : ∀ b, D b → b < base) (k : Nat) (ms : List (Int × Int)) (F : Option Addr → Nat → Value) : MC D := ⟨fun v w => ∃ B d, v = F B d ∧ Os 68 2 w base B k d (prs .i64 ms), fun _ _ _ ⟨B, d, h1, h2⟩ h => ⟨B, d, h1, h2.chg h (fun k hk hD => by have := (h2.blk k hk).1; have := hd k hD; omega)⟩⟩
set_option maxHeartbeats 16000000 in
set_option maxRecDepth 100000 in
theorem configRestores_walk (L M : List OpX) (A : Option Addr) (n c : Nat) (B : Option Addr) (m d : Nat) (ms : List (Int × Int)) (Q : Option Addr) (qn qc : Nat) (w : World) (hl : Rs 11 w A n c (L.flatMap OpX.cs)) (hL : ∀ x ∈ L, x.ok w) (hn : n ≤ 9223372036854775807) (hm : Rs 11 w B m d (M.flatMap OpX.cs)) (hM : ∀ x ∈ M, x.ok w) (hmn : m ≤ 9223372036854775807) (hq : Rs 2 w Q qn qc (prs .i64 ms)) (hqn : qn ≤ 9223372036854775807) (hT : TabB w) : Calls Tryd.prog 3 #[.slice A n c, .slice B m d, .slice Q qn qc] w fun e w' => e = .returned (.bool true) ∧ Below w.heap.size w w' := by
 obtain ⟨dur, ur1, ur2⟩ : ∃ d, Tryd.prog.underlying 48 = some d ∧ d.isRow = true := ⟨_, Tryd.underlying48, rfl⟩
 obtain ⟨dvs, vs1, vs2⟩ := rowRcS
 have HSZ := Lib.hid (fun x : OpX => show (Tryd.prog.info? 48).map (·.size) = some x.cs.length by rw [OpX.cs_len]; kernel_rfl)
 have HZL := Lib.hid (show (Tryd.zeroCells37).toList.length = 279 by kernel_rfl)
 have HLN := Lib.hid (show L.length = n by have := hl.1; rw [flat_len OpX.cs 11 OpX.cs_len] at this; omega)
 have HMN := Lib.hid (show M.length = m by have := hm.1; rw [flat_len OpX.cs 11 OpX.cs_len] at this; omega)
 have HT0 := Lib.hid hT
 have HLL := Lib.hid hL
 have HMM := Lib.hid hM
 have HLI := Lib.hid (fun W (h : Below w.heap.size w W) => light22_any L A n c W (hl.later h) hn)
 have HLJ := Lib.hid (fun W (h : Below w.heap.size w W) => light22_any M B m d W (hm.later h) hmn)
 have hu1 := Lib.hid (fun h : ltC L = true => ltC_use h)
 have hu2 := Lib.hid (fun h : ltC M = true => ltC_use h)
 generalize ltC L = b1 at *
 generalize ltC M = b2 at *
 have HL2 := Lib.hid hl
 have HM2 := Lib.hid hm
 have HQ2 := Lib.hid hq
 have HTOX := Lib.hid (fun (x : OpX) (h : x.ok w) (hx : x.n ≤ 1000000) W (hb : Below w.heap.size w W) => show Calls Tryd.prog 8 #[.agg x.cs.toArray] W (fun e w2 => ∃ B d bs d0, e = .returned (.agg (opC x.k x.v x.b x.e x.six x.ah x.al x.pt x.pr x.wy B x.n d).toArray) ∧ w2 = plus W bs d0 ∧ Os 68 2 (plus W bs d0) W.heap.size B x.n d (prs .i64 x.ms)) from to22_own x.k x.v x.b x.e x.six x.ah x.al x.pt x.pr x.wy x.ms x.A x.n x.c W ((OpX.rs h).later hb) hx)
 clear hT hL hM hl hm hq
 have be := Below.refl w.heap.size w
 go_enter Tryd.func3, Tryd.ntmps3
 go_upto_region 3 with (go_at_call 4; refine (awake22 _).mono ?_; rintro e w1 ⟨bs1, d1, rfl, rfl⟩)
 replace be := belowP be bs1 d1
 generalize plus w bs1 d1 = V0 at *
 cases b1 with
 | false =>
  refine wp_region_lit ?_
  refine wpList_plain rfl (fun K hK => ?_); go_simp; with_reducible refine hK _ _ ?_; clear hK K
  refine wpList_plain rfl (fun K hK => ?_)
  go_simp
  refine (HLI.out _ be).mono ?_
  rintro e w1 ⟨rfl, rfl⟩
  with_reducible refine hK _ _ ?_
  clear hK K
  iterate 2 (refine wpList_plain rfl (fun K hK => ?_); go_simp; with_reducible refine hK _ _ ?_; clear hK K)
  iterate 3 ((with_reducible refine wpList_skip ?_ ?_); (· first | (go_simp; done) | (go_simp; intro h; cases h)); simp only [Act.put, qsT, qsZ, qsS])
  iterate 2 (refine wpList_plain rfl (fun K hK => ?_); go_simp; with_reducible refine hK _ _ ?_; clear hK K)
  iterate 3 ((with_reducible refine wpList_skip ?_ ?_); (· first | (go_simp; done) | (go_simp; intro h; cases h)); simp only [Act.put, qsT, qsZ, qsS])
  refine wpList_plain rfl (fun K hK => ?_); go_simp; with_reducible refine hK _ _ ?_; clear hK K
  go_wp2_with (go_at_call 4; refine (awake22 _).mono ?_; rintro e w1 ⟨bs2, d2, rfl, rfl⟩)
  go_ret
  exact ⟨rfl, be.trans ((below_plus _ _ _).mono be.size)⟩
 | true =>
 cases b2 with
 | false =>
  refine wp_region_lit ?_
  refine wpList_plain rfl (fun K hK => ?_); go_simp; with_reducible refine hK _ _ ?_; clear hK K
  refine wpList_plain rfl (fun K hK => ?_)
  go_simp
  refine (HLI.out _ be).mono ?_
  rintro e w1 ⟨rfl, rfl⟩
  with_reducible refine hK _ _ ?_
  clear hK K
  iterate 2 (refine wpList_plain rfl (fun K hK => ?_); go_simp; with_reducible refine hK _ _ ?_; clear hK K)
  refine wpList_step (fun K hK => ?_); go_simp; with_reducible refine hK _ _ ?_; clear hK K
  refine wpList_step (fun K hK => ?_)
  go_simp
  refine (HLJ.out _ be).mono ?_
  rintro e w1 ⟨rfl, rfl⟩
  with_reducible refine hK _ _ ?_
  clear hK K
  refine wpList_step (fun K hK => ?_); go_simp; with_reducible refine hK _ _ ?_; clear hK K
  iterate 2 (refine wpList_plain rfl (fun K hK => ?_); go_simp; with_reducible refine hK _ _ ?_; clear hK K)
  iterate 3 ((with_reducible refine wpList_skip ?_ ?_); (· first | (go_simp; done) | (go_simp; intro h; cases h)); simp only [Act.put, qsT, qsZ, qsS])
  refine wpList_plain rfl (fun K hK => ?_); go_simp; with_reducible refine hK _ _ ?_; clear hK K
  go_wp2_with (go_at_call 4; refine (awake22 _).mono ?_; rintro e w1 ⟨bs2, d2, rfl, rfl⟩)
  go_ret
  exact ⟨rfl, be.trans ((below_plus _ _ _).mono be.size)⟩
 | true =>
 by_cases hq70 : 70 < qn
 ·have iq : (70 : Int) < (qn : Int) := by omega
  refine wp_region_lit ?_
  refine wpList_plain rfl (fun K hK => ?_); go_simp; with_reducible refine hK _ _ ?_; clear hK K
  refine wpList_plain rfl (fun K hK => ?_)
  go_simp
  refine (HLI.out _ be).mono ?_
  rintro e w1 ⟨rfl, rfl⟩
  with_reducible refine hK _ _ ?_
  clear hK K
  iterate 2 (refine wpList_plain rfl (fun K hK => ?_); go_simp; with_reducible refine hK _ _ ?_; clear hK K)
  refine wpList_step (fun K hK => ?_); go_simp; with_reducible refine hK _ _ ?_; clear hK K
  refine wpList_step (fun K hK => ?_)
  go_simp
  refine (HLJ.out _ be).mono ?_
  rintro e w1 ⟨rfl, rfl⟩
  with_reducible refine hK _ _ ?_
  clear hK K
  refine wpList_step (fun K hK => ?_); go_simp; with_reducible refine hK _ _ ?_; clear hK K
  iterate 2 (refine wpList_plain rfl (fun K hK => ?_); go_simp; with_reducible refine hK _ _ ?_; clear hK K)
  iterate 3 (refine wpList_step (fun K hK => ?_); go_simp; with_reducible refine hK _ _ ?_; clear hK K)
  refine wpList_plain rfl (fun K hK => ?_); go_simp; with_reducible refine hK _ _ ?_; clear hK K
  go_wp2_with (go_at_call 4; refine (awake22 _).mono ?_; rintro e w1 ⟨bs2, d2, rfl, rfl⟩)
  go_ret
  exact ⟨rfl, be.trans ((below_plus _ _ _).mono be.size)⟩
 have iq : ¬ (70 : Int) < (qn : Int) := by omega
 have hl40 := hu1.out rfl
 have hm40 := hu2.out rfl
 have HL40 := Lib.hid hl40.2
 have HM40 := Lib.hid hm40.2
 have hn40 : n ≤ 40 := by have := hl40.1; have := HLN.out; omega
 have hm40n : m ≤ 40 := by have := hm40.1; have := HMN.out; omega
 clear hl40 hm40 hu1 hu2
 refine wp_region_lit ?_
 refine wpList_plain rfl (fun K hK => ?_); go_simp; with_reducible refine hK _ _ ?_; clear hK K
 refine wpList_plain rfl (fun K hK => ?_)
 go_simp
 refine (HLI.out _ be).mono ?_
 rintro e w1 ⟨rfl, rfl⟩
 with_reducible refine hK _ _ ?_
 clear hK K
 iterate 2 (refine wpList_plain rfl (fun K hK => ?_); go_simp; with_reducible refine hK _ _ ?_; clear hK K)
 refine wpList_step (fun K hK => ?_); go_simp; with_reducible refine hK _ _ ?_; clear hK K
 refine wpList_step (fun K hK => ?_)
 go_simp
 refine (HLJ.out _ be).mono ?_
 rintro e w1 ⟨rfl, rfl⟩
 with_reducible refine hK _ _ ?_
 clear hK K
 refine wpList_step (fun K hK => ?_); go_simp; with_reducible refine hK _ _ ?_; clear hK K
 iterate 2 (refine wpList_plain rfl (fun K hK => ?_); go_simp; with_reducible refine hK _ _ ?_; clear hK K)
 iterate 3 (refine wpList_step (fun K hK => ?_); go_simp; with_reducible refine hK _ _ ?_; clear hK K)
 refine wpList_plain rfl (fun K hK => ?_); go_simp; with_reducible refine hK _ _ ?_; clear hK K
 clear HLI HLJ iq
 go_upto_region 5 with (fail)
 refine wp_region_lit ?_
 refine wpList_build 28 [] rfl rfl (.agg (bcs k16o).toArray) (run_bK0 _) ?_
 refine wpList_plain rfl (fun K hK => ?_)
 go_simp
 refine (begun_any k16o rfl _).mono ?_
 rintro e w1 ⟨g, rfl, hgg, hbg, hstg⟩
 with_reducible refine hK _ _ ?_
 clear hK K
 generalize hWW : w1 = W2 at *
 clear hWW
 iterate 5 (refine wpList_plain rfl (fun K hK => ?_); go_simp; with_reducible refine hK _ _ ?_; clear hK K)
 refine wpList_stA (t := 37) 37 (.tmp 8) (.tmp 44) rfl rfl (rcC (cf0 k16o) none 0 0) (Tryd.zeroCells37).toList (by rw [rcC_len _ rfl (by simp [cf0])]; exact HZL.out.symm) (rcL_one _ _ _ _ _ _ _ _) rfl rfl (Bk.new _ _ _) (szRcS _ rfl (by simp [cf0]) _ _ _) ?_
 intro W3 hW3 gW3
 simp only [Act.put, qsT, qsZ, qsS]
 have hgl := hstg.lt
 have be2 := be.trans (hbg.mono be.size)
 have hbx := Below.allocS (Below.refl W2.heap.size W2) (.cells (Tryd.zeroCells37) 37)
 have hst3 := (hstg.later hbx).grown gW3 (fun e => by injection e with e; omega)
 have be3 : Below w.heap.size w W3 := below_grown (Below.allocS be2 _) gW3 (by have := be2.size; omega)
 have hr3 := hW3.lt
 have hgw : w.heap.size ≤ g := Nat.le_trans be.size hgg
 generalize hrr : W2.heap.size = r at *
 clear hstg be2 be hbx gW3 hbg hgg hrr
 go_upto_region 6 with (fail)
 refine wp_region_lit ?_
 refine wpList_build 28 [] rfl rfl (.agg (bcs k16o).toArray) (run_bK0 _) ?_
 refine wpList_plain rfl (fun K hK => ?_)
 go_simp
 refine (begun_any k16o rfl _).mono ?_
 rintro e w1 ⟨g2, rfl, hgg2, hbg2, hstg2⟩
 with_reducible refine hK _ _ ?_
 clear hK K
 generalize hWW : w1 = W4 at *
 clear hWW
 iterate 5 (refine wpList_plain rfl (fun K hK => ?_); go_simp; with_reducible refine hK _ _ ?_; clear hK K)
 refine wpList_stA (t := 37) 37 (.tmp 10) (.tmp 49) rfl rfl (rcC (cf0 k16o) none 0 0) (Tryd.zeroCells37).toList (by rw [rcC_len _ rfl (by simp [cf0])]; exact HZL.out.symm) (rcL_one _ _ _ _ _ _ _ _) rfl rfl (Bk.new _ _ _) (szRcS _ rfl (by simp [cf0]) _ _ _) ?_
 intro W5 hW5 gW5
 simp only [Act.put, qsT, qsZ, qsS]
 have hgl2 := hstg2.lt
 have be4 := be3.trans (hbg2.mono be3.size)
 have hbx := Below.allocS (Below.refl W4.heap.size W4) (.cells (Tryd.zeroCells37) 37)
 have hs35 := hbg2.size
 have hst5 := ((hst3.later hbg2).later hbx).grown gW5 (fun e => by injection e with e; omega)
 have hr5 := ((hW3.later hbg2).later hbx).grown gW5 (fun e => by injection e with e; omega)
 have hst5b := (hstg2.later hbx).grown gW5 (fun e => by injection e with e; omega)
 have be5 : Below w.heap.size w W5 := below_grown (Below.allocS be4 _) gW5 (by have := be4.size; omega)
 have hr5b := hW5.lt
 have hP : Pq w.heap.size W5 g (cf0 k16o) r (cf0 k16o) g2 (cf0 k16o) W4.heap.size (cf0 k16o) := by
  refine ⟨fun b => (b = r ∨ b = W4.heap.size ∨ b = g2) ∨ b = g, fun b => b = g, fun b => b = g2, ⟨_, _, _, _, cf0_X (G := fun b => b = r ∨ b = W4.heap.size ∨ b = g2) hst5 (fun b hb => by rcases hb with h | h | h <;> omega)⟩, ⟨_, _, _, _, (cf0_X (G := fun b => b = r ∨ b = W4.heap.size ∨ b = g) hst5b (fun b hb => by rcases hb with h | h | h <;> omega)).more (fun b hb => by rcases hb with (h | h | h) | h <;> simp [h]) (fun b hb => by rcases hb with (h | h | h) | h <;> omega) (fun x hx => by cases hx)⟩, ?_, ?_, ⟨.inl (.inl rfl), ?_, ?_⟩, ⟨.inl (.inr (.inl rfl)), ?_, ?_⟩, ?_, ⟨_, _, _, _, rc0_X _, hr5⟩, ⟨_, _, _, _, rc0_X _, hW5⟩⟩
  ·intro b h h'; have h : b = g := h; have h' : b = g2 := h'; omega
  ·intro b hb; rcases hb with (h | h | h) | h <;> omega
  ·intro h; have h : r = g := h; omega
  ·intro h; have h : r = g2 := h; omega
  ·intro h; have h : W4.heap.size = g := h; omega
  ·intro h; have h : W4.heap.size = g2 := h; omega
  ·omega
 generalize hrr : W4.heap.size = r2 at *
 have HST := Lib.hid (And.intro (cf0_ok k16o rfl) (And.intro hP be5))
 have hC2 := cf0_ok k16o rfl
 have HC2 := Lib.hid hC2
 clear hP be5 hst5 hr5 hst5b be4 hbx gW5 hbg2 hstg2 hst3 hW3 hW5 be3 hrr hC2
 generalize cf0 k16o = C2 at *
 go_upto_region 8 with (fail)
 go_loopw [11] (fun I wr => ∃ (i : Nat) (C : Cf), I = .int .i64 (i : Int) ∧ i ≤ n ∧ CfOk C ∧ Pq w.heap.size wr g C r C g2 C2 r2 C2 ∧ Below w.heap.size w wr) (fun I _ => n - (intOf I).toNat)
 case atStart => exact ⟨0, _, rfl, by omega, HST.out.1, HST.out.2.1, HST.out.2.2⟩
 case round =>
  clear HST
  obtain ⟨i, C, rfl, hi, hC, hS, be⟩ := hrel
  by_cases hil : i < n
  ·have hi1 : (i : Int) < (n : Int) := by omega
   obtain ⟨bl, ol, rfl, hbl, -⟩ := HL2.out.at_ (by omega) (by decide)
   have hrgB := fun W (h : Below w.heap.size w W) => (HL2.out.later h).rangeE OpX.cs_len i (by have := HLN.out; omega)
   have hxm : (L[i]'(by have := HLN.out; omega)) ∈ L := List.getElem_mem _
   generalize (L[i]'(by have := HLN.out; omega)) = y at *
   have hxo := HLL.out y hxm
   have hx100 := HL40.out y hxm
   have hoo := OpX.ok_o hxo
   have HTO := Lib.hid (HTOX.out y hxo (by omega))
   have hsz := HSZ.out y
   have hs0 := be.size
   have HAP := Lib.hid (fun (bs : List Obj) (dd : Nat) (B5 : Option Addr) {d5 : Nat} (h : Os 68 2 (plus wr bs dd) wr.heap.size B5 y.n d5 (prs .i64 y.ms)) => show Calls Tryd.prog 7 #[.pointer (some ⟨g, 0, none⟩), .agg (opC y.k y.v y.b y.e y.six y.ah y.al y.pt y.pr y.wy B5 y.n d5).toArray] (plus wr bs dd) (fun e w' => e = .returned (.int .i64 (chE C y.o : Nat)) ∧ Pq w.heap.size w' g (apC C y.o) r C g2 C2 r2 C2 ∧ Below w.heap.size (plus wr bs dd) w') from Pq.apply hS hC (below_plus _ _ _) (by omega) y hoo h (by omega))
   have HOK := Lib.hid (apC_ok hC hoo)
   have HCO := Lib.hid hC
   have HOO := Lib.hid hoo
   have HMR := Lib.hid (fun W (h : Below w.heap.size w W) => (OpX.rs hxo).later h)
   have hal : y.al < 18446744073709551616 := hoo.al
   clear hxm hxo hoo hS hC
   go_upto_region 10 with (fail)
   refine wp_region_lit ?_
   iterate 4 (refine wpList_plain rfl (fun K hK => ?_); go_simp; with_reducible refine hK _ _ ?_; clear hK K)
   refine wpList_load_mid rfl 48 (.tmp 59) rfl bl (ol + i * 11) rfl y.cs _ (hrgB wr be) ur1 ur2 hsz ?_
   refine wpList_plain rfl (fun K hK => ?_)
   go_simp
   refine (HTO.out _ be).mono ?_
   rintro e w1 ⟨B5, d5, bs5, dd5, rfl, rfl, ho5⟩
   with_reducible refine hK _ _ ?_
   clear hK K
   refine wpList_plain rfl (fun K hK => ?_)
   go_simp
   refine (HAP.out _ _ _ ho5).mono ?_
   rintro e w1 ⟨rfl, hS2, hb2⟩
   with_reducible refine hK _ _ ?_
   clear hK K
   generalize hWW : w1 = W6 at *
   clear hWW
   have hbE : Below w.heap.size w W6 := (be.trans ((below_plus wr bs5 dd5).mono hs0)).trans hb2
   obtain ⟨G, D, D', hP⟩ := hS2
   obtain ⟨As, ns, cs, Es, hXr, hbk⟩ := hP.b1
   have hk := HCO.out.key
   have hb := HCO.out.bl
   have hk2 := HOK.out.key
   have hb2l := HOK.out.bl
   have hGlt := hP.lt
   have hrB : w.heap.size ≤ r := hP.g0 r hP.r1.1
   have hDG : ∀ b, b = r → G b := fun b h => by rw [h]; exact hP.r1.1
   have HBC := Lib.hid (fun W (h : Chg (fun b => b = r) W6 W) => hbE.trans (h.below (B := w.heap.size) (fun b hb3 => by rw [hb3]; exact hrB) hbE.size))
   have HRA := Lib.hid (fun W (h : Chg (fun b => b = r) W6 W) => show Calls Tryd.prog 9 #[.agg (rcC C As ns cs).toArray, .agg y.cs.toArray] W (RetRc G W (apC C y.o) (chE C y.o)) from refApply_any y.k y.v y.b y.e y.six y.ah y.al y.pt y.pr y.wy y.ms y.A y.n y.c C HCO.out As ns cs Es W (fun b hb3 => Nat.lt_of_lt_of_le (hGlt b hb3) h.size) (hXr.chg h hDG) (HMR.out W (HBC.out W h)) (by omega) hal)
   have HP := Lib.hid hP
   clear hb2 be ho5 HAP HTO hP
   go_upto_region 11 with (fail)
   refine wp_suS (fun b => b = r) 10 225 2 [0, 9] rfl (by kernel_rfl) (by kernel_rfl) (fun k w' => match k with | 0 => Bk w' r 37 (rcC C As ns cs) | 1 => Bk w' r 37 (rcC C As ns cs) | _ => ∃ A n c E, RcX G w' (apC C y.o) A n c E ∧ Bk w' r 37 (rcC (apC C y.o) A n c)) (st12_later G r C (apC C y.o) As ns cs) (hbk) ?_
   apply StepsC.mov (MC.eq (.agg (rcC C As ns cs).toArray)) 1 0 rfl rfl rfl
   ·intro o ho FA w' hC hO hD hS K hK
    obtain rfl := qoi ho
    have e8 := hO 8 (by kernel_rfl)
    simp only [eval_tmp, qgT, qgS, qgZ, qoS] at e8
    have ev8 := Lib.hid ((eval_tmp FA 8).trans e8)
    clear hO hD ho
    refine wanted_if rfl ?_
    refine wp_ldA 37 (.tmp 8) rfl (rcC C As ns cs) ev8.out hS (whole_ _) vs1 vs2 (szRcS C hk hb As ns cs) ?_
    exact hK.out _ _ (Chg.refl _) hS rfl
   apply StepsC.one (MC.eq _) 2 rfl (by decide)
   ·intro o ho FA w' hC hO hD K hK
    obtain rfl := qoi ho
    have e0 := hO 0 (by kernel_rfl)
    simp only [eval_tmp, qgT, qgS, qgZ, qoS] at e0
    have ev0 := Lib.hid ((eval_tmp FA 0).trans e0)
    clear hO hD ho
    go_simp
    exact hK.out _ _ (Ex.refl _) rfl
   apply StepsC.one (MC.eq _) 3 rfl (by decide)
   ·intro o ho FA w' hC hO hD K hK
    obtain rfl := qoi ho
    have e11 := hO 11 (by kernel_rfl)
    simp only [eval_tmp, qgT, qgS, qgZ, qoS] at e11
    have ev11 := Lib.hid ((eval_tmp FA 11).trans e11)
    clear hO hD ho
    go_simp
    exact hK.out _ _ (Ex.refl _) rfl
   apply StepsC.one (MC.eq _) 4 rfl (by decide)
   ·intro o ho FA w' hC hO hD K hK
    obtain rfl := qoi ho
    obtain ⟨e65, ev65⟩ := qE (hD 1 65 (by kernel_rfl))
    obtain ⟨e66, ev66⟩ := qE (hD 2 66 (by kernel_rfl))
    clear hO hD ho
    go_simp
    exact hK.out _ _ (Ex.refl _) rfl
   apply StepsC.one (MC.eq _) 5 rfl (by decide)
   ·intro o ho FA w' hC hO hD K hK
    obtain rfl := qoi ho
    obtain ⟨e67, ev67⟩ := qE (hD 3 67 (by kernel_rfl))
    clear hO hD ho
    refine wanted_if rfl ?_
    refine wp_load_mid 48 (.tmp 67) rfl bl (ol + i * 11) ev67.out y.cs _ (hrgB _ (HBC.out _ hC)) ur1 ur2 hsz ?_
    exact hK.out _ _ (Ex.refl _) rfl
   apply StepsC.one (MC.rc G (apC C y.o) (fun v => .tuple #[v, .int .i64 (chE C y.o : Nat)]) hDG) 6 rfl (by decide)
   ·intro o ho FA w' hC hO hD K hK
    obtain rfl := qoi ho
    obtain ⟨e64, ev64⟩ := qE (hD 0 64 (by kernel_rfl))
    obtain ⟨e68, ev68⟩ := qE (hD 4 68 (by kernel_rfl))
    clear hO hD ho
    go_simp
    refine (HRA.out w' hC).mono ?_
    rintro e w2 ⟨A7, n7, c7, E7, rfl, hX7, hb7⟩
    exact hK.out _ _ (Ex.of hb7) ⟨_, _, _, _, rfl, hX7⟩
   apply StepsC.one (MC.rc G (apC C y.o) (fun v => .tuple #[v, .int .i64 (chE C y.o : Nat)]) hDG) 7 rfl (by decide)
   ·intro o ho FA w' hC hO hD K hK
    obtain rfl := qoi ho
    obtain ⟨u69, f69, e69, ev69⟩ := qC (hD 5 69 (by kernel_rfl))
    clear hO hD ho
    go_simp
    exact hK.out _ _ (Ex.refl _) f69
   apply StepsC.one (MC.rc G (apC C y.o) (fun v => v) hDG) 8 rfl (by decide)
   ·intro o ho FA w' hC hO hD K hK
    obtain rfl := qoi ho
    obtain ⟨u63, f63, e63, ev63⟩ := qC (hD 6 63 (by kernel_rfl))
    clear hO hD ho
    obtain ⟨A7, n7, c7, E7, rfl, hX7⟩ := f63
    go_simp
    exact hK.out _ _ (Ex.refl _) ⟨_, _, _, _, rfl, hX7⟩
   apply StepsC.one (MC.any) 9 rfl (by decide)
   ·intro o ho FA w' hC hO hD K hK
    obtain rfl := qoi ho
    obtain ⟨u63, f63, e63, ev63⟩ := qC (hD 6 63 (by kernel_rfl))
    clear hO hD ho
    obtain ⟨A7, n7, c7, E7, rfl, hX7⟩ := f63
    go_simp
    exact hK.out _ _ (Ex.refl _) trivial
   apply StepsC.mov (MC.any) 10 1 rfl rfl rfl
   ·intro o ho FA w' hC hO hD hS K hK
    obtain rfl := qoi ho
    have e8 := hO 8 (by kernel_rfl)
    simp only [eval_tmp, qgT, qgS, qgZ, qoS] at e8
    have ev8 := Lib.hid ((eval_tmp FA 8).trans e8)
    obtain ⟨u70, f70, e70, ev70⟩ := qC (hD 7 70 (by kernel_rfl))
    clear hO hD ho
    obtain ⟨A7, n7, c7, E7, hv7, hX7⟩ := f70
    refine wanted_if rfl ?_
    refine wp_stA 37 (.tmp 8) (.tmp 70) rfl (rcC (apC C y.o) A7 n7 c7) (rcC C As ns cs) (by rw [rcC_len _ hk2 hb2l, rcC_len _ hk hb]) (rcL_one _ _ _ _ _ _ _ _) ev8.out (ev70.out.trans hv7) hS (szRcS _ hk2 hb2l _ _ _) ?_
    intro w'' hn hgr
    exact hK.out undef _ (Chg.one hgr rfl) ⟨A7, n7, c7, E7, hX7.chg (Chg.one (D := fun b => b = r) hgr rfl) hDG, hn⟩ trivial
   refine StepsC.fin_ (fun vs w' hC hS hp => ?_)
   have p0 : vs 0 = _ := hp 0 (by omega) rfl
   have p1 : vs 1 = _ := hp 1 (by omega) rfl
   have p2 : vs 2 = _ := hp 2 (by omega) rfl
   have p3 : vs 3 = _ := hp 3 (by omega) rfl
   have p4 : vs 4 = _ := hp 4 (by omega) rfl
   have p5 := hp 5 (by omega) rfl
   have p6 := hp 6 (by omega) rfl
   have p7 := hp 7 (by omega) rfl
   have p8 := hp 8 (by omega) rfl
   clear hp
   simp only [List.take_succ_cons, List.take_zero, List.drop_succ_cons, List.drop_zero, putAll, Nat.zero_add, Nat.reduceAdd, Act.put, qsT, qsZ, qsS, p0, p1, p2, p3, p4]
   clear p0 p1 p2 p3 p4
   generalize vs 5 = y5 at *
   generalize vs 6 = y6 at *
   generalize vs 7 = y7 at *
   generalize vs 8 = y8 at *
   clear vs
   obtain ⟨A9, n9, c9, E9, hX9, h9⟩ := hS
   have hb9 := hbE.trans (hC.below (B := w.heap.size) (fun b hb3 => by rw [hb3]; exact hrB) hbE.size)
   have hP9 := HP.out.ref hC ⟨A9, n9, c9, E9, hX9, h9⟩
   clear hX9 h9 HP hbk hXr HRA HBC
   go_wp2
   exact ⟨⟨i + 1, _, by go_num, by omega, HOK.out, ⟨G, D, D', hP9⟩, hb9⟩, by simp [intOf]; omega⟩
  ·have hi1 : ¬ (i : Int) < (n : Int) := by omega
   clear hi hil
   have HK := Lib.hid hC
   have HST2 := Lib.hid (And.intro HC2.out (And.intro hS.swap be))
   clear hC hS be HC2
   generalize C = K at *
   go_upto_region 13 with (fail)
   go_loopw [12] (fun I wr => ∃ (i : Nat) (C : Cf), I = .int .i64 (i : Int) ∧ i ≤ m ∧ CfOk C ∧ Pq w.heap.size wr g2 C r2 C g K r K ∧ Below w.heap.size w wr) (fun I _ => m - (intOf I).toNat)
   case atStart => exact ⟨0, _, rfl, by omega, HST2.out.1, HST2.out.2.1, HST2.out.2.2⟩
   case round =>
    clear HST2
    obtain ⟨i, C, rfl, hi, hC, hS, be⟩ := hrel
    by_cases hil : i < m
    ·have hi1 : (i : Int) < (m : Int) := by omega
     obtain ⟨bl, ol, rfl, hbl, -⟩ := HM2.out.at_ (by omega) (by decide)
     have hrgB := fun W (h : Below w.heap.size w W) => (HM2.out.later h).rangeE OpX.cs_len i (by have := HMN.out; omega)
     have hxm : (M[i]'(by have := HMN.out; omega)) ∈ M := List.getElem_mem _
     generalize (M[i]'(by have := HMN.out; omega)) = y at *
     have hxo := HMM.out y hxm
     have hx100 := HM40.out y hxm
     have hoo := OpX.ok_o hxo
     have HTO := Lib.hid (HTOX.out y hxo (by omega))
     have hsz := HSZ.out y
     have hs0 := be.size
     have HAP := Lib.hid (fun (bs : List Obj) (dd : Nat) (B5 : Option Addr) {d5 : Nat} (h : Os 68 2 (plus wr bs dd) wr.heap.size B5 y.n d5 (prs .i64 y.ms)) => show Calls Tryd.prog 7 #[.pointer (some ⟨g2, 0, none⟩), .agg (opC y.k y.v y.b y.e y.six y.ah y.al y.pt y.pr y.wy B5 y.n d5).toArray] (plus wr bs dd) (fun e w' => e = .returned (.int .i64 (chE C y.o : Nat)) ∧ Pq w.heap.size w' g2 (apC C y.o) r2 C g K r K ∧ Below w.heap.size (plus wr bs dd) w') from Pq.apply hS hC (below_plus _ _ _) (by omega) y hoo h (by omega))
     have HOK := Lib.hid (apC_ok hC hoo)
     have HCO := Lib.hid hC
     have HOO := Lib.hid hoo
     have HMR := Lib.hid (fun W (h : Below w.heap.size w W) => (OpX.rs hxo).later h)
     have hal : y.al < 18446744073709551616 := hoo.al
     clear hxm hxo hoo hS hC
     go_upto_region 15 with (fail)
     refine wp_region_lit ?_
     iterate 4 (refine wpList_plain rfl (fun K hK => ?_); go_simp; with_reducible refine hK _ _ ?_; clear hK K)
     refine wpList_load_mid rfl 48 (.tmp 81) rfl bl (ol + i * 11) rfl y.cs _ (hrgB wr be) ur1 ur2 hsz ?_
     refine wpList_plain rfl (fun K hK => ?_)
     go_simp
     refine (HTO.out _ be).mono ?_
     rintro e w1 ⟨B5, d5, bs5, dd5, rfl, rfl, ho5⟩
     with_reducible refine hK _ _ ?_
     clear hK K
     refine wpList_plain rfl (fun K hK => ?_)
     go_simp
     refine (HAP.out _ _ _ ho5).mono ?_
     rintro e w1 ⟨rfl, hS2, hb2⟩
     with_reducible refine hK _ _ ?_
     clear hK K
     generalize hWW : w1 = W6 at *
     clear hWW
     have hbE : Below w.heap.size w W6 := (be.trans ((below_plus wr bs5 dd5).mono hs0)).trans hb2
     obtain ⟨G, D, D', hP⟩ := hS2
     obtain ⟨As, ns, cs, Es, hXr, hbk⟩ := hP.b1
     have hk := HCO.out.key
     have hb := HCO.out.bl
     have hk2 := HOK.out.key
     have hb2l := HOK.out.bl
     have hGlt := hP.lt
     have hrB : w.heap.size ≤ r2 := hP.g0 r2 hP.r1.1
     have hDG : ∀ b, b = r2 → G b := fun b h => by rw [h]; exact hP.r1.1
     have HBC := Lib.hid (fun W (h : Chg (fun b => b = r2) W6 W) => hbE.trans (h.below (B := w.heap.size) (fun b hb3 => by rw [hb3]; exact hrB) hbE.size))
     have HRA := Lib.hid (fun W (h : Chg (fun b => b = r2) W6 W) => show Calls Tryd.prog 9 #[.agg (rcC C As ns cs).toArray, .agg y.cs.toArray] W (RetRc G W (apC C y.o) (chE C y.o)) from refApply_any y.k y.v y.b y.e y.six y.ah y.al y.pt y.pr y.wy y.ms y.A y.n y.c C HCO.out As ns cs Es W (fun b hb3 => Nat.lt_of_lt_of_le (hGlt b hb3) h.size) (hXr.chg h hDG) (HMR.out W (HBC.out W h)) (by omega) hal)
     have HP := Lib.hid hP
     clear hb2 be ho5 HAP HTO hP
     go_upto_region 16 with (fail)
     refine wp_suS (fun b => b = r2) 10 225 2 [0, 9] rfl (by kernel_rfl) (by kernel_rfl) (fun k w' => match k with | 0 => Bk w' r2 37 (rcC C As ns cs) | 1 => Bk w' r2 37 (rcC C As ns cs) | _ => ∃ A n c E, RcX G w' (apC C y.o) A n c E ∧ Bk w' r2 37 (rcC (apC C y.o) A n c)) (st12_later G r2 C (apC C y.o) As ns cs) (hbk) ?_
     apply StepsC.mov (MC.eq (.agg (rcC C As ns cs).toArray)) 1 0 rfl rfl rfl
     ·intro o ho FA w' hC hO hD hS K hK
      obtain rfl := qoi ho
      have e10 := hO 10 (by kernel_rfl)
      simp only [eval_tmp, qgT, qgS, qgZ, qoS] at e10
      have ev10 := Lib.hid ((eval_tmp FA 10).trans e10)
      clear hO hD ho
      refine wanted_if rfl ?_
      refine wp_ldA 37 (.tmp 10) rfl (rcC C As ns cs) ev10.out hS (whole_ _) vs1 vs2 (szRcS C hk hb As ns cs) ?_
      exact hK.out _ _ (Chg.refl _) hS rfl
     apply StepsC.one (MC.eq _) 2 rfl (by decide)
     ·intro o ho FA w' hC hO hD K hK
      obtain rfl := qoi ho
      have e1 := hO 1 (by kernel_rfl)
      simp only [eval_tmp, qgT, qgS, qgZ, qoS] at e1
      have ev1 := Lib.hid ((eval_tmp FA 1).trans e1)
      clear hO hD ho
      go_simp
      exact hK.out _ _ (Ex.refl _) rfl
     apply StepsC.one (MC.eq _) 3 rfl (by decide)
     ·intro o ho FA w' hC hO hD K hK
      obtain rfl := qoi ho
      have e12 := hO 12 (by kernel_rfl)
      simp only [eval_tmp, qgT, qgS, qgZ, qoS] at e12
      have ev12 := Lib.hid ((eval_tmp FA 12).trans e12)
      clear hO hD ho
      go_simp
      exact hK.out _ _ (Ex.refl _) rfl
     apply StepsC.one (MC.eq _) 4 rfl (by decide)
     ·intro o ho FA w' hC hO hD K hK
      obtain rfl := qoi ho
      obtain ⟨e87, ev87⟩ := qE (hD 1 87 (by kernel_rfl))
      obtain ⟨e88, ev88⟩ := qE (hD 2 88 (by kernel_rfl))
      clear hO hD ho
      go_simp
      exact hK.out _ _ (Ex.refl _) rfl
     apply StepsC.one (MC.eq _) 5 rfl (by decide)
     ·intro o ho FA w' hC hO hD K hK
      obtain rfl := qoi ho
      obtain ⟨e89, ev89⟩ := qE (hD 3 89 (by kernel_rfl))
      clear hO hD ho
      refine wanted_if rfl ?_
      refine wp_load_mid 48 (.tmp 89) rfl bl (ol + i * 11) ev89.out y.cs _ (hrgB _ (HBC.out _ hC)) ur1 ur2 hsz ?_
      exact hK.out _ _ (Ex.refl _) rfl
     apply StepsC.one (MC.rc G (apC C y.o) (fun v => .tuple #[v, .int .i64 (chE C y.o : Nat)]) hDG) 6 rfl (by decide)
     ·intro o ho FA w' hC hO hD K hK
      obtain rfl := qoi ho
      obtain ⟨e86, ev86⟩ := qE (hD 0 86 (by kernel_rfl))
      obtain ⟨e90, ev90⟩ := qE (hD 4 90 (by kernel_rfl))
      clear hO hD ho
      go_simp
      refine (HRA.out w' hC).mono ?_
      rintro e w2 ⟨A7, n7, c7, E7, rfl, hX7, hb7⟩
      exact hK.out _ _ (Ex.of hb7) ⟨_, _, _, _, rfl, hX7⟩
     apply StepsC.one (MC.rc G (apC C y.o) (fun v => .tuple #[v, .int .i64 (chE C y.o : Nat)]) hDG) 7 rfl (by decide)
     ·intro o ho FA w' hC hO hD K hK
      obtain rfl := qoi ho
      obtain ⟨u91, f91, e91, ev91⟩ := qC (hD 5 91 (by kernel_rfl))
      clear hO hD ho
      go_simp
      exact hK.out _ _ (Ex.refl _) f91
     apply StepsC.one (MC.rc G (apC C y.o) (fun v => v) hDG) 8 rfl (by decide)
     ·intro o ho FA w' hC hO hD K hK
      obtain rfl := qoi ho
      obtain ⟨u85, f85, e85, ev85⟩ := qC (hD 6 85 (by kernel_rfl))
      clear hO hD ho
      obtain ⟨A7, n7, c7, E7, rfl, hX7⟩ := f85
      go_simp
      exact hK.out _ _ (Ex.refl _) ⟨_, _, _, _, rfl, hX7⟩
     apply StepsC.one (MC.any) 9 rfl (by decide)
     ·intro o ho FA w' hC hO hD K hK
      obtain rfl := qoi ho
      obtain ⟨u85, f85, e85, ev85⟩ := qC (hD 6 85 (by kernel_rfl))
      clear hO hD ho
      obtain ⟨A7, n7, c7, E7, rfl, hX7⟩ := f85
      go_simp
      exact hK.out _ _ (Ex.refl _) trivial
     apply StepsC.mov (MC.any) 10 1 rfl rfl rfl
     ·intro o ho FA w' hC hO hD hS K hK
      obtain rfl := qoi ho
      have e10 := hO 10 (by kernel_rfl)
      simp only [eval_tmp, qgT, qgS, qgZ, qoS] at e10
      have ev10 := Lib.hid ((eval_tmp FA 10).trans e10)
      obtain ⟨u92, f92, e92, ev92⟩ := qC (hD 7 92 (by kernel_rfl))
      clear hO hD ho
      obtain ⟨A7, n7, c7, E7, hv7, hX7⟩ := f92
      refine wanted_if rfl ?_
      refine wp_stA 37 (.tmp 10) (.tmp 92) rfl (rcC (apC C y.o) A7 n7 c7) (rcC C As ns cs) (by rw [rcC_len _ hk2 hb2l, rcC_len _ hk hb]) (rcL_one _ _ _ _ _ _ _ _) ev10.out (ev92.out.trans hv7) hS (szRcS _ hk2 hb2l _ _ _) ?_
      intro w'' hn hgr
      exact hK.out undef _ (Chg.one hgr rfl) ⟨A7, n7, c7, E7, hX7.chg (Chg.one (D := fun b => b = r2) hgr rfl) hDG, hn⟩ trivial
     refine StepsC.fin_ (fun vs w' hC hS hp => ?_)
     have p0 : vs 0 = _ := hp 0 (by omega) rfl
     have p1 : vs 1 = _ := hp 1 (by omega) rfl
     have p2 : vs 2 = _ := hp 2 (by omega) rfl
     have p3 : vs 3 = _ := hp 3 (by omega) rfl
     have p4 : vs 4 = _ := hp 4 (by omega) rfl
     have p5 := hp 5 (by omega) rfl
     have p6 := hp 6 (by omega) rfl
     have p7 := hp 7 (by omega) rfl
     have p8 := hp 8 (by omega) rfl
     clear hp
     simp only [List.take_succ_cons, List.take_zero, List.drop_succ_cons, List.drop_zero, putAll, Nat.zero_add, Nat.reduceAdd, Act.put, qsT, qsZ, qsS, p0, p1, p2, p3, p4]
     clear p0 p1 p2 p3 p4
     generalize vs 5 = y5 at *
     generalize vs 6 = y6 at *
     generalize vs 7 = y7 at *
     generalize vs 8 = y8 at *
     clear vs
     obtain ⟨A9, n9, c9, E9, hX9, h9⟩ := hS
     have hb9 := hbE.trans (hC.below (B := w.heap.size) (fun b hb3 => by rw [hb3]; exact hrB) hbE.size)
     have hP9 := HP.out.ref hC ⟨A9, n9, c9, E9, hX9, h9⟩
     clear hX9 h9 HP hbk hXr HRA HBC
     go_wp2
     exact ⟨⟨i + 1, _, by go_num, by omega, HOK.out, ⟨G, D, D', hP9⟩, hb9⟩, by simp [intOf]; omega⟩
    ·have hi1 : ¬ (i : Int) < (m : Int) := by omega
     clear hi hil
     have HX := Lib.hid hC
     generalize C = X at *
     obtain ⟨G, D, D', hP⟩ := hS.swap
     obtain ⟨vc, T, p, hvl, hv1, hv7, hTv, hTT, hcall⟩ := vip0_any hP.m2 HX.out
     have HVC := Lib.hid (show (Tryd.prog.info? 53).map (·.size) = some vc.length by rw [hvl]; kernel_rfl)
     have HTV := Lib.hid hTv
     clear hS hC hTv
     go_upto_region 17 with (fail)
     refine wp_region_lit ?_
     refine wpList_plain rfl (fun K hK => ?_); go_simp; with_reducible refine hK _ _ ?_; clear hK K
     refine wpList_plain rfl (fun K hK => ?_)
     go_simp
     refine (hcall _ (Below.refl _ _)).mono ?_
     rintro e w1 ⟨bs1, d1, rfl, rfl⟩
     with_reducible refine hK _ _ ?_
     clear hK K
     iterate 4 (refine wpList_plain rfl (fun K hK => ?_); go_simp; with_reducible refine hK _ _ ?_; clear hK K)
     refine wpList_stA (t := 53) 53 (.tmp 13) (.tmp 97) rfl rfl vc veZ (by rw [hvl]; rfl) hv1 rfl rfl (Bk.newK _ _ _ (by simp [size_plus]) rfl) HVC.out ?_
     intro W5 h5 g5
     refine wpList_plain rfl (fun K hK => ?_); go_simp; with_reducible refine hK _ _ ?_; clear hK K
     have hb5 : Below wr.heap.size wr W5 := below_grown (Below.allocS (below_plus wr bs1 d1) _) g5 (by simp [size_plus])
     have hgv0 : wr.heap.size ≤ wr.heap.size + bs1.length := Nat.le_add_right _ _
     have hPlt := hP.lt
     have hgD : ¬ D (wr.heap.size + bs1.length) := fun h => by have := hPlt _ (hP.sub _ h); omega
     have hgG : ¬ G (wr.heap.size + bs1.length) := fun h => by have := hPlt _ h; omega
     generalize wr.heap.size + bs1.length = gv at *
     have hP5 : SR18 w.heap.size G D D' g K (rsvT K ms T) r g2 X r2 0 W5 := hP.later hb5
     have hTT5 := hTT.later hb5
     have be5 := be.trans (hb5.mono be.size)
     have hD0 : ∀ b, D b → w.heap.size ≤ b := fun b h => hP.g0 b (hP.sub b h)
     have hDD : ∀ b, D b → b < W5.heap.size := fun b h => by have := hPlt _ (hP.sub b h); have := hb5.size; omega
     have HDD := Lib.hid hP.dd
     have HBE := Lib.hid (fun W (h : Chg (fun b => D b) W5 W) => be5.trans (h.below (B := w.heap.size) hD0 be5.size))
     have HTM := Lib.hid (fun W (h : Below w.heap.size w W) => to22_own 0 0 0 0 false 0 0 0 0 0 ms Q qn qc W (HQ2.out.later h) (by omega))
     have HRS := Lib.hid (fun W (hC : Chg (fun b => D b) W5 W) (hS : SR18 w.heap.size G D D' g K (rsvT K ms T) r g2 X r2 0 W) (B5 : Option Addr) (d5 : Nat) (ho : Os 68 2 W W5.heap.size B5 qn d5 (prs .i64 ms)) => show Calls Tryd.prog 11 #[.pointer (some ⟨g, 0, none⟩), .slice B5 qn d5, .pointer p] W (fun e w2 => e = .returned (.int .i64 (resE K ms T : Nat)) ∧ SR18 w.heap.size G D D' g K (rsvT K ms T) r g2 X r2 1 w2 ∧ Chg (fun b => D b) W w2) from Pg.restore hS HK.out (Nat.le_trans be5.size hC.size) ms ho.rs (by omega) T p (hTT5.chg hC HDD.out))
     clear hP hTT hcall g5 hb5 be hgv0 hPlt hD0
     go_upto_region 18 with (fail)
     refine wp_suS (fun b => D b) 9 225 2 [7] rfl (by kernel_rfl) (by kernel_rfl) (fun k w' => SR18 w.heap.size G D D' g K (rsvT K ms T) r g2 X r2 k w') (SR18.ex) (hP5) ?_
     apply StepsC.one (MC.eq _) 1 rfl (by decide)
     ·intro o ho FA w' hC hO hD K hK
      obtain rfl := qoi ho
      have e7 := hO 7 (by kernel_rfl)
      simp only [eval_tmp, qgT, qgS, qgZ, qoS] at e7
      have ev7 := Lib.hid ((eval_tmp FA 7).trans e7)
      clear hO hD ho
      go_simp
      exact hK.out _ _ (Ex.refl _) rfl
     apply StepsC.one (MC.eq _) 2 rfl (by decide)
     ·intro o ho FA w' hC hO hD K hK
      obtain rfl := qoi ho
      have e2 := hO 2 (by kernel_rfl)
      simp only [eval_tmp, qgT, qgS, qgZ, qoS] at e2
      have ev2 := Lib.hid ((eval_tmp FA 2).trans e2)
      clear hO hD ho
      go_simp
      exact hK.out _ _ (Ex.refl _) rfl
     apply StepsC.one (MC.eq _) 3 rfl (by decide)
     ·intro o ho FA w' hC hO hD K hK
      obtain rfl := qoi ho
      obtain ⟨e100, ev100⟩ := qE (hD 1 100 (by kernel_rfl))
      clear hO hD ho
      refine wanted_if rfl ?_
      refine wp_buildV 48 [(8, .tmp 100)] rfl (.agg (opC 0 0 0 0 false 0 0 0 0 0 Q qn qc).toArray) (by simp only [List.map_cons, List.map_nil, ev100.out]; exact run_bOm _ _ _ _) ?_
      exact hK.out _ _ (Ex.refl _) rfl
     apply StepsC.one (MC.mb W5.heap.size hDD qn ms (fun B d => .agg (opC 0 0 0 0 false 0 0 0 0 0 B qn d).toArray)) 4 rfl (by decide)
     ·intro o ho FA w' hC hO hD K hK
      obtain rfl := qoi ho
      obtain ⟨e101, ev101⟩ := qE (hD 2 101 (by kernel_rfl))
      clear hO hD ho
      go_simp
      refine (HTM.out w' (HBE.out _ hC)).mono ?_
      rintro e w2 ⟨B5, d5, bs5, dd5, rfl, rfl, ho5⟩
      exact hK.out _ _ (Ex.plus_ _ _ _) ⟨_, _, rfl, ho5.mono hC.size⟩
     apply StepsC.one (MC.mb W5.heap.size hDD qn ms (fun B d => .slice B qn d)) 5 rfl (by decide)
     ·intro o ho FA w' hC hO hD K hK
      obtain rfl := qoi ho
      obtain ⟨u102, f102, e102, ev102⟩ := qC (hD 3 102 (by kernel_rfl))
      clear hO hD ho
      obtain ⟨B5, d5, rfl, ho5⟩ := f102
      go_simp
      exact hK.out _ _ (Ex.refl _) ⟨_, _, rfl, ho5⟩
     apply StepsC.one (MC.eq _) 6 rfl (by decide)
     ·intro o ho FA w' hC hO hD K hK
      obtain rfl := qoi ho
      have e13 := hO 13 (by kernel_rfl)
      simp only [eval_tmp, qgT, qgS, qgZ, qoS] at e13
      have ev13 := Lib.hid ((eval_tmp FA 13).trans e13)
      clear hO hD ho
      go_simp
      exact hK.out _ _ (Ex.refl _) rfl
     apply StepsC.one (MC.eq _) 7 rfl (by decide)
     ·intro o ho FA w' hC hO hD K hK
      obtain rfl := qoi ho
      obtain ⟨e104, ev104⟩ := qE (hD 5 104 (by kernel_rfl))
      clear hO hD ho
      refine wanted_if rfl ?_
      refine wp_ld1 51 (.tmp 104) rfl ev104.out (h5.chg hC hgD) hv7 Tryd.underlying51 rfl ?_
      exact hK.out _ _ (Ex.refl _) rfl
     apply StepsC.mov (MC.eq (.int .i64 (resE K ms T : Nat))) 8 0 rfl rfl rfl
     ·intro o ho FA w' hC hO hD hS K hK
      obtain rfl := qoi ho
      obtain ⟨e99, ev99⟩ := qE (hD 0 99 (by kernel_rfl))
      obtain ⟨u103, f103, e103, ev103⟩ := qC (hD 4 103 (by kernel_rfl))
      obtain ⟨e105, ev105⟩ := qE (hD 6 105 (by kernel_rfl))
      clear hO hD ho
      obtain ⟨B5, d5, rfl, ho5⟩ := f103
      go_simp
      refine (HRS.out w' hC hS _ _ ho5).mono ?_
      rintro e w2 ⟨rfl, hS2, hc2⟩
      exact hK.out _ _ hc2 hS2 rfl
     apply StepsC.one (MC.eq _) 9 rfl (by decide)
     ·intro o ho FA w' hC hO hD K hK
      obtain rfl := qoi ho
      obtain ⟨e106, ev106⟩ := qE (hD 7 106 (by kernel_rfl))
      clear hO hD ho
      go_simp
      exact hK.out _ _ (Ex.refl _) rfl
     refine StepsC.fin_ (fun vs w' hC hS hp => ?_)
     have p0 : vs 0 = _ := hp 0 (by omega) rfl
     have p1 : vs 1 = _ := hp 1 (by omega) rfl
     have p2 : vs 2 = _ := hp 2 (by omega) rfl
     have p3 := hp 3 (by omega) rfl
     have p4 := hp 4 (by omega) rfl
     have p5 : vs 5 = _ := hp 5 (by omega) rfl
     have p6 : vs 6 = _ := hp 6 (by omega) rfl
     have p7 : vs 7 = _ := hp 7 (by omega) rfl
     have p8 : vs 8 = _ := hp 8 (by omega) rfl
     clear hp
     simp only [List.take_succ_cons, List.take_zero, List.drop_succ_cons, List.drop_zero, putAll, Nat.zero_add, Nat.reduceAdd, Act.put, qsT, qsZ, qsS, p0, p1, p2, p5, p6, p7, p8]
     clear p0 p1 p2 p5 p6 p7 p8
     generalize vs 3 = y3 at *
     generalize vs 4 = y4 at *
     clear vs
     have be6 := HBE.out _ hC
     have h6 := h5.chg hC hgD
     have hTT6 := TOk.chg hC HDD.out hTT5
     clear p3 p4
     clear HBE HTM HRS hP5 h5 hTT5 be5 hDD HDD hgD hgG
     replace hS : Pq w.heap.size w' g (rsvT K ms T) r K g2 X r2 X := hS
     generalize w' = Z0 at *
     clear hC
     obtain ⟨G1, D1, D2, hP⟩ := hS
     obtain ⟨Ar, nr, cr, Er, hXr, hbr⟩ := hP.b1
     have hk := HK.out.key
     have hb := HK.out.bl
     have HNR := Lib.hid hXr.n_
     have HP := Lib.hid hP
     clear hP
     have q278 : Z0.cell? ⟨r, 278, none⟩ = some (.slice Ar nr cr) := (hbr.cell 278).trans (rcC_vips K hk hb Ar nr cr)
     rcases Nat.eq_zero_or_pos nr with h0 | h0
     ·have HE := Lib.hid (show resE K ms T = 6 from if_pos (by rw [← HNR.out]; exact h0))
      have h0i : ((nr : Int) == 0) = true := by simp [h0]
      rw [HE.out]
      go_upto_region 19 with (fail)
      refine wp_region_lit ?_
      iterate 4 (refine wpList_plain rfl (fun K hK => ?_); go_simp; with_reducible refine hK _ _ ?_; clear hK K)
      go_wp2_with (go_at_call 4; refine (awake22 _).mono ?_; rintro e w1 ⟨bs2, d2, rfl, rfl⟩)
      go_ret
      exact ⟨rfl, be6.trans ((below_plus _ _ _).mono be6.size)⟩
     obtain ⟨i, rfl⟩ : ∃ i, nr = i + 1 := ⟨nr - 1, by omega⟩
     have h0i : (((i + 1 : Nat) : Int) == 0) = false := by simp; omega
     have hi16 : i + 1 ≤ 16 := by have := HK.out.vl; have := HNR.out; omega
     have l1 : IntKind.i64.wrap (((i + 1 : Nat) : Int) - 1) = (i : Int) := by rw [IntWalk.i64_in _ (by omega)]; omega
     have l2 : IntKind.i64.wrap ((i : Int) + 1 - 1) = (i : Int) := by rw [IntWalk.i64_in _ (by omega)]; omega
     have l3 : IntKind.i64.wrap (i : Int) = (i : Int) := IntWalk.i64_in _ (by omega)
     have l4 : (i : Int) < ((i + 1 : Nat) : Int) := by omega
     have l5 : (i : Int) < (i : Int) + 1 := by omega
     have l6 : (i : Int) + 1 - 1 = (i : Int) := by omega
     clear h0
     go_upto_region 19 with (fail)
     refine wp_region_lit ?_
     iterate 4 (refine wpList_plain rfl (fun K hK => ?_); go_simp; with_reducible refine hK _ _ ?_; clear hK K)
     go_upto_region 21 with (fail)
     refine wp_region_lit ?_
     iterate 5 (refine wpList_plain rfl (fun K hK => ?_); go_simp; with_reducible refine hK _ _ ?_; clear hK K)
     go_upto_region 22 with (fail)
     refine wp_region_lit ?_
     refine wpList_ldA (t := 37) 37 (.tmp 8) rfl rfl (rcC K Ar (i + 1) cr) rfl (hbr) (whole_ _) vs1 vs2 (szRcS K hk hb _ _ _) ?_
     refine wpList_plain rfl (fun K hK => ?_); go_simp; with_reducible refine hK _ _ ?_; clear hK K
     refine wpList_stA (t := 37) 37 (.tmp 17) (.tmp 120) rfl rfl (rcC K Ar (i + 1) cr) (Tryd.zeroCells37).toList (by rw [rcC_len _ hk hb]; exact HZL.out.symm) (rcL_one _ _ _ _ _ _ _ _) rfl rfl (Bk.new _ _ _) (szRcS _ hk hb _ _ _) ?_
     intro Z1 h1 g1
     simp only [Act.put, qsT, qsZ, qsS]
     have hB1 : Below Z0.heap.size Z0 Z1 := below_grown (Below.allocS (Below.refl _ _) _) g1 (Nat.le_refl _)
     have hr1 := hbr.later hB1
     have hX1 := hXr.later hB1
     have hk1 := h1.lt
     clear g1 q278
     go_upto_region 23 with (fail)
     refine wp_region_lit ?_
     iterate 2 (refine wpList_plain rfl (fun K hK => ?_); go_simp; with_reducible refine hK _ _ ?_; clear hK K)
     refine wpList_ld1 (t := 37) (cs := rcC K Ar (i + 1) cr) 35 (.tmp 122) rfl (by rfl) rfl (hr1.alloc _) (rcC_vips K hk hb Ar (i + 1) cr) Tryd.underlying35 rfl ?_
     simp only [Act.put, qsT, qsZ, qsS]
     refine wpList_appS etRv rfl (.tmp 121) (.tmp 123) rfl rfl (Os.lit Z1 (Nat.le_refl _) #[] 0 rfl (Nat.zero_le _)) rfl (hX1.row.alloc _) (flat_one rvC rvC_one _) (by omega) (by simp) ?_
     intro A3 n3 c3 Z2 hn3 hO3 hb3 hg3
     obtain rfl : n3 = i + 1 := by omega
     clear hn3
     simp only [Act.put, qsT, qsZ, qsS]
     have hb3W : Below Z1.heap.size Z1 Z2 := (Below.allocS (Below.refl _ _) _).trans hb3
     simp only [List.nil_append, Nat.zero_add] at hO3
     replace h1 := h1.later hb3W
     refine wpList_plain rfl (fun K hK => ?_); go_simp; with_reducible refine hK _ _ ?_; clear hK K
     refine wpList_st1 (v := .slice A3 (i + 1) c3) (t := 37) (cs := rcC K Ar (i + 1) cr) (off := 278) 35 (.tmp 125) (.tmp 124) rfl rfl rfl rfl h1 (by rw [rcC_len K hk hb]; omega) rfl (by kernel_rfl) ?_
     intro Z3 h3 g3
     simp only [Act.put, qsT, qsZ, qsS]
     rw [rcC_set K hk hb] at h3
     have hB2 := hB1.trans (hb3W.mono hB1.size)
     have hB3 : Below Z0.heap.size Z0 Z3 := below_grown hB2 g3 (Nat.le_refl _)
     obtain ⟨b2, cu0, rfl, hob, hcur, hcl, hct, hnc, hcm⟩ := hO3.bk (by omega)
     have hb2 := (hO3.blk _ hob).1
     have HFL := Lib.hid (show (Er.flatMap rvC).length = (i + 1) * 81 by rw [flat_len rvC 81 rvC_len, hXr.len, ← HNR.out])
     have hsp : cu0 = Er.flatMap rvC ++ cu0.drop ((i + 1) * 81) := by rw [← hct, List.take_append_drop]
     generalize cu0.drop ((i + 1) * 81) = cur at hsp
     rw [hsp] at hcur
     replace hcur := hcur.grown g3 (fun e => by injection e with e; omega)
     have hkb2 : Z0.heap.size < b2 := by omega
     obtain ⟨x0, hx0⟩ : ∃ x0, Er[i]? = some x0 := ⟨Er[i]'(by have := hXr.len; have := HNR.out; omega), List.getElem?_eq_getElem _⟩
     have HX0 := Lib.hid hx0
     clear hcl hct hcm hsp hob hO3 hX1 hr1 g3 hb3 hg3 h1 hx0 hb3W hB2 hB1
     go_upto_region 24 with (fail)
     refine wp_region_lit ?_
     refine wpList_plain rfl (fun K hK => ?_); go_simp; with_reducible refine hK _ _ ?_; clear hK K
     refine wpList_ld1 (t := 37) (cs := rcC K (some ⟨b2, 0, none⟩) (i + 1) c3) 35 (.tmp 126) rfl (by rfl) rfl h3 (rcC_vips K hk hb _ (i + 1) c3) Tryd.underlying35 rfl ?_
     refine wpList_plain rfl (fun K hK => ?_); go_simp; with_reducible refine hK _ _ ?_; clear hK K
     refine wpList_build 60 [] rfl rfl (.agg (rstC none 0 0 ⟨[], 0, 0⟩).toArray) (run_bS0 _) ?_
     iterate 2 (refine wpList_plain rfl (fun K hK => ?_); go_simp; with_reducible refine hK _ _ ?_; clear hK K)
     refine wpList_stM (t := 62) (off := i * 81 + 7) 60 (.tmp 131) (.tmp 129) rfl rfl (rstC none 0 0 ⟨[], 0, 0⟩) (Er.flatMap rvC ++ cur) (by rw [List.length_append, HFL.out, rstC_len]; omega) (rstC_one _ _ _ _) rfl rfl hcur (szRst _ _ _ _) ?_
     intro Z4 h4 g4
     simp only [Act.put, qsT, qsZ, qsS]
     have hvi : K.vs[i]? = some x0.1 := by rw [← hXr.vs, List.getElem?_map, HX0.out]; rfl
     have hb2G : ¬ G1 b2 := fun h => by have := HP.out.lt _ h; omega
     have hXc : RcX G1 Z4 (clnC K i x0.1) (some ⟨b2, 0, none⟩) (i + 1) c3 (Er.set i (clnV x0.1, { x0.2 with B := none, m := 0, d := 0 })) := RcX.setStk (C := K) hXr.vs (by have := hXr.len; have := HNR.out; omega) hnc hb2G (fun x hx => (hXr.mm x hx).later hB3) (fun x hx => ((hXr.mo x hx).more (fun k hk => hk.elim .inl (fun e => .inr (by omega)))).size hB3.size) (fun x hx => ((hXr.ss x hx).more (fun k hk => hk.elim .inl (fun e => .inr (by omega)))).later hB3) HX0.out RSt.nil_ g4 h4
     generalize Er.set i (clnV x0.1, { x0.2 with B := none, m := 0, d := 0 }) = Ec at *
     have hB4 : Below Z0.heap.size Z0 Z4 := below_grown hB3 g4 (by omega)
     have h34 := h3.grown g4 (fun e => by injection e with e; omega)
     have hGlt := HP.out.lt
     have HRA := Lib.hid (show Calls Tryd.prog 9 #[.agg (rcC K (some ⟨b2, 0, none⟩) (i + 1) c3).toArray, .agg (opC 3 (i : Nat) 0 0 false 0 0 0 0 0 Q qn qc).toArray] Z4 (RetRq G1 Z4 (apC (clnC K i x0.1) (oR i ms)) (chE (clnC K i x0.1) (oR i ms))) from refApply3 (G := G1) 3 ((i : Nat) : Int) 0 0 false 0 0 0 0 0 ms Q qn qc (clnC K i x0.1) (clnC_r HK.out i x0.1) (some ⟨b2, 0, none⟩) (i + 1) c3 Ec Z4 (fun b hb => by have := hGlt b hb; have := hB4.size; omega) hXc (HQ2.out.later (be6.trans (hB4.mono be6.size))) (by omega) (by omega) (by decide) (by decide) (by decide) (by decide) rfl (by omega) (by omega))
     have hka : (apC (clnC K i x0.1) (oR i ms)).key.length = 16 := by rw [(clnC_kb hvi ms).1]; exact hk
     have hba : (apC (clnC K i x0.1) (oR i ms)).bk.length = 65 := by rw [(clnC_kb hvi ms).2]; exact hb
     have HVI := Lib.hid hvi
     clear h3 h4 hb2G hXc hcur g4 hB3 hvi hkb2 hb2 hnc hk1
     go_upto_region 25 with (fail)
     refine wp_region_lit ?_
     refine wpList_ldA (t := 37) 37 (.tmp 17) rfl rfl (rcC K (some ⟨b2, 0, none⟩) (i + 1) c3) rfl (h34) (whole_ _) vs1 vs2 (szRcS K hk hb _ _ _) ?_
     iterate 2 (refine wpList_plain rfl (fun K hK => ?_); go_simp; with_reducible refine hK _ _ ?_; clear hK K)
     refine wpList_build 48 [(0, .const (.int .i64 3)), (1, .tmp 134), (8, .tmp 135)] rfl rfl (.agg (opC 3 (i : Nat) 0 0 false 0 0 0 0 0 Q qn qc).toArray) (run_bO3r _ _ _ _ _) ?_
     refine wpList_plain rfl (fun K hK => ?_)
     go_simp
     refine (HRA.out).mono ?_
     rintro e w1 ⟨Ay, ny, cy, Ey, rfl, hXy, hby, hoy⟩
     with_reducible refine hK _ _ ?_
     clear hK K
     generalize hWW : w1 = Z5 at *
     clear hWW
     iterate 4 (refine wpList_plain rfl (fun K hK => ?_); go_simp; with_reducible refine hK _ _ ?_; clear hK K)
     refine wpList_stA (t := 37) 37 (.tmp 18) (.tmp 138) rfl rfl (rcC (apC (clnC K i x0.1) (oR i ms)) Ay ny cy) (Tryd.zeroCells37).toList (by rw [rcC_len _ hka hba]; exact HZL.out.symm) (rcL_one _ _ _ _ _ _ _ _) rfl rfl (Bk.new _ _ _) (szRcS _ hka hba _ _ _) ?_
     intro Z6 h6y g6
     refine wpList_plain rfl (fun K hK => ?_); go_simp; with_reducible refine hK _ _ ?_; clear hK K
     have hB5 : Below Z0.heap.size Z0 Z5 := hB4.trans (hby.mono hB4.size)
     have hB56 : Below Z5.heap.size Z5 Z6 := below_grown (Below.allocS (Below.refl _ _) _) g6 (Nat.le_refl _)
     have hB6 := hB5.trans (hB56.mono hB5.size)
     have hXy6 := hXy.later hB56
     have hoy6 := Lib.hid (fun h => (((hoy h).more (G' := fun k => G1 k ∨ k = Z5.heap.size) (fun k hk => hk.elim .inl (fun e => .inr (by omega)))).later hB56).base_ hB4.size)
     have hyk : Z0.heap.size ≤ Z5.heap.size := hB5.size
     generalize Z5.heap.size = ky at *
     clear HRA hXy hoy hby g6 hB5 hB56 hB4 h34 HX0
     have h0v : ¬ K.vs.length = 0 := by have := HNR.out; omega
     have be60 := be6.trans (hB6.mono be6.size)
     have HCE := Lib.hid (clnC_e HVI.out ms)
     have h6z := h6.later hB6
     have hcase : T = none ∨ (∃ S, T = some S ∧ okM K ms = false) ∨ (∃ S, T = some S ∧ okM K ms = true) := by
      cases T with
      | none => exact .inl rfl
      | some S =>
       by_cases h : okM K ms = true
       ·exact .inr (.inr ⟨S, rfl, h⟩)
       ·exact .inr (.inl ⟨S, rfl, by simpa using h⟩)
     rcases hcase with rfl | ⟨S, rfl, hok⟩ | ⟨S, rfl, hok⟩
     focus
      have HE1 := Lib.hid (show resE K ms none = 1 from if_neg h0v)
      have HS1 := Lib.hid (show rsvT K ms none = K from rfl)
     rotate_left
     focus
      have HE1 := Lib.hid (show resE K ms (some S) = 1 by rw [resE_some K ms S h0v, hok]; rfl)
      have HS1 := Lib.hid (show rsvT K ms (some S) = K from if_neg (by rw [HE1.out]; decide))
      rw [show chE (clnC K i x0.1) (oR i ms) = 1 by rw [HCE.out, hok]; rfl]
      clear hok
     rotate_left
     focus
      rw [show chE (clnC K i x0.1) (oR i ms) = 0 by rw [HCE.out, hok]; rfl]
      go_upto_region 26 with (fail)
      refine wp_region_lit ?_
      iterate 2 (refine wpList_plain rfl (fun K hK => ?_); go_simp; with_reducible refine hK _ _ ?_; clear hK K)
      iterate 2 (refine wpList_step (fun K hK => ?_); go_simp; with_reducible refine hK _ _ ?_; clear hK K)
      iterate 2 (refine wpList_plain rfl (fun K hK => ?_); go_simp; with_reducible refine hK _ _ ?_; clear hK K)
      obtain ⟨Ax, nx, cx, EX, hXx, hbx⟩ := HP.out.b2
      obtain ⟨v0, hv0, hvS⟩ : ∃ v0, X.vs[0]? = some v0 ∧ v0.S = S := by
       have := HTV.out
       cases hc : X.vs[0]? with
       | none => rw [hc] at this; cases this
       | some v0 => rw [hc] at this; exact ⟨v0, rfl, (Option.some.inj this).symm⟩
      have hEx : 0 < EX.length := by have := (List.getElem?_eq_some_iff.1 hv0).1; have := hXx.len; omega
      have hnx : 0 < nx := by have := hXx.n_; have := hXx.len; omega
      have hEr : 0 < Er.length := by have := hXr.len; have := HNR.out; omega
      have hkx := HX.out.key
      have hbkx := HX.out.bl
      have hy1 : (EX[0]).1.S = S := by
       have h1 : (EX.map (·.1))[0]? = some (EX[0]).1 := by rw [List.getElem?_map, List.getElem?_eq_getElem hEx]; rfl
       rw [hXx.vs, hv0] at h1
       rw [← Option.some.inj h1]
       exact hvS
      have hz1 : ∀ q : Int, deadS (Er[0]).1.S q = hasB (ev0 K) q 1 64 := fun q => by
       have h1 : (Er.map (·.1))[0]? = some (Er[0]).1 := by rw [List.getElem?_map, List.getElem?_eq_getElem hEr]; rfl
       rw [hXr.vs] at h1
       rw [hasB_dead, (HK.out.vs _ (List.mem_of_getElem? h1)).ev]
      obtain ⟨bx, ox, hAx, hbx0, -⟩ := hXx.row.at_ hnx (by decide)
      obtain ⟨b0, o0, hAr, hbr0, -⟩ := hXr.row.at_ (by omega) (by decide)
      have hrx : ∀ W, Below Z6.heap.size Z6 W → W.rangeAt bx ox (rvC EX[0]) := fun W h => by
       have h1 := (hXx.row.later hB6).later h
       rw [hAx] at h1
       have := h1.rangeE rvC_len 0 hEx
       rwa [Nat.zero_mul] at this
      have hrr : ∀ W, Below Z6.heap.size Z6 W → W.rangeAt b0 o0 (rvC Er[0]) := fun W h => by
       have h1 := (hXr.row.later hB6).later h
       rw [hAr] at h1
       have := h1.rangeE rvC_len 0 hEr
       rwa [Nat.zero_mul] at this
      have HQD := Lib.hid (fun W (h : Below Z6.heap.size Z6 W) (q : Nat) (hq : q < 65) => show W.cell? ⟨bx, ox + 7 + 1 + q, none⟩ = some (.bool (deadS S (q : Int))) from by
       have h1 := hrx W h (8 + q) (.bool (deadS S (q : Int))) (rvC_ev _ q _ (by rw [hy1]; simp [refEv, hq]))
       rw [← h1]
       congr 2
       omega)
      have HQE0 := Lib.hid (fun W (h : Below Z6.heap.size Z6 W) (q : Nat) (hq : q < 65) => show W.cell? ⟨b0, o0 + 7 + 1 + q, none⟩ = some (.bool (hasB (ev0 K) (q : Int) 1 64)) from by
       have h1 := hrr W h (8 + q) (.bool (hasB (ev0 K) (q : Int) 1 64)) (rvC_ev _ q _ (by rw [← hz1]; simp [refEv, hq]))
       rw [← h1]
       congr 2
       omega)
      have H278X := Lib.hid (fun W (h : Below Z6.heap.size Z6 W) => show W.cell? ⟨r2, 278, none⟩ = some (.slice (some ⟨bx, ox, none⟩) nx cx) from (((hbx.later hB6).later h).cell 278).trans (by rw [← hAx]; exact rcC_vips X hkx hbkx Ax nx cx))
      have H278R := Lib.hid (fun W (h : Below Z6.heap.size Z6 W) => show W.cell? ⟨r, 278, none⟩ = some (.slice (some ⟨b0, o0, none⟩) (i + 1) cr) from (((hbr.later hB6).later h).cell 278).trans (by rw [← hAr]; exact rcC_vips K hk hb Ar (i + 1) cr))
      have HLD := Lib.hid (show decide (K.vs.length ≤ 1) = decide (i = 0) by have := HNR.out; by_cases h : i = 0 <;> simp [h] <;> omega)
      have HRX := Lib.hid hrx
      have hxi : (0 : Int) < (nx : Int) := by omega
      have hri : (0 : Int) < ((i + 1 : Nat) : Int) := by omega
      have hri2 : (0 : Int) < (i : Int) + 1 := by omega
      have HAX := Lib.hid hAx
      have HY1 := Lib.hid hy1
      clear hrx hrr hz1 hbr0 hbx0 hv0 hvS hAx hAr hy1
      go_upto_region 28 with (fail)
      go_loopw [20, 21, 22] (fun F I J wr => ∃ q : Nat, I = .int .i64 (q : Int) ∧ 1 ≤ q ∧ q ≤ 65 ∧ F = .bool ((List.range (q - 1)).all (resK K S)) ∧ Below Z6.heap.size Z6 wr) (fun _ I _ _ => 65 - (intOf I).toNat)
      case atStart => exact ⟨1, rfl, Nat.le_refl _, by omega, rfl, Below.refl _ _⟩
      case round =>
       obtain ⟨q, rfl, hq1, hq65, rfl, hbw⟩ := hrel
       obtain ⟨fb, hfb⟩ : ∃ fb, (List.range (q - 1)).all (resK K S) = fb := ⟨_, rfl⟩
       rw [hfb]
       have HFB := Lib.hid hfb
       clear hfb
       cases fb with
       | false =>
        have HE1 := Lib.hid (show resE K ms (some S) = 1 by
         rw [resE_some K ms S h0v, hok, Bool.true_and, if_neg]
         rw [Bool.not_eq_true, List.all_eq_false]
         obtain ⟨j, hj, hj2⟩ := List.all_eq_false.1 HFB.out
         exact ⟨j, List.mem_range.2 (by have := List.mem_range.1 hj; omega), hj2⟩)
        have HS1 := Lib.hid (show rsvT K ms (some S) = K from if_neg (by rw [HE1.out]; decide))
        rw [HE1.out]
        obtain ⟨Ac, nc, cc, Ec2, hXc⟩ := (show CfM G1 D1 Z0 g K from HS1.out ▸ HP.out.m1)
        have HSM := Lib.hid (fun W (h : Below Z6.heap.size Z6 W) => show Calls Tryd.prog 13 #[.pointer (some ⟨g, 0, none⟩), .agg (rcC K Ar (i + 1) cr).toArray] W (RetV W (.bool true)) from same22_any K hk hb (fun v hv => ⟨(HK.out.vs v hv).st, by have := okM_len (HK.out.vs v hv).ms; omega⟩) HK.out.vl g Ac nc cc Ec2 Ar (i + 1) cr Er W ((hXc.later hB6).later h) ((hXr.later hB6).later h) (HT0.out.later (be60.trans (h.mono be60.size))))
        rcases (by omega : q < 65 ∨ ¬ q < 65) with hq | hq
        focus
         have iq : (q : Int) < 65 := by omega
        rotate_left
        focus
         have iq : ¬ (q : Int) < 65 := by omega
        iterate 2
         focus
          have hrw := (hbr.later hB6).later hbw
          go_upto_region 33 with (fail)
          refine wp_region_lit ?_
          iterate 3 (refine wpList_plain rfl (fun K hK => ?_); go_simp; with_reducible refine hK _ _ ?_; clear hK K)
          refine wpList_step (fun K hK => ?_); go_simp; with_reducible refine hK _ _ ?_; clear hK K
          refine wpList_ldG (t := 37) 37 (.tmp 8) rfl (by go_simp) (rcC K Ar (i + 1) cr) rfl (hrw) (whole_ _) vs1 vs2 (szRcS K hk hb _ _ _) ?_
          refine wpList_step (fun K hK => ?_)
          go_simp
          refine (HSM.out _ hbw).mono ?_
          rintro e w1 ⟨bs3, d3, rfl, rfl⟩
          with_reducible refine hK _ _ ?_
          clear hK K
          iterate 2 (refine wpList_plain rfl (fun K hK => ?_); go_simp; with_reducible refine hK _ _ ?_; clear hK K)
          refine wpList_step (fun K hK => ?_)
          go_simp
          refine (awake22 _).mono ?_
          rintro e w1 ⟨bs4, d4, rfl, rfl⟩
          with_reducible refine hK _ _ ?_
          clear hK K
          iterate 2 (refine wpList_plain rfl (fun K hK => ?_); go_simp; with_reducible refine hK _ _ ?_; clear hK K)
          go_wp2
          go_ret
          exact ⟨rfl, belowP (belowP (be60.trans (hbw.mono be60.size)) bs3 d3) bs4 d4⟩
       | true =>
        by_cases hq : q < 65
        ·have iq : (q : Int) < 65 := by omega
         have q278x := H278X.out wr hbw
         have qd := HQD.out wr hbw q hq
         have q278r := H278R.out wr hbw
         have qe := HQE0.out wr hbw q hq
         have hrw := (hbr.later hB6).later hbw
         have HQE := Lib.hid (fun W (h : Below Z6.heap.size Z6 W) => HQE0.out W h q hq)
         have HKN := Lib.hid (fun W => refKnown_any K hk hb Ar (i + 1) cr (q : Int) W)
         have HNX := Lib.hid (show (List.range (q + 1 - 1)).all (resK K S) = ((!deadS S (q : Int) || knC K (q : Int)) && (decide (i = 0) || (deadS S (q : Int) == hasB (ev0 K) (q : Int) 1 64))) by
          have e : List.range (q + 1 - 1) = List.range (q - 1) ++ [q - 1] := by
           obtain ⟨k, rfl⟩ : ∃ k, q = k + 1 := ⟨q - 1, by omega⟩
           show List.range (k + 1) = _
           rw [List.range_succ]
           rfl
          rw [e, List.all_append, HFB.out, List.all_cons, List.all_nil, resK_m K S q hq1, HLD.out]
          simp)
         obtain ⟨dd, hdd⟩ : ∃ dd, deadS S (q : Int) = dd := ⟨_, rfl⟩
         obtain ⟨kn, hkn⟩ : ∃ kn, knC K (q : Int) = kn := ⟨_, rfl⟩
         obtain ⟨ee, hee⟩ : ∃ ee, hasB (ev0 K) (q : Int) 1 64 = ee := ⟨_, rfl⟩
         rw [hdd] at qd HNX
         rw [hkn] at HKN HNX
         rw [hee] at qe HQE HNX
         clear hdd hkn hee
         obtain ⟨zz, hzz, HZZ⟩ : ∃ zz, ((i : Int) == 0) = zz ∧ Hid (decide (i = 0) = zz) := by
          by_cases h : i = 0
          ·exact ⟨true, by simp [h], Lib.hid (by simp [h])⟩
          ·exact ⟨false, by simpa using h, Lib.hid (by simp [h])⟩
         rw [HZZ.out] at HNX
         clear HZZ
         go_upto_region 30 with (fail)
         refine wp_region_lit ?_
         iterate 9 (refine wpList_plain rfl (fun K hK => ?_); go_simp; with_reducible refine hK _ _ ?_; clear hK K)
         cases dd with
         | false =>
          cases zz with
          | true =>
           go_upto_region 31 with (fail)
           refine wp_region_lit ?_
           iterate 3 (refine wpList_plain rfl (fun K hK => ?_); go_simp; with_reducible refine hK _ _ ?_; clear hK K)
           iterate 3 ((with_reducible refine wpList_skip ?_ ?_); (· first | (go_simp; done) | (go_simp; intro h; cases h)); simp only [Act.put, qsT, qsZ, qsS])
           iterate 2 (refine wpList_plain rfl (fun K hK => ?_); go_simp; with_reducible refine hK _ _ ?_; clear hK K)
           iterate 3 (refine wpList_step (fun K hK => ?_); go_simp; with_reducible refine hK _ _ ?_; clear hK K)
           iterate 10 ((with_reducible refine wpList_skip ?_ ?_); (· first | (go_simp; done) | (go_simp; intro h; cases h)); simp only [Act.put, qsT, qsZ, qsS])
           refine wpList_step (fun K hK => ?_); go_simp; with_reducible refine hK _ _ ?_; clear hK K
           iterate 2 (refine wpList_plain rfl (fun K hK => ?_); go_simp; with_reducible refine hK _ _ ?_; clear hK K)
           go_wp2
           exact ⟨⟨q + 1, by go_num, by omega, by omega, by rw [HNX.out]; rfl, hbw⟩, by simp [intOf]; omega⟩
          | false =>
           cases ee
           all_goals
            go_upto_region 31 with (fail)
            refine wp_region_lit ?_
            iterate 3 (refine wpList_plain rfl (fun K hK => ?_); go_simp; with_reducible refine hK _ _ ?_; clear hK K)
            iterate 3 ((with_reducible refine wpList_skip ?_ ?_); (· first | (go_simp; done) | (go_simp; intro h; cases h)); simp only [Act.put, qsT, qsZ, qsS])
            iterate 2 (refine wpList_plain rfl (fun K hK => ?_); go_simp; with_reducible refine hK _ _ ?_; clear hK K)
            iterate 14 (refine wpList_step (fun K hK => ?_); go_simp; with_reducible refine hK _ _ ?_; clear hK K)
            iterate 2 (refine wpList_plain rfl (fun K hK => ?_); go_simp; with_reducible refine hK _ _ ?_; clear hK K)
            go_wp2
            exact ⟨⟨q + 1, by go_num, by omega, by omega, by rw [HNX.out]; rfl, hbw⟩, by simp [intOf]; omega⟩
         | true =>
          cases kn with
          | false =>
           go_upto_region 31 with (fail)
           refine wp_region_lit ?_
           iterate 3 (refine wpList_plain rfl (fun K hK => ?_); go_simp; with_reducible refine hK _ _ ?_; clear hK K)
           refine wpList_ldG (t := 37) 37 (.tmp 8) rfl (by go_simp) (rcC K Ar (i + 1) cr) rfl (hrw) (whole_ _) vs1 vs2 (szRcS K hk hb _ _ _) ?_
           refine wpList_step (fun K hK => ?_); go_simp; with_reducible refine hK _ _ ?_; clear hK K
           refine wpList_step (fun K hK => ?_)
           go_simp
           refine (HKN.out _).mono ?_
           rintro e w1 ⟨bs3, d3, rfl, rfl⟩
           with_reducible refine hK _ _ ?_
           clear hK K
           have q278r2 := H278R.out _ (hbw.trans ((below_plus wr bs3 d3).mono hbw.size))
           have qe2 := HQE.out _ (hbw.trans ((below_plus wr bs3 d3).mono hbw.size))
           iterate 2 (refine wpList_plain rfl (fun K hK => ?_); go_simp; with_reducible refine hK _ _ ?_; clear hK K)
           iterate 14 ((with_reducible refine wpList_skip ?_ ?_); (· first | (go_simp; done) | (go_simp; intro h; cases h)); simp only [Act.put, qsT, qsZ, qsS])
           iterate 2 (refine wpList_plain rfl (fun K hK => ?_); go_simp; with_reducible refine hK _ _ ?_; clear hK K)
           go_wp2
           exact ⟨⟨q + 1, by go_num, by omega, by omega, by rw [HNX.out]; rfl, hbw.trans ((below_plus wr bs3 d3).mono hbw.size)⟩, by simp [intOf]; omega⟩
          | true =>
           cases zz with
           | true =>
            go_upto_region 31 with (fail)
            refine wp_region_lit ?_
            iterate 3 (refine wpList_plain rfl (fun K hK => ?_); go_simp; with_reducible refine hK _ _ ?_; clear hK K)
            refine wpList_ldG (t := 37) 37 (.tmp 8) rfl (by go_simp) (rcC K Ar (i + 1) cr) rfl (hrw) (whole_ _) vs1 vs2 (szRcS K hk hb _ _ _) ?_
            refine wpList_step (fun K hK => ?_); go_simp; with_reducible refine hK _ _ ?_; clear hK K
            refine wpList_step (fun K hK => ?_)
            go_simp
            refine (HKN.out _).mono ?_
            rintro e w1 ⟨bs3, d3, rfl, rfl⟩
            with_reducible refine hK _ _ ?_
            clear hK K
            have q278r2 := H278R.out _ (hbw.trans ((below_plus wr bs3 d3).mono hbw.size))
            have qe2 := HQE.out _ (hbw.trans ((below_plus wr bs3 d3).mono hbw.size))
            iterate 2 (refine wpList_plain rfl (fun K hK => ?_); go_simp; with_reducible refine hK _ _ ?_; clear hK K)
            iterate 3 (refine wpList_step (fun K hK => ?_); go_simp; with_reducible refine hK _ _ ?_; clear hK K)
            iterate 10 ((with_reducible refine wpList_skip ?_ ?_); (· first | (go_simp; done) | (go_simp; intro h; cases h)); simp only [Act.put, qsT, qsZ, qsS])
            refine wpList_step (fun K hK => ?_); go_simp; with_reducible refine hK _ _ ?_; clear hK K
            iterate 2 (refine wpList_plain rfl (fun K hK => ?_); go_simp; with_reducible refine hK _ _ ?_; clear hK K)
            go_wp2
            exact ⟨⟨q + 1, by go_num, by omega, by omega, by rw [HNX.out]; rfl, hbw.trans ((below_plus wr bs3 d3).mono hbw.size)⟩, by simp [intOf]; omega⟩
           | false =>
            cases ee
            all_goals
             go_upto_region 31 with (fail)
             refine wp_region_lit ?_
             iterate 3 (refine wpList_plain rfl (fun K hK => ?_); go_simp; with_reducible refine hK _ _ ?_; clear hK K)
             refine wpList_ldG (t := 37) 37 (.tmp 8) rfl (by go_simp) (rcC K Ar (i + 1) cr) rfl (hrw) (whole_ _) vs1 vs2 (szRcS K hk hb _ _ _) ?_
             refine wpList_step (fun K hK => ?_); go_simp; with_reducible refine hK _ _ ?_; clear hK K
             refine wpList_step (fun K hK => ?_)
             go_simp
             refine (HKN.out _).mono ?_
             rintro e w1 ⟨bs3, d3, rfl, rfl⟩
             with_reducible refine hK _ _ ?_
             clear hK K
             have q278r2 := H278R.out _ (hbw.trans ((below_plus wr bs3 d3).mono hbw.size))
             have qe2 := HQE.out _ (hbw.trans ((below_plus wr bs3 d3).mono hbw.size))
             iterate 2 (refine wpList_plain rfl (fun K hK => ?_); go_simp; with_reducible refine hK _ _ ?_; clear hK K)
             iterate 14 (refine wpList_step (fun K hK => ?_); go_simp; with_reducible refine hK _ _ ?_; clear hK K)
             iterate 2 (refine wpList_plain rfl (fun K hK => ?_); go_simp; with_reducible refine hK _ _ ?_; clear hK K)
             go_wp2
             exact ⟨⟨q + 1, by go_num, by omega, by omega, by rw [HNX.out]; rfl, hbw.trans ((below_plus wr bs3 d3).mono hbw.size)⟩, by simp [intOf]; omega⟩
        ·have iq : ¬ (q : Int) < 65 := by omega
         have hAx := HAX.out
         subst hAx
         obtain ⟨dvt, vt1, vt2⟩ := rowRst
         have hE0 : resE K ms (some S) = 0 := by
          rw [resE_some K ms S h0v, hok, Bool.true_and, if_pos]
          have := HFB.out
          rwa [show q - 1 = 64 by omega] at this
         have HS0 := Lib.hid (show rsvT K ms (some S) = resC K ms S from if_pos hE0)
         rw [hE0]
         obtain ⟨yb, ycs, hAy, hbase, hGb, hBk, hXb, hOb, hRb⟩ := hoy6.out (by rw [HCE.out, hok]; rfl)
         subst hAy
         have hvi := HVI.out
         obtain ⟨ha1, ha2, ha3, ha4⟩ := clnC_a hvi hok
         have HAV := Lib.hid (show (apC (clnC K i x0.1) (oR i ms)).vs = K.vs.set i (setV (clnV x0.1) ms) from ha1)
         have hil : i < K.vs.length := (List.getElem?_eq_some_iff.1 hvi).1
         obtain rfl : ny = i + 1 := by
          have h1 := hXb.n_
          rw [HAV.out, List.length_set] at h1
          have := HNR.out
          omega
         have hEyl : Ey.length = i + 1 := by
          have := hXb.len
          rw [HAV.out, List.length_set] at this
          have := HNR.out
          omega
         obtain ⟨ey, hey⟩ : ∃ ey, Ey[i]? = some ey := ⟨Ey[i]'(by omega), List.getElem?_eq_getElem _⟩
         have hey1 : ey.1 = setV (clnV x0.1) ms := by
          have h1 : (Ey.map (·.1))[i]? = some ey.1 := by rw [List.getElem?_map, hey]; rfl
          rw [hXb.vs, HAV.out, List.getElem?_set_self hil] at h1
          exact (Option.some.inj h1).symm
         have HFY := Lib.hid (show (Ey.flatMap rvC).length = (i + 1) * 81 by rw [flat_len rvC 81 rvC_len, hEyl])
         have hBkw := hBk.later hbw
         have hyw := h6y.later hbw
         have hbw2 := (hbx.later hB6).later hbw
         have hrw := (hbr.later hB6).later hbw
         have hy1 := HY1.out
         have hsx := hXx.ss _ (List.getElem_mem hEx)
         rw [hy1] at hsx
         have hrgx := fun W h => Bk_rvS (HRX.out W h)
         simp only [hy1] at hrgx
         obtain ⟨yB, hyB⟩ : ∃ yB, EX[0].2.B = yB := ⟨_, rfl⟩
         obtain ⟨ym, hym⟩ : ∃ ym, EX[0].2.m = ym := ⟨_, rfl⟩
         obtain ⟨yd, hyd⟩ : ∃ yd, EX[0].2.d = yd := ⟨_, rfl⟩
         simp only [hyB, hym, hyd] at hrgx hsx
         clear hyB hym hyd
         have HRS2 := Lib.hid hrgx
         have hybZ : ¬ yb = ky := fun e => hGb (.inr e)
         clear hrgx hy1 hBk
         go_upto_region 34 with (fail)
         refine wp_relS 10 225 rfl (by kernel_rfl) (by kernel_rfl) ?_
         apply Steps.o1 (MP.eq _) 1 rfl rfl
         ·intro FA x hO hD K hK
          have e18 := hO 18 (by kernel_rfl)
          simp only [eval_tmp, qgT, qgS, qgZ, qoS] at e18
          have ev18 := Lib.hid ((eval_tmp FA 18).trans e18)
          clear hO hD
          go_simp
          exact hK.out _ _ (Ex.refl _) rfl
         apply Steps.o1 (MP.eq _) 2 rfl rfl
         ·intro FA x hO hD K hK
          obtain ⟨e195, ev195⟩ := qE (hD 0 195 (by kernel_rfl))
          clear hO hD
          refine wanted_if rfl ?_
          refine wp_ld1 35 (.tmp 195) rfl ev195.out (hyw.later (below_plus _ _ _)) (rcC_vips _ hka hba _ (i + 1) cy) Tryd.underlying35 rfl ?_
          exact hK.out _ _ (Ex.refl _) rfl
         apply Steps.o1 (MP.eq _) 3 rfl rfl
         ·intro FA x hO hD K hK
          have e16 := hO 16 (by kernel_rfl)
          simp only [eval_tmp, qgT, qgS, qgZ, qoS] at e16
          have ev16 := Lib.hid ((eval_tmp FA 16).trans e16)
          clear hO hD
          go_simp
          exact hK.out _ _ (Ex.refl _) rfl
         apply Steps.o1 (MP.eq _) 4 rfl rfl
         ·intro FA x hO hD K hK
          have e10 := hO 10 (by kernel_rfl)
          simp only [eval_tmp, qgT, qgS, qgZ, qoS] at e10
          have ev10 := Lib.hid ((eval_tmp FA 10).trans e10)
          clear hO hD
          go_simp
          exact hK.out _ _ (Ex.refl _) rfl
         apply Steps.o1 (MP.eq _) 5 rfl rfl
         ·intro FA x hO hD K hK
          obtain ⟨e198, ev198⟩ := qE (hD 3 198 (by kernel_rfl))
          clear hO hD
          refine wanted_if rfl ?_
          refine wp_ld1 35 (.tmp 198) rfl ev198.out (hbw2.later (below_plus _ _ _)) (rcC_vips X hkx hbkx _ nx cx) Tryd.underlying35 rfl ?_
          exact hK.out _ _ (Ex.refl _) rfl
         apply Steps.o1 (MP.eq _) 6 rfl rfl
         ·intro FA x hO hD K hK
          obtain ⟨e199, ev199⟩ := qE (hD 4 199 (by kernel_rfl))
          clear hO hD
          go_simp
          exact hK.out _ _ (Ex.refl _) rfl
         apply Steps.o1 (MP.eq _) 7 rfl rfl
         ·intro FA x hO hD K hK
          obtain ⟨e200, ev200⟩ := qE (hD 5 200 (by kernel_rfl))
          clear hO hD
          go_simp
          exact hK.out _ _ (Ex.refl _) rfl
         apply Steps.o1 (MP.eq (.agg (rstC yB ym yd S).toArray)) 8 rfl rfl
         ·intro FA x hO hD K hK
          obtain ⟨e201, ev201⟩ := qE (hD 6 201 (by kernel_rfl))
          clear hO hD
          refine wanted_if rfl ?_
          refine wp_load_mid 60 (.tmp 201) rfl bx (ox + 7) ev201.out (rstC yB ym yd S) _ (HRS2.out _ (hbw.trans ((below_plus _ _ _).mono hbw.size))) vt1 vt2 (szRst _ _ _ _) ?_
          exact hK.out _ _ (Ex.refl _) rfl
         apply Steps.o1 (MP.eq _) 9 rfl rfl
         ·intro FA x hO hD K hK
          obtain ⟨e196, ev196⟩ := qE (hD 1 196 (by kernel_rfl))
          obtain ⟨e197, ev197⟩ := qE (hD 2 197 (by kernel_rfl))
          clear hO hD
          go_simp
          exact hK.out _ _ (Ex.refl _) rfl
         apply Steps.o1 (MP.eq _) 10 rfl rfl
         ·intro FA x hO hD K hK
          obtain ⟨e203, ev203⟩ := qE (hD 8 203 (by kernel_rfl))
          clear hO hD
          go_simp
          exact hK.out _ _ (Ex.refl _) rfl
         refine Steps.fin_ (fun vs x hp => ?_)
         have p0 : vs 0 = _ := hp 0 (by omega)
         have p1 : vs 1 = _ := hp 1 (by omega)
         have p2 : vs 2 = _ := hp 2 (by omega)
         have p3 : vs 3 = _ := hp 3 (by omega)
         have p4 : vs 4 = _ := hp 4 (by omega)
         have p5 : vs 5 = _ := hp 5 (by omega)
         have p6 : vs 6 = _ := hp 6 (by omega)
         have p7 : vs 7 = _ := hp 7 (by omega)
         have p8 : vs 8 = _ := hp 8 (by omega)
         have p9 : vs 9 = _ := hp 9 (by omega)
         clear hp
         simp only [List.take_succ_cons, List.take_zero, List.drop_succ_cons, List.drop_zero, putAll, Nat.zero_add, Nat.reduceAdd, Act.put, qsT, qsZ, qsS, p0, p1, p2, p3, p4, p5, p6, p7, p8, p9]
         clear p0 p1 p2 p3 p4 p5 p6 p7 p8 p9
         clear vs
         have hBkp := hBkw.later (below_plus wr x.bs x.d)
         have hbp := hbw.trans ((below_plus wr x.bs x.d).mono hbw.size)
         generalize plus wr x.bs x.d = Wp at *
         refine wpList_stM (t := 62) (off := i * 81 + 7) 60 (.tmp 204) (.tmp 202) rfl rfl (rstC yB ym yd S) (Ey.flatMap rvC ++ ycs) (by rw [List.length_append, HFY.out, rstC_len]; omega) (rstC_one _ _ _ _) rfl rfl hBkp (szRst _ _ _ _) ?_
         intro W7 h7 g7
         simp only [Act.put, qsT, qsZ, qsS]
         have hSst : RSt (fun k => (G1 k ∨ k = ky) ∨ k = yb) Wp S.lv yB ym yd := (hsx.more (fun k hk => hk.elim (fun h => h.elim .inl (fun e => .inr (by omega))) (fun e => .inr (by omega)))).later (hB6.trans (hbp.mono hB6.size))
         have hX7 := RcX.setStk (C := (apC (clnC K i x0.1) (oR i ms))) hXb.vs (by omega) hXb.row.2.1 hGb (fun x hx => (hXb.mm x hx).later hbp) (fun x hx => (hOb x hx).size hbp.size) (fun x hx => (hRb x hx).later hbp) hey hSst g7 h7
         have hBp := hB6.trans (hbp.mono hB6.size)
         have hB7 : Below Z0.heap.size Z0 W7 := below_grown hBp g7 hbase
         have hy7 := (h6y.later hbp).grown g7 (fun e => by injection e with e; omega)
         have hr7 := hbr.later hB7
         clear g7 h7 hBkp hbw2 hyw hBkw
         go_upto_region 35 with (fail)
         refine wp_region_lit ?_
         refine wpList_plain rfl (fun K hK => ?_); go_simp; with_reducible refine hK _ _ ?_; clear hK K
         refine wpList_ld1 (t := 37) (cs := rcC K Ar (i + 1) cr) 27 (.tmp 205) rfl rfl rfl hr7 (show (rcC K Ar (i + 1) cr)[0]? = some (.int .u64 (K.num : Int)) from rfl) Tryd.underlying27 rfl ?_
         refine wpList_plain rfl (fun K hK => ?_); go_simp; with_reducible refine hK _ _ ?_; clear hK K
         refine wpList_st1 (v := .int .u64 (K.num : Int)) (t := 37) (cs := rcC (apC (clnC K i x0.1) (oR i ms)) (some ⟨yb, 0, none⟩) (i + 1) cy) (off := 0) 27 (.tmp 207) (.tmp 206) rfl rfl rfl rfl hy7 (by rw [rcC_len _ hka hba]; omega) rfl (by kernel_rfl) ?_
         intro W8 h8 g8
         simp only [Act.put, qsT, qsZ, qsS]
         have hB8 : Below Z0.heap.size Z0 W8 := below_grown hB7 g8 hyk
         replace h8 : Bk W8 ky 37 (rcC (resC K ms S) (some ⟨yb, 0, none⟩) (i + 1) cy) := by
          have e : (rcC (apC (clnC K i x0.1) (oR i ms)) (some ⟨yb, 0, none⟩) (i + 1) cy).set 0 (.int .u64 (K.num : Int)) = rcC (resC K ms S) (some ⟨yb, 0, none⟩) (i + 1) cy := by
           unfold rcC
           rw [ha2, ha3, ha4]
           rfl
          rw [← e]
          exact h8
         have hX8 : RcX (fun k => G1 k ∨ k = ky) W8 (resC K ms S) (some ⟨yb, 0, none⟩) (i + 1) cy (Ey.set i ({ ey.1 with S := S }, { ey.2 with B := yB, m := ym, d := yd })) := by
          have h := hX7.chg (Chg.one (D := fun b => b = ky) g8 rfl) (fun b e => .inr e)
          refine ⟨h.vs.trans ?_, h.row, h.off, h.mm, h.mo, h.ss⟩
          show (apC (clnC K i x0.1) (oR i ms)).vs.set i _ = _
          rw [HAV.out, hey1, List.set_set, resC_at (by have := HNR.out; omega) hvi]
          rfl
         obtain ⟨Ac, nc, cc, Ec2, hXc⟩ := (show CfM G1 D1 Z0 g (resC K ms S) from HS0.out ▸ HP.out.m1)
         have h13 := h6.later hB8
         have be8 := be6.trans (hB8.mono be6.size)
         have HSM := Lib.hid (fun W (h : Below W8.heap.size W8 W) => show Calls Tryd.prog 13 #[.pointer (some ⟨g, 0, none⟩), .agg (rcC (resC K ms S) (some ⟨yb, 0, none⟩) (i + 1) cy).toArray] W (RetV W (.bool true)) from same22_any (resC K ms S) hk hb (fun v hv => by
          rw [resC_at (by have := HNR.out; omega) hvi] at hv
          rcases List.mem_or_eq_of_mem_set hv with h1 | rfl
          ·exact ⟨(HK.out.vs v h1).st, by have := okM_len (HK.out.vs v h1).ms; omega⟩
          ·exact ⟨hTT6.1, by have := okM_len hok; show ms.length ≤ 1000000; omega⟩) (by rw [resC_at (by have := HNR.out; omega) hvi]; show (K.vs.set i _).length ≤ 16; rw [List.length_set]; exact HK.out.vl) g Ac nc cc Ec2 (some ⟨yb, 0, none⟩) (i + 1) cy (Ey.set i ({ ey.1 with S := S }, { ey.2 with B := yB, m := ym, d := yd })) W ((hXc.later hB8).later h) (hX8.later h) (HT0.out.later (be8.trans (h.mono be8.size))))
         clear hX8 hXc hX7 hr7 hy7 g8 hB7 hBp hSst
         go_upto_region 37 with (fail)
         refine wp_region_lit ?_
         iterate 3 (refine wpList_plain rfl (fun K hK => ?_); go_simp; with_reducible refine hK _ _ ?_; clear hK K)
         refine wpList_step (fun K hK => ?_); go_simp; with_reducible refine hK _ _ ?_; clear hK K
         refine wpList_ldG (t := 37) 37 (.tmp 18) rfl (by go_simp) (rcC (resC K ms S) (some ⟨yb, 0, none⟩) (i + 1) cy) rfl (h8) (whole_ _) vs1 vs2 (szRcS (resC K ms S) hk hb _ _ _) ?_
         refine wpList_step (fun K hK => ?_)
         go_simp
         refine (HSM.out _ (Below.refl _ _)).mono ?_
         rintro e w1 ⟨bs3, d3, rfl, rfl⟩
         with_reducible refine hK _ _ ?_
         clear hK K
         have h13b := h13.later (below_plus W8 bs3 d3)
         iterate 2 (refine wpList_plain rfl (fun K hK => ?_); go_simp; with_reducible refine hK _ _ ?_; clear hK K)
         iterate 2 (refine wpList_step (fun K hK => ?_); go_simp; with_reducible refine hK _ _ ?_; clear hK K)
         refine wpList_ld1 (t := 53) (cs := vc) 51 (.tmp 217) rfl (by go_simp) rfl h13b hv7 Tryd.underlying51 rfl ?_
         refine wpList_step (fun K hK => ?_)
         go_simp
         refine (restoreNo_any none 0 0 p _).mono ?_
         rintro e w1 ⟨rfl, rfl⟩
         with_reducible refine hK _ _ ?_
         clear hK K
         refine wpList_step (fun K hK => ?_); go_simp; with_reducible refine hK _ _ ?_; clear hK K
         iterate 2 (refine wpList_plain rfl (fun K hK => ?_); go_simp; with_reducible refine hK _ _ ?_; clear hK K)
         refine wpList_step (fun K hK => ?_)
         go_simp
         refine (awake22 _).mono ?_
         rintro e w1 ⟨bs4, d4, rfl, rfl⟩
         with_reducible refine hK _ _ ?_
         clear hK K
         iterate 2 (refine wpList_plain rfl (fun K hK => ?_); go_simp; with_reducible refine hK _ _ ?_; clear hK K)
         go_wp2
         go_ret
         exact ⟨rfl, belowP (belowP be8 bs3 d3) bs4 d4⟩
     iterate 2
      focus
       rw [HE1.out]
       obtain ⟨Ac, nc, cc, Ec2, hXc⟩ := (show CfM G1 D1 Z0 g K from HS1.out ▸ HP.out.m1)
       have HSM := Lib.hid (fun W (h : Below Z6.heap.size Z6 W) => show Calls Tryd.prog 13 #[.pointer (some ⟨g, 0, none⟩), .agg (rcC K Ar (i + 1) cr).toArray] W (RetV W (.bool true)) from same22_any K hk hb (fun v hv => ⟨(HK.out.vs v hv).st, by have := okM_len (HK.out.vs v hv).ms; omega⟩) HK.out.vl g Ac nc cc Ec2 Ar (i + 1) cr Er W ((hXc.later hB6).later h) ((hXr.later hB6).later h) (HT0.out.later (be60.trans (h.mono be60.size))))
       go_upto_region 26 with (fail)
       refine wp_region_lit ?_
       iterate 2 (refine wpList_plain rfl (fun K hK => ?_); go_simp; with_reducible refine hK _ _ ?_; clear hK K)
       first | ((with_reducible refine wpList_skip ?_ ?_); (· first | (go_simp; done) | (go_simp; intro h; cases h)); simp only [Act.put, qsT, qsZ, qsS]) | (refine wpList_step (fun K hK => ?_); go_simp; (with_reducible refine hK _ _ ?_); clear hK K)
       first | ((with_reducible refine wpList_skip ?_ ?_); (· first | (go_simp; done) | (go_simp; intro h; cases h)); simp only [Act.put, qsT, qsZ, qsS]) | (refine wpList_step (fun K hK => ?_); go_simp; (with_reducible refine hK _ _ ?_); clear hK K)
       iterate 2 (refine wpList_plain rfl (fun K hK => ?_); go_simp; with_reducible refine hK _ _ ?_; clear hK K)
       go_upto_region 28 with (fail)
       go_loopw [20, 21, 22] (fun F I J wr => F = .bool false ∧ I = .int .i64 1 ∧ Below Z6.heap.size Z6 wr) (fun _ _ _ _ => 0)
       case atStart => exact ⟨rfl, rfl, Below.refl _ _⟩
       case round =>
        obtain ⟨rfl, rfl, hbw⟩ := hrel
        have hrw := (hbr.later hB6).later hbw
        go_upto_region 33 with (fail)
        refine wp_region_lit ?_
        iterate 3 (refine wpList_plain rfl (fun K hK => ?_); go_simp; with_reducible refine hK _ _ ?_; clear hK K)
        refine wpList_step (fun K hK => ?_); go_simp; with_reducible refine hK _ _ ?_; clear hK K
        refine wpList_ldG (t := 37) 37 (.tmp 8) rfl (by go_simp) (rcC K Ar (i + 1) cr) rfl (hrw) (whole_ _) vs1 vs2 (szRcS K hk hb _ _ _) ?_
        refine wpList_step (fun K hK => ?_)
        go_simp
        refine (HSM.out _ hbw).mono ?_
        rintro e w1 ⟨bs3, d3, rfl, rfl⟩
        with_reducible refine hK _ _ ?_
        clear hK K
        iterate 2 (refine wpList_plain rfl (fun K hK => ?_); go_simp; with_reducible refine hK _ _ ?_; clear hK K)
        refine wpList_step (fun K hK => ?_)
        go_simp
        refine (awake22 _).mono ?_
        rintro e w1 ⟨bs4, d4, rfl, rfl⟩
        with_reducible refine hK _ _ ?_
        clear hK K
        iterate 2 (refine wpList_plain rfl (fun K hK => ?_); go_simp; with_reducible refine hK _ _ ?_; clear hK K)
        go_wp2
        go_ret
        exact ⟨rfl, belowP (belowP (be60.trans (hbw.mono be60.size)) bs3 d3) bs4 d4⟩
theorem configRestores_row (W : World) (A : Option Addr) (k : Nat) (L : List OpX) (h1 : L.length ≤ k) (h2 : k ≤ maxLen) (h3 : Rd W W.heap.size A (L.flatMap OpX.cs)) (h4 : ∀ x ∈ L, x.ok W) (B : Option Addr) (k' : Nat) (M : List OpX) (g1 : M.length ≤ k') (g2 : k' ≤ maxLen) (g3 : Rd W W.heap.size B (M.flatMap OpX.cs)) (g4 : ∀ x ∈ M, x.ok W) (Q : Option Addr) (k2 : Nat) (ms : List (Int × Int)) (q1 : ms.length ≤ k2) (q2 : k2 ≤ maxLen) (q3 : Rd W W.heap.size Q (prs .i64 ms)) (hT : TabB W) :
  Calls Tryd.prog 3 #[.slice A L.length k, .slice B M.length k', .slice Q ms.length k2] W fun e W' => e = .returned (.bool true) ∧ Below W.heap.size W W' := by
 have e : maxLen ≤ 9223372036854775807 := by decide
 exact configRestores_walk L M A L.length k B M.length k' ms Q ms.length k2 W ⟨flat_len OpX.cs 11 OpX.cs_len L, h1, h3⟩ h4 (by omega) ⟨flat_len OpX.cs 11 OpX.cs_len M, g1, g3⟩ g4 (by omega) ⟨by simp only [prs_length], q1, q3⟩ (by omega) hT
end

section
open Go.ChangeShapes Go.WideShapes Go.ChangeAt Go.RowKit
theorem trodAll_below {H : Type} {enc : TypeId × Value → H} {P : Program} (hl : laidOutB P = true) {W W' : World} (hb : Below W.heap.size W W') :
  ∀ {ts : List TypeId} {vs : List Value} {ds : List (DataW H)} {ps : List MemPlace}, (ts.all fun t => P.readableRec t && decide (t < P.types.size)) = true →
   DataW.TrodAll enc P W 0 (fun _ => true) true ts vs ds ps → DataW.TrodAll enc P W' 0 (fun b => decide (b < W.heap.size)) true ts vs ds ps
 | [], vs, ds, ps, _, h => by
  obtain ⟨rfl, rfl, rfl⟩ := trodAll_nil h
  exact trodAll_mk0
 | t :: ts, vs, ds, ps, hr, h => by
  obtain ⟨v, vs', d, ds', p, q, rfl, rfl, rfl, h0, hs⟩ := trodAll_cons h
  simp only [List.all_cons, Bool.and_eq_true, decide_eq_true_eq] at hr
  have lt0 : ∀ x ∈ p, x.block < W.heap.size := by
   obtain ⟨m, hm⟩ := h0
   exact DataW.trod_lt m _ _ _ hm
  exact trodAll_cons_mk (Below.trod hl hr.1.1 hr.1.2 h0 hb lt0) (trodAll_below hl hb (by simpa using hr.2) hs)
end

section
open Go.ChangeShapes Go.WideShapes Go.ChangeAt Go.RowKit
theorem liftL {C : Checked} {os : Go.Os} {f : FuncId} {fn : Func} {s : ChangeSpec} {H : Type} {enc : TypeId × Value → H} {tb : TypeId} {X : World → Prop} (n : Nat) (hX : ∀ w w' : World, w.heap = w'.heap → X w → X w')
  (own : ownKnob C.prog.godebug = none) (started : os.Started) (noInit : C.prog.inits.idxOf? f = none) (hfn : C.prog.funcs[f]? = some fn)
  (witness : ∃ (w : World) (tape : Tape) (i : Input), w.os = os ∧ (w.forCall tape i).Shaped C.prog ∧ i.vars = [] ∧ Input.okWide C.prog (w.forCall tape i) .any w.heap.size f i ∧
   ((s.pre enc C.prog fn [] false (w.forCall tape i).memory i.args ∧ X (w.forCall tape i).memory) ∧ sizedMet enc C.prog fn (OpenSpec.ofChange s) false (w.forCall tape i).memory i.args) ∧ ({} : Assume).holds C.prog (lone (Frame.enter C.prog f i.args .normal) [] (w.forCall tape i)))
  (hl : laidOutB C.prog = true) (hrd : (fn.params.toList.all fun t => C.prog.readableRec t && decide (t < C.prog.types.size)) = true)
  (htb : C.prog.underlying tb = some .bool) (hres : fn.resultTypes = #[tb]) (hn : fn.params.toList.length = n) (hvars : s.vars = [])
  (hspec : ∀ ds : List (DataW H), ds.length = n → (s.fn H ds).results = [.lit (.bool true)] ∧ (s.fn H ds).args = ds ∧ (s.fn H ds).vars = [])
  (walk : ∀ (W : World) (base : Nat) (args : Array Value) (ds : List (DataW H)) (ps : List MemPlace),
   (∀ (j : Nat) t v, fn.params[j]? = some t → args[j]? = some v → Value.okWide C.prog W .any base t v) →
   DataW.TrodAll enc C.prog W 0 (fun _ => true) true fn.params.toList args.toList ds ps → X W →
   Calls C.prog f args W fun e W' => e = .returned (.bool true) ∧ Below W.heap.size W W') :
  ReturnsInHanded {} C os f .any (fun w args => (s.pre enc C.prog fn [] false w args ∧ X w) ∧ sizedMet enc C.prog fn (OpenSpec.ofChange s) false w args) (s.post enc C.prog fn false true false false) := by
 refine returnsInHanded_of_change_and (C := C) (X := fun w _ => X w) (fun w w' _ hh h => hX w w' hh h) own started noInit hfn witness ?_
 intro W base args ds gs before hval hW _ _ hXW _
 have hW' := hW
 obtain ⟨p, q, hA, hV, rfl, _, _⟩ := hW
 rw [hvars] at hV
 obtain ⟨rfl, rfl⟩ := trodVars_none hV
 have hlen : ds.length = n := by
  have aux : ∀ {ts : List TypeId} {vs : List Value} {ds : List (DataW H)} {ps : List MemPlace}, DataW.TrodAll enc C.prog W 0 (fun _ => true) true ts vs ds ps → ds.length = ts.length := by
   intro ts
   induction ts with
   | nil => intro vs ds ps h; obtain ⟨_, rfl, _⟩ := trodAll_nil h; rfl
   | cons t ts ih =>
    intro vs ds ps h
    obtain ⟨v, vs', d, ds', p, q, rfl, rfl, rfl, _, hs⟩ := trodAll_cons h
    simp [ih hs]
  rw [aux hA, hn]
 obtain ⟨r1, r2, r3⟩ := hspec ds hlen
 refine (walk W base args ds p hval hA hXW).mono fun e W' ⟨he, bel⟩ => ?_
 subst he
 refine ⟨_, rfl, ds, [], p ++ [], [], p, [], hW', ?_, ?_, ?_, bel.frame _, fun h => by cases h⟩
 ·simp only [List.append_nil, r1, hres]
  exact trodAll_mk1 (shut_bool htb _)
 ·simp only [List.append_nil, r2]
  exact trodAll_below hl bel hrd hA
 ·simp only [List.append_nil, r3, hvars]
  rfl
def laidTab : List (String × DataW Unit) := [("math/bits.deBruijn64tab", Rows.laid_math_bits_deBruijn64tab)]
theorem gTab : Tryd.prog.globalNamed "math/bits.deBruijn64tab" = some 0 := by kernel_rfl
theorem tTab : (Tryd.prog.globals[0]?).map (·.type) = some 150 := by kernel_rfl
theorem laid_list : (Rows.laid_math_bits_deBruijn64tab : DataW Unit) = .agg (deB.map fun b => .lit (.int .u8 (b.toNat : Int))) := by rfl
theorem of_laid {W : World} (h : laidMetH Tryd.prog laidTab W) : TabB W := by
 rw [MakeChecks.laidMetH_plain _ _ _ (by kernel_rfl)] at h
 obtain ⟨ps, ⟨g0, t0, cs0, f0, p0, q0, hg0, ht0, hv0, hd0, _, _⟩, _, hcell⟩ := h
 obtain rfl := Option.some.inj (gTab.symm.trans hg0)
 obtain rfl := Option.some.inj (tTab.symm.trans ht0)
 obtain ⟨xs, m1, rfl, hx1, hlen, hn3, hel⟩ := DataW.trod_array Tryd.underlying150 hd0
 have c1 : Tryd.prog.cellsOf 5 = 1 := by kernel_rfl
 have c64 : Tryd.prog.cellsOf 150 = 64 := by kernel_rfl
 rw [laid_list] at hx1
 have hx2 : (deB.map fun b => DataW.lit (Lit.int .u8 (b.toNat : Int))) = xs.map (·.1) := by
  have := congrArg Prod.fst hx1
  simpa using this
 have hc : ∀ j, j < 64 → W.cell? ⟨0, j, none⟩ = (bcs deB)[j]? := by
  intro j hj
  have h0 := hel j hj
  rw [c1, Nat.mul_one] at h0
  have hxj : xs[j]? = some (xs[j]'(by omega)) := List.getElem?_eq_getElem (by omega)
  rw [hxj] at h0
  obtain ⟨k, e1, e2, _⟩ := DataW.trod_int Tryd.underlying5 h0
  have hjc : j < cs0.toList.length := by rw [hlen, c64]; exact hj
  simp only [List.drop_eq_getElem_cons hjc, List.take_succ_cons, List.take_zero, List.cons.injEq, and_true] at e1
  rw [World.var?_cell hg0 hv0 j]
  have hja : j < cs0.size := by simpa using hjc
  rw [Array.getElem?_eq_getElem hja]
  have e3 : cs0[j] = .int .u8 k := by rw [← e1]; simp
  rw [e3, bcs_get deB j (by rw [deB_len]; exact hj)]
  have h4 := congrArg (fun L : List (DataW Unit) => L[j]?) hx2
  simp only [List.getElem?_map] at h4
  rw [hxj, List.getElem?_eq_getElem (show j < deB.length by rw [deB_len]; exact hj)] at h4
  simp only [Option.map_some, Option.some.injEq] at h4
  rw [e2] at h4
  simp only [DataW.lit.injEq, Lit.int.injEq, true_and] at h4
  rw [← h4]
 have hlt : 0 < W.heap.size := by
  have h1 := hc 0 (by decide)
  exact lt_of_cell (a := ⟨0, 0, none⟩) (h1.trans (bcs_get deB 0 (by decide)))
 refine ⟨deB_len, Nat.le_refl _, .inr ⟨0, 0, rfl, hlt, fun i u hu => ?_⟩⟩
 rw [Nat.zero_add]
 have hi : i < 64 := by
  rcases Nat.lt_or_ge i 64 with h' | h'
  ·exact h'
  ·rw [List.getElem?_eq_none (by rw [bcs_length, deB_len]; exact h')] at hu
   cases hu
 exact (hc i hi).trans hu
theorem door_met (os : Go.Os) (args : Array Value) : laidMetH Tryd.prog laidTab ((World.doorLaid Tryd.prog 2000 os).forCall (fun _ _ => 0) ⟨#[], args, []⟩).memory :=
 laidMetH_of_parts3 (fuel := 8) (laidMet_of_run' 8 (by kernel_rfl) (by kernel_rfl)) (by kernel_rfl) (by kernel_rfl)
end

end Go.Proofs.YtkecgdnmehgpjaaDoor
