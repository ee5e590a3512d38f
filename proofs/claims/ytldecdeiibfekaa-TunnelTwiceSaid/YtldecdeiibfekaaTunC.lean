/- The reference's Unwrap. -/
import Derived.Test.YtldecdeiibfekaaTunB
namespace Go.Proofs.Ytldecdeiibfekaa
open Go.RowKit
set_option linter.unusedVariables false
set_option linter.unusedSimpArgs false
attribute [local go_sem ↓] sliced_cut
attribute [local go_sem] cutA_zero

set_option maxHeartbeats 4000000 in
set_option maxRecDepth 100000 in
theorem refU_err (A : Option Addr) (n c : Nat) (l : List UInt8) (w : World) (h : Rb w A n c l) (N0 : Int) (B0 : Bool) (E0 : Int) (s0 : Sx l N0 B0 E0) (hE : (E0 != 0) = true) : Calls Try.prog 73 #[.slice A n c] w (RetTW w [] false 0 0 false 0 0 0 E0) := by
  obtain ⟨dy, y1, y2⟩ := rowRWy
  have HS0 := Lib.hid (fun w (h : Rb w A n c l) => refSix A n c l w h _ _ _ s0)
  have HF0 := Lib.hid (fun w => refFault l _ _ _ s0 w)
  clear s0
  have b3 : Bk (w.alloc (.cells #[.bool false, .int .u64 0, .int .u64 0, .bool false, .int .u64 0, .int .u64 0, .int .u8 0] 129)) w.heap.size 129 (wyC false 0 0 false 0 0 0) := Bk.new w 129 #[.bool false, .int .u64 0, .int .u64 0, .bool false, .int .u64 0, .int .u64 0, .int .u8 0]
  have be : Below w.heap.size w (w.alloc (.cells #[.bool false, .int .u64 0, .int .u64 0, .bool false, .int .u64 0, .int .u64 0, .int .u8 0] 129)) := Below.allocS (Below.refl _ _) _
  go_enter Try.func73, Try.ntmps73
  go_upto_region 1 with (fail)
  have zV : w.heap.size + 1 ≤ (w.alloc (.cells #[.bool false, .int .u64 0, .int .u64 0, .bool false, .int .u64 0, .int .u64 0, .int .u8 0] 129)).heap.size := by simp
  generalize w.alloc (.cells #[.bool false, .int .u64 0, .int .u64 0, .bool false, .int .u64 0, .int .u64 0, .int .u8 0] 129) = V at *
  have zb3 : w.heap.size < V.heap.size := zV
  clear zV
  go_wp2_with fail
  refine (HS0.out _ (h.later be)).mono ?_
  rintro e w1 ⟨rfl, rfl⟩
  go_wp2_with fail
  refine (HF0.out _).mono ?_
  rintro e w1 ⟨rfl, rfl⟩
  go_wp2_with fail
  refine (HF0.out _).mono ?_
  rintro e w1 ⟨rfl, rfl⟩
  go_wp2_with (refine at_op (.store 129 (.tmp 3) (.tmp 22)) rfl ?_; refine wpList_stA (t := 129) 129 (.tmp 3) (.tmp 22) rfl rfl (wyC false 0 0 false 0 0 0) (wyC false 0 0 false 0 0 0) rfl (wyC_one _ _ _ _ _ _ _) rfl rfl (by with_reducible repeat (first | exact b3 | refine Bk.later ?_ (below_plus _ _ _) | refine Bk.alloc ?_ _)) (szRWy _ _ _ _ _ _ _) ?_; intro W9 h9 g9)
  refine bodyPost_o3 Try.results73 rfl rfl rfl h9.range y1 y2 (szRWy _ _ _ _ _ _ _) rfl ?_
  exact RetTW.mk Rb.nil_ (below_grown be g9 (by omega))
set_option maxHeartbeats 4000000 in
set_option maxRecDepth 100000 in
theorem refU6 (A : Option Addr) (n c : Nat) (l : List UInt8) (w : World) (h : Rb w A n c l) (s0 : Sx l 6 true 0) (cl lb ln nx ht : Nat) (s6 : Bool) (sh sl dh dl : Nat) (load : List UInt8) (E1 : Int) (ok : Bool) (E : Int) (F : Fate load nx E1 ok E) (HP : ∀ w', Below w.heap.size w w' → Calls Try.prog 139 #[.slice A n c] w' (RetP6 w' cl lb ln nx ht s6 sh sl dh dl load E1)) : Calls Try.prog 73 #[.slice A n c] w (RetTF w load s6 sh sl s6 dh dl ht ok E) := by
  obtain ⟨dy, y1, y2⟩ := rowRWy
  obtain ⟨du, u1, u2⟩ := rowR6
  obtain ⟨dv, v1, v2⟩ : ∃ d, Try.prog.underlying 29 = some d ∧ d.isRow = true := ⟨_, Try.underlying29, rfl⟩
  have HS0 := Lib.hid (fun w (h : Rb w A n c l) => refSix A n c l w h _ _ _ s0)
  have HF0 := Lib.hid (fun w => refFault l _ _ _ s0 w)
  replace HP := Lib.hid HP
  clear s0
  have b3 : Bk (w.alloc (.cells #[.bool false, .int .u64 0, .int .u64 0, .bool false, .int .u64 0, .int .u64 0, .int .u8 0] 129)) w.heap.size 129 (wyC false 0 0 false 0 0 0) := Bk.new w 129 #[.bool false, .int .u64 0, .int .u64 0, .bool false, .int .u64 0, .int .u64 0, .int .u8 0]
  have be : Below w.heap.size w (w.alloc (.cells #[.bool false, .int .u64 0, .int .u64 0, .bool false, .int .u64 0, .int .u64 0, .int .u8 0] 129)) := Below.allocS (Below.refl _ _) _
  go_enter Try.func73, Try.ntmps73
  go_upto_region 1 with (fail)
  have zV : w.heap.size + 1 ≤ (w.alloc (.cells #[.bool false, .int .u64 0, .int .u64 0, .bool false, .int .u64 0, .int .u64 0, .int .u8 0] 129)).heap.size := by simp
  generalize w.alloc (.cells #[.bool false, .int .u64 0, .int .u64 0, .bool false, .int .u64 0, .int .u64 0, .int .u8 0] 129) = V at *
  have zb3 : w.heap.size < V.heap.size := zV
  clear zV
  go_wp2_with fail
  refine (HS0.out _ (h.later be)).mono ?_
  rintro e w1 ⟨rfl, rfl⟩
  go_wp2_with fail
  refine (HF0.out _).mono ?_
  rintro e w1 ⟨rfl, rfl⟩
  go_upto_region 7 with (fail)
  have hX : Bk (V.alloc (.cells #[.bool false, .int .u64 0, .int .u64 0, .bool false, .int .u64 0, .int .u64 0, .int .u8 0] 129)) V.heap.size 129 (wyC false 0 0 false 0 0 0) := Bk.new V 129 #[.bool false, .int .u64 0, .int .u64 0, .bool false, .int .u64 0, .int .u64 0, .int .u8 0]
  replace b3 := b3.alloc (.cells #[.bool false, .int .u64 0, .int .u64 0, .bool false, .int .u64 0, .int .u64 0, .int .u8 0] 129)
  replace be := Below.allocS be (.cells #[.bool false, .int .u64 0, .int .u64 0, .bool false, .int .u64 0, .int .u64 0, .int .u8 0] 129)
  have zg : V.heap.size < (V.alloc (.cells #[.bool false, .int .u64 0, .int .u64 0, .bool false, .int .u64 0, .int .u64 0, .int .u8 0] 129)).heap.size := by simp
  generalize V.alloc (.cells #[.bool false, .int .u64 0, .int .u64 0, .bool false, .int .u64 0, .int .u64 0, .int .u8 0] 129) = V1 at *
  generalize V.heap.size = g8 at *
  go_wp2_with fail
  refine (HP.out _ be).mono ?_
  rintro e w1 ⟨A1, n1, k1, bs1, d1, rfl, rfl, hl, hf⟩
  go_upto_region 10 with (refine at_op (.store 205 (.tmp 10) (.tmp 30)) rfl ?_; refine wpList_stA (t := 205) 205 (.tmp 10) (.tmp 30) rfl rfl (h6C cl lb (ln : Int) nx ht s6 sh sl s6 dh dl) (h6C 0 0 0 0 0 false 0 0 false 0 0) rfl (h6C_one _ _ _ _ _ _ _ _ _ _ _) rfl rfl ?_ (szR6 _ _ _ _ _ _ _ _ _ _ _) ?_; (· refine Bk.newK _ _ _ ?_ rfl; simp [size_plus]); intro W2 hH gr2)
  have z0 := be.size
  have b2 := below_grown (Below.allocS (below_plus V1 bs1 d1) _) gr2 (by omega)
  replace be := be.trans (b2.mono z0)
  replace b3 := b3.later b2
  replace hX := hX.later b2
  replace hl := hl.later (below_grown (Below.allocS (Below.refl _ _) _) gr2 (by simp [size_plus]))
  have hgh : g8 < V1.heap.size + bs1.length := by omega
  clear b2 gr2
  generalize V1.heap.size + bs1.length = gh at *
  have nH : ¬ (fun b => b = g8) gh := fun h => by have h' : gh = g8 := h; omega
  go_wp2
  refine wp_suS (fun b => b = g8) 15 99 2 [13] rfl (by kernel_rfl) (by kernel_rfl) (fun k w' => Bk w' g8 129 (if k = 0 then wyC false 0 0 false 0 0 0 else wyC s6 sh sl s6 dh dl ht)) (fun k w w' h h' => h.later h'.below) (hX) ?_
  apply StepsC.one (MC.eq _) 1 rfl (by decide)
  · intro o ho FA w' hC hO hD K hK
    obtain rfl := Option.some.inj ho.symm
    clear ho
    have e11 := hO 11 (by kernel_rfl)
    simp only [eval_tmp, List.getElem?_toArray, List.getElem?_cons_succ, List.getElem?_cons_zero, Option.getD_some] at e11
    have ev11 := Lib.hid ((eval_tmp FA 11).trans e11)
    clear hO hD
    go_simp
    exact hK.out _ _ (Ex.refl _) rfl
  apply StepsC.one (MC.eq _) 2 rfl (by decide)
  · intro o ho FA w' hC hO hD K hK
    obtain rfl := Option.some.inj ho.symm
    clear ho
    have e10 := hO 10 (by kernel_rfl)
    simp only [eval_tmp, List.getElem?_toArray, List.getElem?_cons_succ, List.getElem?_cons_zero, Option.getD_some] at e10
    have ev10 := Lib.hid ((eval_tmp FA 10).trans e10)
    clear hO hD
    go_simp
    exact hK.out _ _ (Ex.refl _) rfl
  apply StepsC.one (MC.eq _) 3 rfl (by decide)
  · intro o ho FA w' hC hO hD K hK
    obtain rfl := Option.some.inj ho.symm
    clear ho
    have ev34 : FA.eval (.tmp 34) = _ := hD 1 34 (by kernel_rfl)
    have e34 := (eval_tmp FA 34).symm.trans ev34
    replace ev34 := Lib.hid ev34
    clear hO hD
    refine wanted_if rfl ?_
    refine wp_ld1 5 (.tmp 34) rfl ev34.out (hH.chg hC nH) rfl Try.underlying5 rfl ?_
    exact hK.out _ _ (Ex.refl _) rfl
  apply StepsC.one (MC.eq _) 4 rfl (by decide)
  · intro o ho FA w' hC hO hD K hK
    obtain rfl := Option.some.inj ho.symm
    clear ho
    have e10 := hO 10 (by kernel_rfl)
    simp only [eval_tmp, List.getElem?_toArray, List.getElem?_cons_succ, List.getElem?_cons_zero, Option.getD_some] at e10
    have ev10 := Lib.hid ((eval_tmp FA 10).trans e10)
    clear hO hD
    go_simp
    exact hK.out _ _ (Ex.refl _) rfl
  apply StepsC.one (MC.eq _) 5 rfl (by decide)
  · intro o ho FA w' hC hO hD K hK
    obtain rfl := Option.some.inj ho.symm
    clear ho
    have ev36 : FA.eval (.tmp 36) = _ := hD 3 36 (by kernel_rfl)
    have e36 := (eval_tmp FA 36).symm.trans ev36
    replace ev36 := Lib.hid ev36
    clear hO hD
    refine wanted_if rfl ?_
    refine wp_ldA 29 (.tmp 36) rfl ([.bool s6, .int .u64 (sh : Int), .int .u64 (sl : Int)]) ev36.out (hH.chg hC nH) rfl v1 v2 (szAd _ _ _) ?_
    exact hK.out _ _ (Ex.refl _) rfl
  apply StepsC.one (MC.eq _) 6 rfl (by decide)
  · intro o ho FA w' hC hO hD K hK
    obtain rfl := Option.some.inj ho.symm
    clear ho
    have e10 := hO 10 (by kernel_rfl)
    simp only [eval_tmp, List.getElem?_toArray, List.getElem?_cons_succ, List.getElem?_cons_zero, Option.getD_some] at e10
    have ev10 := Lib.hid ((eval_tmp FA 10).trans e10)
    clear hO hD
    go_simp
    exact hK.out _ _ (Ex.refl _) rfl
  apply StepsC.one (MC.eq _) 7 rfl (by decide)
  · intro o ho FA w' hC hO hD K hK
    obtain rfl := Option.some.inj ho.symm
    clear ho
    have ev38 : FA.eval (.tmp 38) = _ := hD 5 38 (by kernel_rfl)
    have e38 := (eval_tmp FA 38).symm.trans ev38
    replace ev38 := Lib.hid ev38
    clear hO hD
    refine wanted_if rfl ?_
    refine wp_ldA 29 (.tmp 38) rfl ([.bool s6, .int .u64 (dh : Int), .int .u64 (dl : Int)]) ev38.out (hH.chg hC nH) rfl v1 v2 (szAd _ _ _) ?_
    exact hK.out _ _ (Ex.refl _) rfl
  apply StepsC.one (MC.eq _) 8 rfl (by decide)
  · intro o ho FA w' hC hO hD K hK
    obtain rfl := Option.some.inj ho.symm
    clear ho
    have e10 := hO 10 (by kernel_rfl)
    simp only [eval_tmp, List.getElem?_toArray, List.getElem?_cons_succ, List.getElem?_cons_zero, Option.getD_some] at e10
    have ev10 := Lib.hid ((eval_tmp FA 10).trans e10)
    clear hO hD
    go_simp
    exact hK.out _ _ (Ex.refl _) rfl
  apply StepsC.one (MC.eq _) 9 rfl (by decide)
  · intro o ho FA w' hC hO hD K hK
    obtain rfl := Option.some.inj ho.symm
    clear ho
    have ev40 : FA.eval (.tmp 40) = _ := hD 7 40 (by kernel_rfl)
    have e40 := (eval_tmp FA 40).symm.trans ev40
    replace ev40 := Lib.hid ev40
    clear hO hD
    refine wanted_if rfl ?_
    refine wp_ld1 5 (.tmp 40) rfl ev40.out (hH.chg hC nH) rfl Try.underlying5 rfl ?_
    exact hK.out _ _ (Ex.refl _) rfl
  apply StepsC.one (MC.eq _) 10 rfl (by decide)
  · intro o ho FA w' hC hO hD K hK
    obtain rfl := Option.some.inj ho.symm
    clear ho
    have ev37 : FA.eval (.tmp 37) = _ := hD 4 37 (by kernel_rfl)
    have e37 := (eval_tmp FA 37).symm.trans ev37
    replace ev37 := Lib.hid ev37
    have ev39 : FA.eval (.tmp 39) = _ := hD 6 39 (by kernel_rfl)
    have e39 := (eval_tmp FA 39).symm.trans ev39
    replace ev39 := Lib.hid ev39
    have ev41 : FA.eval (.tmp 41) = _ := hD 8 41 (by kernel_rfl)
    have e41 := (eval_tmp FA 41).symm.trans ev41
    replace ev41 := Lib.hid ev41
    clear hO hD
    go_simp
    exact hK.out _ _ (Ex.refl _) rfl
  apply StepsC.one (MC.eq _) 11 rfl (by decide)
  · intro o ho FA w' hC hO hD K hK
    obtain rfl := Option.some.inj ho.symm
    clear ho
    have e12 := hO 12 (by kernel_rfl)
    simp only [eval_tmp, List.getElem?_toArray, List.getElem?_cons_succ, List.getElem?_cons_zero, Option.getD_some] at e12
    have ev12 := Lib.hid ((eval_tmp FA 12).trans e12)
    clear hO hD
    go_simp
    exact hK.out _ _ (Ex.refl _) rfl
  apply StepsC.one (MC.eq _) 12 rfl (by decide)
  · intro o ho FA w' hC hO hD K hK
    obtain rfl := Option.some.inj ho.symm
    clear ho
    have ev33 : FA.eval (.tmp 33) = _ := hD 0 33 (by kernel_rfl)
    have e33 := (eval_tmp FA 33).symm.trans ev33
    replace ev33 := Lib.hid ev33
    clear hO hD
    go_simp
    exact hK.out _ _ (Ex.refl _) rfl
  apply StepsC.one (MC.eq _) 13 rfl (by decide)
  · intro o ho FA w' hC hO hD K hK
    obtain rfl := Option.some.inj ho.symm
    clear ho
    have ev35 : FA.eval (.tmp 35) = _ := hD 2 35 (by kernel_rfl)
    have e35 := (eval_tmp FA 35).symm.trans ev35
    replace ev35 := Lib.hid ev35
    clear hO hD
    go_simp
    exact hK.out _ _ (Ex.refl _) rfl
  apply StepsC.mov MC.any 14 0 rfl rfl rfl
  · intro o ho FA w' hC hO hD hS K hK
    obtain rfl := Option.some.inj ho.symm
    clear ho
    have e8 := hO 8 (by kernel_rfl)
    simp only [eval_tmp, List.getElem?_toArray, List.getElem?_cons_succ, List.getElem?_cons_zero, Option.getD_some] at e8
    have ev8 := Lib.hid ((eval_tmp FA 8).trans e8)
    have ev42 : FA.eval (.tmp 42) = _ := hD 9 42 (by kernel_rfl)
    have e42 := (eval_tmp FA 42).symm.trans ev42
    replace ev42 := Lib.hid ev42
    clear hO hD
    refine wanted_if rfl ?_
    refine wp_stA 129 (.tmp 8) (.tmp 42) rfl (wyC s6 sh sl s6 dh dl ht) (wyC false 0 0 false 0 0 0) rfl (wyC_one _ _ _ _ _ _ _) ev8.out ev42.out hS (szRWy _ _ _ _ _ _ _) ?_
    intro w'' hn hg
    exact hK.out undef _ (Chg.one hg rfl) hn trivial
  apply StepsC.one (MC.eq _) 15 rfl (by decide)
  · intro o ho FA w' hC hO hD K hK
    obtain rfl := Option.some.inj ho.symm
    clear ho
    have ev43 : FA.eval (.tmp 43) = _ := hD 10 43 (by kernel_rfl)
    have e43 := (eval_tmp FA 43).symm.trans ev43
    replace ev43 := Lib.hid ev43
    clear hO hD
    go_simp
    exact hK.out _ _ (Ex.refl _) rfl
  refine StepsC.fin_ (fun vs w' hC hS hp => ?_)
  have p0 : vs 0 = _ := hp 0 (by omega) rfl
  have p1 : vs 1 = _ := hp 1 (by omega) rfl
  have p2 : vs 2 = _ := hp 2 (by omega) rfl
  have p3 : vs 3 = _ := hp 3 (by omega) rfl
  have p4 : vs 4 = _ := hp 4 (by omega) rfl
  have p5 : vs 5 = _ := hp 5 (by omega) rfl
  have p6 : vs 6 = _ := hp 6 (by omega) rfl
  have p7 : vs 7 = _ := hp 7 (by omega) rfl
  have p8 : vs 8 = _ := hp 8 (by omega) rfl
  have p9 : vs 9 = _ := hp 9 (by omega) rfl
  have p10 : vs 10 = _ := hp 10 (by omega) rfl
  have p11 : vs 11 = _ := hp 11 (by omega) rfl
  have p12 : vs 12 = _ := hp 12 (by omega) rfl
  have p14 : vs 14 = _ := hp 14 (by omega) rfl
  clear hp
  simp only [List.take_succ_cons, List.take_zero, List.drop_succ_cons, List.drop_zero, putAll, Nat.zero_add, Nat.reduceAdd, Act.put, List.setIfInBounds_toArray, List.set_cons_zero, List.set_cons_succ, p0, p1, p2, p3, p4, p5, p6, p7, p8, p9, p10, p11, p12, p14]
  clear p0 p1 p2 p3 p4 p5 p6 p7 p8 p9 p10 p11 p12 p14
  clear vs
  replace hX : Bk w' g8 129 (wyC s6 sh sl s6 dh dl ht) := hS
  replace hl := hl.chg hC (fun a ha h => by have h' : a.block = g8 := h; have := hf a ha; omega)
  replace b3 := b3.chg hC (fun h => by have h' : w.heap.size = g8 := h; omega)
  replace hH := hH.chg hC nH
  replace be : Below w.heap.size w w' := be.trans (hC.below (B := w.heap.size) (fun b hb => by have : b = g8 := hb; omega) be.size)
  clear hS hC nH
  rcases F with hE | ⟨hE, h4, h41⟩ | ⟨N, B, _, s, hE, hnr, hE2⟩ | ⟨N, B, s, hE, hN⟩ | ⟨N, B, s, hE, hN⟩
  ·
    go_wp2_with (refine at_op (.store 129 (.tmp 3) (.tmp 74)) rfl ?_; refine wpList_stA (t := 129) 129 (.tmp 3) (.tmp 74) rfl rfl (wyC false 0 0 false 0 0 0) (wyC false 0 0 false 0 0 0) rfl (wyC_one _ _ _ _ _ _ _) rfl rfl (by with_reducible repeat (first | exact b3 | refine Bk.later ?_ (below_plus _ _ _) | refine Bk.alloc ?_ _)) (szRWy _ _ _ _ _ _ _) ?_; intro W9 h9 g9)
    refine bodyPost_o3 Try.results73 rfl rfl rfl h9.range y1 y2 (szRWy _ _ _ _ _ _ _) rfl ?_
    exact RetTW.mk Rb.nil_ (below_grown be g9 (by omega))
  ·
    subst hE
    go_wp2_with (refine at_op (.store 129 (.tmp 3) (.tmp 82)) rfl ?_; refine wpList_stA (t := 129) 129 (.tmp 3) (.tmp 82) rfl rfl (wyC false 0 0 false 0 0 0) (wyC false 0 0 false 0 0 0) rfl (wyC_one _ _ _ _ _ _ _) rfl rfl (by with_reducible repeat (first | exact b3 | refine Bk.later ?_ (below_plus _ _ _) | refine Bk.alloc ?_ _)) (szRWy _ _ _ _ _ _ _) ?_; intro W9 h9 g9)
    refine bodyPost_o3 Try.results73 rfl rfl rfl h9.range y1 y2 (szRWy _ _ _ _ _ _ _) rfl ?_
    exact RetTW.mk Rb.nil_ (below_grown be g9 (by omega))
  ·
    subst hE
    rcases hnr with hnr | hnr
    ·
      have f1 : ((nx : Int) != 4) = false := by rw [hnr]; rfl
      have f2 : ((nx : Int) == 41) = false := by rw [hnr]; rfl
      have f3 : ((nx : Int) != 41) = true := by rw [hnr]; rfl
      clear hnr
      go_wp2_with fail
      refine (refSix _ _ _ _ _ hl _ _ _ s).mono ?_
      rintro e w1 ⟨rfl, rfl⟩
      go_wp2_with fail
      refine (refFault _ _ _ _ s _).mono ?_
      rintro e w1 ⟨rfl, rfl⟩
      go_wp2_with fail
      refine (refFault _ _ _ _ s _).mono ?_
      rintro e w1 ⟨rfl, rfl⟩
      go_wp2_with (refine at_op (.store 129 (.tmp 3) (.tmp 88)) rfl ?_; refine wpList_stA (t := 129) 129 (.tmp 3) (.tmp 88) rfl rfl (wyC false 0 0 false 0 0 0) (wyC false 0 0 false 0 0 0) rfl (wyC_one _ _ _ _ _ _ _) rfl rfl (by with_reducible repeat (first | exact b3 | refine Bk.later ?_ (below_plus _ _ _) | refine Bk.alloc ?_ _)) (szRWy _ _ _ _ _ _ _) ?_; intro W9 h9 g9)
      refine bodyPost_o3 Try.results73 rfl rfl rfl h9.range y1 y2 (szRWy _ _ _ _ _ _ _) rfl ?_
      exact RetTW.mk Rb.nil_ (below_grown be g9 (by omega))
    ·
      have f1 : ((nx : Int) != 4) = true := by rw [hnr]; rfl
      have f2 : ((nx : Int) == 41) = true := by rw [hnr]; rfl
      have f3 : ((nx : Int) != 41) = false := by rw [hnr]; rfl
      clear hnr
      go_wp2_with fail
      refine (refSix _ _ _ _ _ hl _ _ _ s).mono ?_
      rintro e w1 ⟨rfl, rfl⟩
      go_wp2_with fail
      refine (refFault _ _ _ _ s _).mono ?_
      rintro e w1 ⟨rfl, rfl⟩
      go_wp2_with fail
      refine (refFault _ _ _ _ s _).mono ?_
      rintro e w1 ⟨rfl, rfl⟩
      go_wp2_with (refine at_op (.store 129 (.tmp 3) (.tmp 88)) rfl ?_; refine wpList_stA (t := 129) 129 (.tmp 3) (.tmp 88) rfl rfl (wyC false 0 0 false 0 0 0) (wyC false 0 0 false 0 0 0) rfl (wyC_one _ _ _ _ _ _ _) rfl rfl (by with_reducible repeat (first | exact b3 | refine Bk.later ?_ (below_plus _ _ _) | refine Bk.alloc ?_ _)) (szRWy _ _ _ _ _ _ _) ?_; intro W9 h9 g9)
      refine bodyPost_o3 Try.results73 rfl rfl rfl h9.range y1 y2 (szRWy _ _ _ _ _ _ _) rfl ?_
      exact RetTW.mk Rb.nil_ (below_grown be g9 (by omega))
  ·
    subst hE
    rcases hN with ⟨rfl, rfl, hnr⟩ | ⟨rfl, rfl, hnr⟩
    ·
      have f1 : ((nx : Int) != 4) = false := by rw [hnr]; rfl
      have f2 : ((nx : Int) == 41) = false := by rw [hnr]; rfl
      have f3 : ((nx : Int) != 41) = true := by rw [hnr]; rfl
      clear hnr
      go_wp2_with fail
      refine (refSix _ _ _ _ _ hl _ _ _ s).mono ?_
      rintro e w1 ⟨rfl, rfl⟩
      go_wp2_with fail
      refine (refFault _ _ _ _ s _).mono ?_
      rintro e w1 ⟨rfl, rfl⟩
      go_wp2_with (refine at_op (.store 129 (.tmp 3) (.tmp 96)) rfl ?_; refine wpList_stA (t := 129) 129 (.tmp 3) (.tmp 96) rfl rfl (wyC false 0 0 false 0 0 0) (wyC false 0 0 false 0 0 0) rfl (wyC_one _ _ _ _ _ _ _) rfl rfl (by with_reducible repeat (first | exact b3 | refine Bk.later ?_ (below_plus _ _ _) | refine Bk.alloc ?_ _)) (szRWy _ _ _ _ _ _ _) ?_; intro W9 h9 g9)
      refine bodyPost_o3 Try.results73 rfl rfl rfl h9.range y1 y2 (szRWy _ _ _ _ _ _ _) rfl ?_
      exact RetTW.mk Rb.nil_ (below_grown be g9 (by omega))
    ·
      have f1 : ((nx : Int) != 4) = true := by rw [hnr]; rfl
      have f2 : ((nx : Int) == 41) = true := by rw [hnr]; rfl
      have f3 : ((nx : Int) != 41) = false := by rw [hnr]; rfl
      clear hnr
      go_wp2_with fail
      refine (refSix _ _ _ _ _ hl _ _ _ s).mono ?_
      rintro e w1 ⟨rfl, rfl⟩
      go_wp2_with fail
      refine (refFault _ _ _ _ s _).mono ?_
      rintro e w1 ⟨rfl, rfl⟩
      go_wp2_with (refine at_op (.store 129 (.tmp 3) (.tmp 96)) rfl ?_; refine wpList_stA (t := 129) 129 (.tmp 3) (.tmp 96) rfl rfl (wyC false 0 0 false 0 0 0) (wyC false 0 0 false 0 0 0) rfl (wyC_one _ _ _ _ _ _ _) rfl rfl (by with_reducible repeat (first | exact b3 | refine Bk.later ?_ (below_plus _ _ _) | refine Bk.alloc ?_ _)) (szRWy _ _ _ _ _ _ _) ?_; intro W9 h9 g9)
      refine bodyPost_o3 Try.results73 rfl rfl rfl h9.range y1 y2 (szRWy _ _ _ _ _ _ _) rfl ?_
      exact RetTW.mk Rb.nil_ (below_grown be g9 (by omega))
  ·
    subst hE
    rcases hN with ⟨rfl, rfl, hnr⟩ | ⟨rfl, rfl, hnr⟩
    ·
      have f1 : ((nx : Int) != 4) = false := by rw [hnr]; rfl
      have f2 : ((nx : Int) == 41) = false := by rw [hnr]; rfl
      have f3 : ((nx : Int) != 41) = true := by rw [hnr]; rfl
      clear hnr
      go_wp2_with fail
      refine (refSix _ _ _ _ _ hl _ _ _ s).mono ?_
      rintro e w1 ⟨rfl, rfl⟩
      go_wp2_with fail
      refine (refFault _ _ _ _ s _).mono ?_
      rintro e w1 ⟨rfl, rfl⟩
      go_upto_region 24 with (fail)
      have nX : ¬ (fun b => b = w.heap.size) g8 := fun h => by have h' : g8 = w.heap.size := h; omega
      go_wp2
      refine wp_suS (fun b => b = w.heap.size) 5 99 2 [3] rfl (by kernel_rfl) (by kernel_rfl) (fun k w' => Bk w' w.heap.size 129 (if k = 0 then wyC false 0 0 false 0 0 0 else wyC s6 sh sl s6 dh dl ht)) (fun k w w' h h' => h.later h'.below) (b3) ?_
      apply StepsC.one (MC.eq _) 1 rfl (by decide)
      · intro o ho FA w' hC hO hD K hK
        obtain rfl := Option.some.inj ho.symm
        clear ho
        have e6 := hO 6 (by kernel_rfl)
        simp only [eval_tmp, List.getElem?_toArray, List.getElem?_cons_succ, List.getElem?_cons_zero, Option.getD_some] at e6
        have ev6 := Lib.hid ((eval_tmp FA 6).trans e6)
        clear hO hD
        go_simp
        exact hK.out _ _ (Ex.refl _) rfl
      apply StepsC.one (MC.eq _) 2 rfl (by decide)
      · intro o ho FA w' hC hO hD K hK
        obtain rfl := Option.some.inj ho.symm
        clear ho
        have e8 := hO 8 (by kernel_rfl)
        simp only [eval_tmp, List.getElem?_toArray, List.getElem?_cons_succ, List.getElem?_cons_zero, Option.getD_some] at e8
        have ev8 := Lib.hid ((eval_tmp FA 8).trans e8)
        clear hO hD
        refine wanted_if rfl ?_
        refine wp_ldA 129 (.tmp 8) rfl (wyC s6 sh sl s6 dh dl ht) ev8.out (hX.chg hC nX) (whole_ _) y1 y2 (szRWy _ _ _ _ _ _ _) ?_
        exact hK.out _ _ (Ex.refl _) rfl
      apply StepsC.one (MC.eq _) 3 rfl (by decide)
      · intro o ho FA w' hC hO hD K hK
        obtain rfl := Option.some.inj ho.symm
        clear ho
        have ev97 : FA.eval (.tmp 97) = _ := hD 0 97 (by kernel_rfl)
        have e97 := (eval_tmp FA 97).symm.trans ev97
        replace ev97 := Lib.hid ev97
        clear hO hD
        go_simp
        exact hK.out _ _ (Ex.refl _) rfl
      apply StepsC.mov MC.any 4 0 rfl rfl rfl
      · intro o ho FA w' hC hO hD hS K hK
        obtain rfl := Option.some.inj ho.symm
        clear ho
        have e3 := hO 3 (by kernel_rfl)
        simp only [eval_tmp, List.getElem?_toArray, List.getElem?_cons_succ, List.getElem?_cons_zero, Option.getD_some] at e3
        have ev3 := Lib.hid ((eval_tmp FA 3).trans e3)
        have ev98 : FA.eval (.tmp 98) = _ := hD 1 98 (by kernel_rfl)
        have e98 := (eval_tmp FA 98).symm.trans ev98
        replace ev98 := Lib.hid ev98
        clear hO hD
        refine wanted_if rfl ?_
        refine wp_stA 129 (.tmp 3) (.tmp 98) rfl (wyC s6 sh sl s6 dh dl ht) (wyC false 0 0 false 0 0 0) rfl (wyC_one _ _ _ _ _ _ _) ev3.out ev98.out hS (szRWy _ _ _ _ _ _ _) ?_
        intro w'' hn hg
        exact hK.out undef _ (Chg.one hg rfl) hn trivial
      apply StepsC.one (MC.eq _) 5 rfl (by decide)
      · intro o ho FA w' hC hO hD K hK
        obtain rfl := Option.some.inj ho.symm
        clear ho
        clear hO hD
        go_simp
        exact hK.out _ _ (Ex.refl _) rfl
      refine StepsC.fin_ (fun vs w' hC hS hp => ?_)
      have p0 : vs 0 = _ := hp 0 (by omega) rfl
      have p1 : vs 1 = _ := hp 1 (by omega) rfl
      have p2 : vs 2 = _ := hp 2 (by omega) rfl
      have p4 : vs 4 = _ := hp 4 (by omega) rfl
      clear hp
      simp only [List.take_succ_cons, List.take_zero, List.drop_succ_cons, List.drop_zero, putAll, Nat.zero_add, Nat.reduceAdd, Act.put, List.setIfInBounds_toArray, List.set_cons_zero, List.set_cons_succ, p0, p1, p2, p4]
      clear p0 p1 p2 p4
      clear vs
      replace hl := hl.chg hC (fun a ha h => by have h' : a.block = w.heap.size := h; have := hf a ha; omega)
      replace be := be.trans (hC.below (B := w.heap.size) (fun b hb => by have : b = w.heap.size := hb; omega) be.size)
      go_wp2
      refine bodyPost_o3 Try.results73 rfl rfl rfl (Bk.range hS) y1 y2 (szRWy _ _ _ _ _ _ _) rfl ?_
      exact RetTW.mk hl be
    ·
      have f1 : ((nx : Int) != 4) = true := by rw [hnr]; rfl
      have f2 : ((nx : Int) == 41) = true := by rw [hnr]; rfl
      have f3 : ((nx : Int) != 41) = false := by rw [hnr]; rfl
      clear hnr
      go_wp2_with fail
      refine (refSix _ _ _ _ _ hl _ _ _ s).mono ?_
      rintro e w1 ⟨rfl, rfl⟩
      go_wp2_with fail
      refine (refFault _ _ _ _ s _).mono ?_
      rintro e w1 ⟨rfl, rfl⟩
      go_upto_region 24 with (fail)
      have nX : ¬ (fun b => b = w.heap.size) g8 := fun h => by have h' : g8 = w.heap.size := h; omega
      go_wp2
      refine wp_suS (fun b => b = w.heap.size) 5 99 2 [3] rfl (by kernel_rfl) (by kernel_rfl) (fun k w' => Bk w' w.heap.size 129 (if k = 0 then wyC false 0 0 false 0 0 0 else wyC s6 sh sl s6 dh dl ht)) (fun k w w' h h' => h.later h'.below) (b3) ?_
      apply StepsC.one (MC.eq _) 1 rfl (by decide)
      · intro o ho FA w' hC hO hD K hK
        obtain rfl := Option.some.inj ho.symm
        clear ho
        have e6 := hO 6 (by kernel_rfl)
        simp only [eval_tmp, List.getElem?_toArray, List.getElem?_cons_succ, List.getElem?_cons_zero, Option.getD_some] at e6
        have ev6 := Lib.hid ((eval_tmp FA 6).trans e6)
        clear hO hD
        go_simp
        exact hK.out _ _ (Ex.refl _) rfl
      apply StepsC.one (MC.eq _) 2 rfl (by decide)
      · intro o ho FA w' hC hO hD K hK
        obtain rfl := Option.some.inj ho.symm
        clear ho
        have e8 := hO 8 (by kernel_rfl)
        simp only [eval_tmp, List.getElem?_toArray, List.getElem?_cons_succ, List.getElem?_cons_zero, Option.getD_some] at e8
        have ev8 := Lib.hid ((eval_tmp FA 8).trans e8)
        clear hO hD
        refine wanted_if rfl ?_
        refine wp_ldA 129 (.tmp 8) rfl (wyC s6 sh sl s6 dh dl ht) ev8.out (hX.chg hC nX) (whole_ _) y1 y2 (szRWy _ _ _ _ _ _ _) ?_
        exact hK.out _ _ (Ex.refl _) rfl
      apply StepsC.one (MC.eq _) 3 rfl (by decide)
      · intro o ho FA w' hC hO hD K hK
        obtain rfl := Option.some.inj ho.symm
        clear ho
        have ev97 : FA.eval (.tmp 97) = _ := hD 0 97 (by kernel_rfl)
        have e97 := (eval_tmp FA 97).symm.trans ev97
        replace ev97 := Lib.hid ev97
        clear hO hD
        go_simp
        exact hK.out _ _ (Ex.refl _) rfl
      apply StepsC.mov MC.any 4 0 rfl rfl rfl
      · intro o ho FA w' hC hO hD hS K hK
        obtain rfl := Option.some.inj ho.symm
        clear ho
        have e3 := hO 3 (by kernel_rfl)
        simp only [eval_tmp, List.getElem?_toArray, List.getElem?_cons_succ, List.getElem?_cons_zero, Option.getD_some] at e3
        have ev3 := Lib.hid ((eval_tmp FA 3).trans e3)
        have ev98 : FA.eval (.tmp 98) = _ := hD 1 98 (by kernel_rfl)
        have e98 := (eval_tmp FA 98).symm.trans ev98
        replace ev98 := Lib.hid ev98
        clear hO hD
        refine wanted_if rfl ?_
        refine wp_stA 129 (.tmp 3) (.tmp 98) rfl (wyC s6 sh sl s6 dh dl ht) (wyC false 0 0 false 0 0 0) rfl (wyC_one _ _ _ _ _ _ _) ev3.out ev98.out hS (szRWy _ _ _ _ _ _ _) ?_
        intro w'' hn hg
        exact hK.out undef _ (Chg.one hg rfl) hn trivial
      apply StepsC.one (MC.eq _) 5 rfl (by decide)
      · intro o ho FA w' hC hO hD K hK
        obtain rfl := Option.some.inj ho.symm
        clear ho
        clear hO hD
        go_simp
        exact hK.out _ _ (Ex.refl _) rfl
      refine StepsC.fin_ (fun vs w' hC hS hp => ?_)
      have p0 : vs 0 = _ := hp 0 (by omega) rfl
      have p1 : vs 1 = _ := hp 1 (by omega) rfl
      have p2 : vs 2 = _ := hp 2 (by omega) rfl
      have p4 : vs 4 = _ := hp 4 (by omega) rfl
      clear hp
      simp only [List.take_succ_cons, List.take_zero, List.drop_succ_cons, List.drop_zero, putAll, Nat.zero_add, Nat.reduceAdd, Act.put, List.setIfInBounds_toArray, List.set_cons_zero, List.set_cons_succ, p0, p1, p2, p4]
      clear p0 p1 p2 p4
      clear vs
      replace hl := hl.chg hC (fun a ha h => by have h' : a.block = w.heap.size := h; have := hf a ha; omega)
      replace be := be.trans (hC.below (B := w.heap.size) (fun b hb => by have : b = w.heap.size := hb; omega) be.size)
      go_wp2
      refine bodyPost_o3 Try.results73 rfl rfl rfl (Bk.range hS) y1 y2 (szRWy _ _ _ _ _ _ _) rfl ?_
      exact RetTW.mk hl be
set_option maxHeartbeats 4000000 in
set_option maxRecDepth 100000 in
theorem refU4 (A : Option Addr) (n c : Nat) (l : List UInt8) (w : World) (h : Rb w A n c l) (s0 : Sx l 4 false 0) (ts ln id : Nat) (st mo : Bool) (fo tl pr sm sa da : Nat) (o load : List UInt8) (E1 E2 : Int) (hEff : ((E1 == 0) = false ∧ E2 = E1) ∨ (E1 = 0 ∧ mo = true ∧ E2 = 21) ∨ (E1 = 0 ∧ mo = false ∧ decide (0 < (fo : Int)) = true ∧ E2 = 21) ∨ (E1 = 0 ∧ mo = false ∧ decide (0 < (fo : Int)) = false ∧ E2 = 0)) (ok : Bool) (E : Int) (F : Fate load pr E2 ok E) (HP : ∀ w', Below w.heap.size w w' → Calls Try.prog 45 #[.slice A n c] w' (RetPE w' ts ln id st mo fo tl pr sm sa da o load E1)) : Calls Try.prog 73 #[.slice A n c] w (RetTF w load false 0 sa false 0 da tl ok E) := by
  obtain ⟨dy, y1, y2⟩ := rowRWy
  obtain ⟨du, u1, u2⟩ := rowR4
  obtain ⟨dv, v1, v2⟩ : ∃ d, Try.prog.underlying 29 = some d ∧ d.isRow = true := ⟨_, Try.underlying29, rfl⟩
  have HS0 := Lib.hid (fun w (h : Rb w A n c l) => refSix A n c l w h _ _ _ s0)
  have HF0 := Lib.hid (fun w => refFault l _ _ _ s0 w)
  replace HP := Lib.hid HP
  clear s0
  have b3 : Bk (w.alloc (.cells #[.bool false, .int .u64 0, .int .u64 0, .bool false, .int .u64 0, .int .u64 0, .int .u8 0] 129)) w.heap.size 129 (wyC false 0 0 false 0 0 0) := Bk.new w 129 #[.bool false, .int .u64 0, .int .u64 0, .bool false, .int .u64 0, .int .u64 0, .int .u8 0]
  have be : Below w.heap.size w (w.alloc (.cells #[.bool false, .int .u64 0, .int .u64 0, .bool false, .int .u64 0, .int .u64 0, .int .u8 0] 129)) := Below.allocS (Below.refl _ _) _
  go_enter Try.func73, Try.ntmps73
  go_upto_region 1 with (fail)
  have zV : w.heap.size + 1 ≤ (w.alloc (.cells #[.bool false, .int .u64 0, .int .u64 0, .bool false, .int .u64 0, .int .u64 0, .int .u8 0] 129)).heap.size := by simp
  generalize w.alloc (.cells #[.bool false, .int .u64 0, .int .u64 0, .bool false, .int .u64 0, .int .u64 0, .int .u8 0] 129) = V at *
  have zb3 : w.heap.size < V.heap.size := zV
  clear zV
  go_wp2_with fail
  refine (HS0.out _ (h.later be)).mono ?_
  rintro e w1 ⟨rfl, rfl⟩
  go_wp2_with fail
  refine (HF0.out _).mono ?_
  rintro e w1 ⟨rfl, rfl⟩
  go_upto_region 7 with (fail)
  have hX : Bk (V.alloc (.cells #[.bool false, .int .u64 0, .int .u64 0, .bool false, .int .u64 0, .int .u64 0, .int .u8 0] 129)) V.heap.size 129 (wyC false 0 0 false 0 0 0) := Bk.new V 129 #[.bool false, .int .u64 0, .int .u64 0, .bool false, .int .u64 0, .int .u64 0, .int .u8 0]
  replace b3 := b3.alloc (.cells #[.bool false, .int .u64 0, .int .u64 0, .bool false, .int .u64 0, .int .u64 0, .int .u8 0] 129)
  replace be := Below.allocS be (.cells #[.bool false, .int .u64 0, .int .u64 0, .bool false, .int .u64 0, .int .u64 0, .int .u8 0] 129)
  have zg : V.heap.size < (V.alloc (.cells #[.bool false, .int .u64 0, .int .u64 0, .bool false, .int .u64 0, .int .u64 0, .int .u8 0] 129)).heap.size := by simp
  generalize V.alloc (.cells #[.bool false, .int .u64 0, .int .u64 0, .bool false, .int .u64 0, .int .u64 0, .int .u8 0] 129) = V1 at *
  generalize V.heap.size = g8 at *
  go_wp2_with fail
  refine (HP.out _ be).mono ?_
  rintro e w1 ⟨Ao, no, ko, A1, n1, k1, bs1, d1, rfl, rfl, -, hl, hf⟩
  go_upto_region 12 with (refine at_op (.store 83 (.tmp 13) (.tmp 47)) rfl ?_; refine wpList_stA (t := 83) 83 (.tmp 13) (.tmp 47) rfl rfl (h4C ts (ln : Int) id st mo (fo : Int) tl pr sm false 0 sa false 0 da Ao no ko) (h4C 0 0 0 false false 0 0 0 0 false 0 0 false 0 0 none 0 0) rfl (h4C_one _ _ _ _ _ _ _ _ _ _ _ _ _ _ _ _ _ _) rfl rfl ?_ (szR4 _ _ _ _ _ _ _ _ _ _ _ _ _ _ _ _ _ _) ?_; (· refine Bk.newK _ _ _ ?_ rfl; simp [size_plus]); intro W2 hH gr2)
  have z0 := be.size
  have b2 := below_grown (Below.allocS (below_plus V1 bs1 d1) _) gr2 (by omega)
  replace be := be.trans (b2.mono z0)
  replace b3 := b3.later b2
  replace hX := hX.later b2
  replace hl := hl.later (below_grown (Below.allocS (Below.refl _ _) _) gr2 (by simp [size_plus]))
  have hgh : g8 < V1.heap.size + bs1.length := by omega
  clear b2 gr2
  generalize V1.heap.size + bs1.length = gh at *
  have nH : ¬ (fun b => b = g8) gh := fun h => by have h' : gh = g8 := h; omega
  go_wp2
  refine wp_suS (fun b => b = g8) 15 99 2 [13] rfl (by kernel_rfl) (by kernel_rfl) (fun k w' => Bk w' g8 129 (if k = 0 then wyC false 0 0 false 0 0 0 else wyC false 0 sa false 0 da tl)) (fun k w w' h h' => h.later h'.below) (hX) ?_
  apply StepsC.one (MC.eq _) 1 rfl (by decide)
  · intro o ho FA w' hC hO hD K hK
    obtain rfl := Option.some.inj ho.symm
    clear ho
    have e14 := hO 14 (by kernel_rfl)
    simp only [eval_tmp, List.getElem?_toArray, List.getElem?_cons_succ, List.getElem?_cons_zero, Option.getD_some] at e14
    have ev14 := Lib.hid ((eval_tmp FA 14).trans e14)
    clear hO hD
    go_simp
    exact hK.out _ _ (Ex.refl _) rfl
  apply StepsC.one (MC.eq _) 2 rfl (by decide)
  · intro o ho FA w' hC hO hD K hK
    obtain rfl := Option.some.inj ho.symm
    clear ho
    have e13 := hO 13 (by kernel_rfl)
    simp only [eval_tmp, List.getElem?_toArray, List.getElem?_cons_succ, List.getElem?_cons_zero, Option.getD_some] at e13
    have ev13 := Lib.hid ((eval_tmp FA 13).trans e13)
    clear hO hD
    go_simp
    exact hK.out _ _ (Ex.refl _) rfl
  apply StepsC.one (MC.eq _) 3 rfl (by decide)
  · intro o ho FA w' hC hO hD K hK
    obtain rfl := Option.some.inj ho.symm
    clear ho
    have ev51 : FA.eval (.tmp 51) = _ := hD 1 51 (by kernel_rfl)
    have e51 := (eval_tmp FA 51).symm.trans ev51
    replace ev51 := Lib.hid ev51
    clear hO hD
    refine wanted_if rfl ?_
    refine wp_ld1 5 (.tmp 51) rfl ev51.out (hH.chg hC nH) rfl Try.underlying5 rfl ?_
    exact hK.out _ _ (Ex.refl _) rfl
  apply StepsC.one (MC.eq _) 4 rfl (by decide)
  · intro o ho FA w' hC hO hD K hK
    obtain rfl := Option.some.inj ho.symm
    clear ho
    have e13 := hO 13 (by kernel_rfl)
    simp only [eval_tmp, List.getElem?_toArray, List.getElem?_cons_succ, List.getElem?_cons_zero, Option.getD_some] at e13
    have ev13 := Lib.hid ((eval_tmp FA 13).trans e13)
    clear hO hD
    go_simp
    exact hK.out _ _ (Ex.refl _) rfl
  apply StepsC.one (MC.eq _) 5 rfl (by decide)
  · intro o ho FA w' hC hO hD K hK
    obtain rfl := Option.some.inj ho.symm
    clear ho
    have ev53 : FA.eval (.tmp 53) = _ := hD 3 53 (by kernel_rfl)
    have e53 := (eval_tmp FA 53).symm.trans ev53
    replace ev53 := Lib.hid ev53
    clear hO hD
    refine wanted_if rfl ?_
    refine wp_ldA 29 (.tmp 53) rfl ([.bool false, .int .u64 (0 : Int), .int .u64 (sa : Int)]) ev53.out (hH.chg hC nH) rfl v1 v2 (szAd _ _ _) ?_
    exact hK.out _ _ (Ex.refl _) rfl
  apply StepsC.one (MC.eq _) 6 rfl (by decide)
  · intro o ho FA w' hC hO hD K hK
    obtain rfl := Option.some.inj ho.symm
    clear ho
    have e13 := hO 13 (by kernel_rfl)
    simp only [eval_tmp, List.getElem?_toArray, List.getElem?_cons_succ, List.getElem?_cons_zero, Option.getD_some] at e13
    have ev13 := Lib.hid ((eval_tmp FA 13).trans e13)
    clear hO hD
    go_simp
    exact hK.out _ _ (Ex.refl _) rfl
  apply StepsC.one (MC.eq _) 7 rfl (by decide)
  · intro o ho FA w' hC hO hD K hK
    obtain rfl := Option.some.inj ho.symm
    clear ho
    have ev55 : FA.eval (.tmp 55) = _ := hD 5 55 (by kernel_rfl)
    have e55 := (eval_tmp FA 55).symm.trans ev55
    replace ev55 := Lib.hid ev55
    clear hO hD
    refine wanted_if rfl ?_
    refine wp_ldA 29 (.tmp 55) rfl ([.bool false, .int .u64 (0 : Int), .int .u64 (da : Int)]) ev55.out (hH.chg hC nH) rfl v1 v2 (szAd _ _ _) ?_
    exact hK.out _ _ (Ex.refl _) rfl
  apply StepsC.one (MC.eq _) 8 rfl (by decide)
  · intro o ho FA w' hC hO hD K hK
    obtain rfl := Option.some.inj ho.symm
    clear ho
    have e13 := hO 13 (by kernel_rfl)
    simp only [eval_tmp, List.getElem?_toArray, List.getElem?_cons_succ, List.getElem?_cons_zero, Option.getD_some] at e13
    have ev13 := Lib.hid ((eval_tmp FA 13).trans e13)
    clear hO hD
    go_simp
    exact hK.out _ _ (Ex.refl _) rfl
  apply StepsC.one (MC.eq _) 9 rfl (by decide)
  · intro o ho FA w' hC hO hD K hK
    obtain rfl := Option.some.inj ho.symm
    clear ho
    have ev57 : FA.eval (.tmp 57) = _ := hD 7 57 (by kernel_rfl)
    have e57 := (eval_tmp FA 57).symm.trans ev57
    replace ev57 := Lib.hid ev57
    clear hO hD
    refine wanted_if rfl ?_
    refine wp_ld1 5 (.tmp 57) rfl ev57.out (hH.chg hC nH) rfl Try.underlying5 rfl ?_
    exact hK.out _ _ (Ex.refl _) rfl
  apply StepsC.one (MC.eq _) 10 rfl (by decide)
  · intro o ho FA w' hC hO hD K hK
    obtain rfl := Option.some.inj ho.symm
    clear ho
    have ev54 : FA.eval (.tmp 54) = _ := hD 4 54 (by kernel_rfl)
    have e54 := (eval_tmp FA 54).symm.trans ev54
    replace ev54 := Lib.hid ev54
    have ev56 : FA.eval (.tmp 56) = _ := hD 6 56 (by kernel_rfl)
    have e56 := (eval_tmp FA 56).symm.trans ev56
    replace ev56 := Lib.hid ev56
    have ev58 : FA.eval (.tmp 58) = _ := hD 8 58 (by kernel_rfl)
    have e58 := (eval_tmp FA 58).symm.trans ev58
    replace ev58 := Lib.hid ev58
    clear hO hD
    go_simp
    exact hK.out _ _ (Ex.refl _) rfl
  apply StepsC.one (MC.eq _) 11 rfl (by decide)
  · intro o ho FA w' hC hO hD K hK
    obtain rfl := Option.some.inj ho.symm
    clear ho
    have e15 := hO 15 (by kernel_rfl)
    simp only [eval_tmp, List.getElem?_toArray, List.getElem?_cons_succ, List.getElem?_cons_zero, Option.getD_some] at e15
    have ev15 := Lib.hid ((eval_tmp FA 15).trans e15)
    clear hO hD
    go_simp
    exact hK.out _ _ (Ex.refl _) rfl
  apply StepsC.one (MC.eq _) 12 rfl (by decide)
  · intro o ho FA w' hC hO hD K hK
    obtain rfl := Option.some.inj ho.symm
    clear ho
    have ev50 : FA.eval (.tmp 50) = _ := hD 0 50 (by kernel_rfl)
    have e50 := (eval_tmp FA 50).symm.trans ev50
    replace ev50 := Lib.hid ev50
    clear hO hD
    go_simp
    exact hK.out _ _ (Ex.refl _) rfl
  apply StepsC.one (MC.eq _) 13 rfl (by decide)
  · intro o ho FA w' hC hO hD K hK
    obtain rfl := Option.some.inj ho.symm
    clear ho
    have ev52 : FA.eval (.tmp 52) = _ := hD 2 52 (by kernel_rfl)
    have e52 := (eval_tmp FA 52).symm.trans ev52
    replace ev52 := Lib.hid ev52
    clear hO hD
    go_simp
    exact hK.out _ _ (Ex.refl _) rfl
  apply StepsC.mov MC.any 14 0 rfl rfl rfl
  · intro o ho FA w' hC hO hD hS K hK
    obtain rfl := Option.some.inj ho.symm
    clear ho
    have e8 := hO 8 (by kernel_rfl)
    simp only [eval_tmp, List.getElem?_toArray, List.getElem?_cons_succ, List.getElem?_cons_zero, Option.getD_some] at e8
    have ev8 := Lib.hid ((eval_tmp FA 8).trans e8)
    have ev59 : FA.eval (.tmp 59) = _ := hD 9 59 (by kernel_rfl)
    have e59 := (eval_tmp FA 59).symm.trans ev59
    replace ev59 := Lib.hid ev59
    clear hO hD
    refine wanted_if rfl ?_
    refine wp_stA 129 (.tmp 8) (.tmp 59) rfl (wyC false 0 sa false 0 da tl) (wyC false 0 0 false 0 0 0) rfl (wyC_one _ _ _ _ _ _ _) ev8.out ev59.out hS (szRWy _ _ _ _ _ _ _) ?_
    intro w'' hn hg
    exact hK.out undef _ (Chg.one hg rfl) hn trivial
  apply StepsC.one (MC.eq _) 15 rfl (by decide)
  · intro o ho FA w' hC hO hD K hK
    obtain rfl := Option.some.inj ho.symm
    clear ho
    have ev60 : FA.eval (.tmp 60) = _ := hD 10 60 (by kernel_rfl)
    have e60 := (eval_tmp FA 60).symm.trans ev60
    replace ev60 := Lib.hid ev60
    clear hO hD
    go_simp
    exact hK.out _ _ (Ex.refl _) rfl
  refine StepsC.fin_ (fun vs w' hC hS hp => ?_)
  have p0 : vs 0 = _ := hp 0 (by omega) rfl
  have p1 : vs 1 = _ := hp 1 (by omega) rfl
  have p2 : vs 2 = _ := hp 2 (by omega) rfl
  have p3 : vs 3 = _ := hp 3 (by omega) rfl
  have p4 : vs 4 = _ := hp 4 (by omega) rfl
  have p5 : vs 5 = _ := hp 5 (by omega) rfl
  have p6 : vs 6 = _ := hp 6 (by omega) rfl
  have p7 : vs 7 = _ := hp 7 (by omega) rfl
  have p8 : vs 8 = _ := hp 8 (by omega) rfl
  have p9 : vs 9 = _ := hp 9 (by omega) rfl
  have p10 : vs 10 = _ := hp 10 (by omega) rfl
  have p11 : vs 11 = _ := hp 11 (by omega) rfl
  have p12 : vs 12 = _ := hp 12 (by omega) rfl
  have p14 : vs 14 = _ := hp 14 (by omega) rfl
  clear hp
  simp only [List.take_succ_cons, List.take_zero, List.drop_succ_cons, List.drop_zero, putAll, Nat.zero_add, Nat.reduceAdd, Act.put, List.setIfInBounds_toArray, List.set_cons_zero, List.set_cons_succ, p0, p1, p2, p3, p4, p5, p6, p7, p8, p9, p10, p11, p12, p14]
  clear p0 p1 p2 p3 p4 p5 p6 p7 p8 p9 p10 p11 p12 p14
  clear vs
  replace hX : Bk w' g8 129 (wyC false 0 sa false 0 da tl) := hS
  replace hl := hl.chg hC (fun a ha h => by have h' : a.block = g8 := h; have := hf a ha; omega)
  replace b3 := b3.chg hC (fun h => by have h' : w.heap.size = g8 := h; omega)
  replace hH := hH.chg hC nH
  replace be : Below w.heap.size w w' := be.trans (hC.below (B := w.heap.size) (fun b hb => by have : b = g8 := hb; omega) be.size)
  clear hS hC nH
  have qm : w'.cell? ⟨gh, 4, none⟩ = some (.bool mo) := hH.cell 4
  have qo : w'.cell? ⟨gh, 5, none⟩ = some (.int .i64 (fo : Int)) := hH.cell 5
  rcases hEff with ⟨hE1, rfl⟩ | ⟨rfl, hmo, rfl⟩ | ⟨rfl, hmo, hfo, rfl⟩ | ⟨rfl, hmo, hfo, rfl⟩
  ·
    have hE2 : (E2 != 0) = true := by rw [bne_iff_ne]; rw [beq_eq_false_iff_ne] at hE1; exact hE1
    rcases F with hE | ⟨hE, -, -⟩ | ⟨-, -, -, -, hE, -, -⟩ | ⟨-, -, -, hE, -⟩ | ⟨-, -, -, hE, -⟩
    rotate_left
    iterate 4 (exact absurd hE (by rw [beq_eq_false_iff_ne] at hE1; exact hE1))
    go_wp2_with (refine at_op (.store 129 (.tmp 3) (.tmp 74)) rfl ?_; refine wpList_stA (t := 129) 129 (.tmp 3) (.tmp 74) rfl rfl (wyC false 0 0 false 0 0 0) (wyC false 0 0 false 0 0 0) rfl (wyC_one _ _ _ _ _ _ _) rfl rfl (by with_reducible repeat (first | exact b3 | refine Bk.later ?_ (below_plus _ _ _) | refine Bk.alloc ?_ _)) (szRWy _ _ _ _ _ _ _) ?_; intro W9 h9 g9)
    refine bodyPost_o3 Try.results73 rfl rfl rfl h9.range y1 y2 (szRWy _ _ _ _ _ _ _) rfl ?_
    exact RetTW.mk Rb.nil_ (below_grown be g9 (by omega))
  ·
    replace qm : w'.cell? ⟨gh, 4, none⟩ = some (.bool true) := qm.trans (congrArg (fun b => some (Value.bool b)) hmo)
    clear hmo
    rcases F with hE | ⟨hE, -, -⟩ | ⟨-, -, -, -, hE, -, -⟩ | ⟨-, -, -, hE, -⟩ | ⟨-, -, -, hE, -⟩
    rotate_left
    iterate 4 (exact absurd hE (by decide))
    go_wp2_with (refine at_op (.store 129 (.tmp 3) (.tmp 74)) rfl ?_; refine wpList_stA (t := 129) 129 (.tmp 3) (.tmp 74) rfl rfl (wyC false 0 0 false 0 0 0) (wyC false 0 0 false 0 0 0) rfl (wyC_one _ _ _ _ _ _ _) rfl rfl (by with_reducible repeat (first | exact b3 | refine Bk.later ?_ (below_plus _ _ _) | refine Bk.alloc ?_ _)) (szRWy _ _ _ _ _ _ _) ?_; intro W9 h9 g9)
    refine bodyPost_o3 Try.results73 rfl rfl rfl h9.range y1 y2 (szRWy _ _ _ _ _ _ _) rfl ?_
    exact RetTW.mk Rb.nil_ (below_grown be g9 (by omega))
  ·
    replace qm : w'.cell? ⟨gh, 4, none⟩ = some (.bool false) := qm.trans (congrArg (fun b => some (Value.bool b)) hmo)
    clear hmo
    have hfn : decide (0 < fo) = true := by rw [← hfo]; congr 1; exact propext (by omega)
    rcases F with hE | ⟨hE, -, -⟩ | ⟨-, -, -, -, hE, -, -⟩ | ⟨-, -, -, hE, -⟩ | ⟨-, -, -, hE, -⟩
    rotate_left
    iterate 4 (exact absurd hE (by decide))
    go_wp2_with (refine at_op (.store 129 (.tmp 3) (.tmp 74)) rfl ?_; refine wpList_stA (t := 129) 129 (.tmp 3) (.tmp 74) rfl rfl (wyC false 0 0 false 0 0 0) (wyC false 0 0 false 0 0 0) rfl (wyC_one _ _ _ _ _ _ _) rfl rfl (by with_reducible repeat (first | exact b3 | refine Bk.later ?_ (below_plus _ _ _) | refine Bk.alloc ?_ _)) (szRWy _ _ _ _ _ _ _) ?_; intro W9 h9 g9)
    refine bodyPost_o3 Try.results73 rfl rfl rfl h9.range y1 y2 (szRWy _ _ _ _ _ _ _) rfl ?_
    exact RetTW.mk Rb.nil_ (below_grown be g9 (by omega))
  ·
    replace qm : w'.cell? ⟨gh, 4, none⟩ = some (.bool false) := qm.trans (congrArg (fun b => some (Value.bool b)) hmo)
    clear hmo
    have hfn : decide (0 < fo) = false := by rw [← hfo]; congr 1; exact propext (by omega)
    go_upto_region 15 with (fail)
    rcases F with hE | ⟨hE, h4, h41⟩ | ⟨N, B, _, s, hE, hnr, hE2⟩ | ⟨N, B, s, hE, hN⟩ | ⟨N, B, s, hE, hN⟩
    ·
      exact absurd hE (by decide)
    ·
      clear hE
      go_wp2_with (refine at_op (.store 129 (.tmp 3) (.tmp 82)) rfl ?_; refine wpList_stA (t := 129) 129 (.tmp 3) (.tmp 82) rfl rfl (wyC false 0 0 false 0 0 0) (wyC false 0 0 false 0 0 0) rfl (wyC_one _ _ _ _ _ _ _) rfl rfl (by with_reducible repeat (first | exact b3 | refine Bk.later ?_ (below_plus _ _ _) | refine Bk.alloc ?_ _)) (szRWy _ _ _ _ _ _ _) ?_; intro W9 h9 g9)
      refine bodyPost_o3 Try.results73 rfl rfl rfl h9.range y1 y2 (szRWy _ _ _ _ _ _ _) rfl ?_
      exact RetTW.mk Rb.nil_ (below_grown be g9 (by omega))
    ·
      clear hE
      rcases hnr with hnr | hnr
      ·
        have f1 : ((pr : Int) != 4) = false := by rw [hnr]; rfl
        have f2 : ((pr : Int) == 41) = false := by rw [hnr]; rfl
        have f3 : ((pr : Int) != 41) = true := by rw [hnr]; rfl
        clear hnr
        go_wp2_with fail
        refine (refSix _ _ _ _ _ hl _ _ _ s).mono ?_
        rintro e w1 ⟨rfl, rfl⟩
        go_wp2_with fail
        refine (refFault _ _ _ _ s _).mono ?_
        rintro e w1 ⟨rfl, rfl⟩
        go_wp2_with fail
        refine (refFault _ _ _ _ s _).mono ?_
        rintro e w1 ⟨rfl, rfl⟩
        go_wp2_with (refine at_op (.store 129 (.tmp 3) (.tmp 88)) rfl ?_; refine wpList_stA (t := 129) 129 (.tmp 3) (.tmp 88) rfl rfl (wyC false 0 0 false 0 0 0) (wyC false 0 0 false 0 0 0) rfl (wyC_one _ _ _ _ _ _ _) rfl rfl (by with_reducible repeat (first | exact b3 | refine Bk.later ?_ (below_plus _ _ _) | refine Bk.alloc ?_ _)) (szRWy _ _ _ _ _ _ _) ?_; intro W9 h9 g9)
        refine bodyPost_o3 Try.results73 rfl rfl rfl h9.range y1 y2 (szRWy _ _ _ _ _ _ _) rfl ?_
        exact RetTW.mk Rb.nil_ (below_grown be g9 (by omega))
      ·
        have f1 : ((pr : Int) != 4) = true := by rw [hnr]; rfl
        have f2 : ((pr : Int) == 41) = true := by rw [hnr]; rfl
        have f3 : ((pr : Int) != 41) = false := by rw [hnr]; rfl
        clear hnr
        go_wp2_with fail
        refine (refSix _ _ _ _ _ hl _ _ _ s).mono ?_
        rintro e w1 ⟨rfl, rfl⟩
        go_wp2_with fail
        refine (refFault _ _ _ _ s _).mono ?_
        rintro e w1 ⟨rfl, rfl⟩
        go_wp2_with fail
        refine (refFault _ _ _ _ s _).mono ?_
        rintro e w1 ⟨rfl, rfl⟩
        go_wp2_with (refine at_op (.store 129 (.tmp 3) (.tmp 88)) rfl ?_; refine wpList_stA (t := 129) 129 (.tmp 3) (.tmp 88) rfl rfl (wyC false 0 0 false 0 0 0) (wyC false 0 0 false 0 0 0) rfl (wyC_one _ _ _ _ _ _ _) rfl rfl (by with_reducible repeat (first | exact b3 | refine Bk.later ?_ (below_plus _ _ _) | refine Bk.alloc ?_ _)) (szRWy _ _ _ _ _ _ _) ?_; intro W9 h9 g9)
        refine bodyPost_o3 Try.results73 rfl rfl rfl h9.range y1 y2 (szRWy _ _ _ _ _ _ _) rfl ?_
        exact RetTW.mk Rb.nil_ (below_grown be g9 (by omega))
    ·
      clear hE
      rcases hN with ⟨rfl, rfl, hnr⟩ | ⟨rfl, rfl, hnr⟩
      ·
        have f1 : ((pr : Int) != 4) = false := by rw [hnr]; rfl
        have f2 : ((pr : Int) == 41) = false := by rw [hnr]; rfl
        have f3 : ((pr : Int) != 41) = true := by rw [hnr]; rfl
        clear hnr
        go_wp2_with fail
        refine (refSix _ _ _ _ _ hl _ _ _ s).mono ?_
        rintro e w1 ⟨rfl, rfl⟩
        go_wp2_with fail
        refine (refFault _ _ _ _ s _).mono ?_
        rintro e w1 ⟨rfl, rfl⟩
        go_wp2_with (refine at_op (.store 129 (.tmp 3) (.tmp 96)) rfl ?_; refine wpList_stA (t := 129) 129 (.tmp 3) (.tmp 96) rfl rfl (wyC false 0 0 false 0 0 0) (wyC false 0 0 false 0 0 0) rfl (wyC_one _ _ _ _ _ _ _) rfl rfl (by with_reducible repeat (first | exact b3 | refine Bk.later ?_ (below_plus _ _ _) | refine Bk.alloc ?_ _)) (szRWy _ _ _ _ _ _ _) ?_; intro W9 h9 g9)
        refine bodyPost_o3 Try.results73 rfl rfl rfl h9.range y1 y2 (szRWy _ _ _ _ _ _ _) rfl ?_
        exact RetTW.mk Rb.nil_ (below_grown be g9 (by omega))
      ·
        have f1 : ((pr : Int) != 4) = true := by rw [hnr]; rfl
        have f2 : ((pr : Int) == 41) = true := by rw [hnr]; rfl
        have f3 : ((pr : Int) != 41) = false := by rw [hnr]; rfl
        clear hnr
        go_wp2_with fail
        refine (refSix _ _ _ _ _ hl _ _ _ s).mono ?_
        rintro e w1 ⟨rfl, rfl⟩
        go_wp2_with fail
        refine (refFault _ _ _ _ s _).mono ?_
        rintro e w1 ⟨rfl, rfl⟩
        go_wp2_with (refine at_op (.store 129 (.tmp 3) (.tmp 96)) rfl ?_; refine wpList_stA (t := 129) 129 (.tmp 3) (.tmp 96) rfl rfl (wyC false 0 0 false 0 0 0) (wyC false 0 0 false 0 0 0) rfl (wyC_one _ _ _ _ _ _ _) rfl rfl (by with_reducible repeat (first | exact b3 | refine Bk.later ?_ (below_plus _ _ _) | refine Bk.alloc ?_ _)) (szRWy _ _ _ _ _ _ _) ?_; intro W9 h9 g9)
        refine bodyPost_o3 Try.results73 rfl rfl rfl h9.range y1 y2 (szRWy _ _ _ _ _ _ _) rfl ?_
        exact RetTW.mk Rb.nil_ (below_grown be g9 (by omega))
    ·
      clear hE
      rcases hN with ⟨rfl, rfl, hnr⟩ | ⟨rfl, rfl, hnr⟩
      ·
        have f1 : ((pr : Int) != 4) = false := by rw [hnr]; rfl
        have f2 : ((pr : Int) == 41) = false := by rw [hnr]; rfl
        have f3 : ((pr : Int) != 41) = true := by rw [hnr]; rfl
        clear hnr
        go_wp2_with fail
        refine (refSix _ _ _ _ _ hl _ _ _ s).mono ?_
        rintro e w1 ⟨rfl, rfl⟩
        go_wp2_with fail
        refine (refFault _ _ _ _ s _).mono ?_
        rintro e w1 ⟨rfl, rfl⟩
        go_upto_region 24 with (fail)
        have nX : ¬ (fun b => b = w.heap.size) g8 := fun h => by have h' : g8 = w.heap.size := h; omega
        go_wp2
        refine wp_suS (fun b => b = w.heap.size) 5 99 2 [3] rfl (by kernel_rfl) (by kernel_rfl) (fun k w' => Bk w' w.heap.size 129 (if k = 0 then wyC false 0 0 false 0 0 0 else wyC false 0 sa false 0 da tl)) (fun k w w' h h' => h.later h'.below) (b3) ?_
        apply StepsC.one (MC.eq _) 1 rfl (by decide)
        · intro o ho FA w' hC hO hD K hK
          obtain rfl := Option.some.inj ho.symm
          clear ho
          have e6 := hO 6 (by kernel_rfl)
          simp only [eval_tmp, List.getElem?_toArray, List.getElem?_cons_succ, List.getElem?_cons_zero, Option.getD_some] at e6
          have ev6 := Lib.hid ((eval_tmp FA 6).trans e6)
          clear hO hD
          go_simp
          exact hK.out _ _ (Ex.refl _) rfl
        apply StepsC.one (MC.eq _) 2 rfl (by decide)
        · intro o ho FA w' hC hO hD K hK
          obtain rfl := Option.some.inj ho.symm
          clear ho
          have e8 := hO 8 (by kernel_rfl)
          simp only [eval_tmp, List.getElem?_toArray, List.getElem?_cons_succ, List.getElem?_cons_zero, Option.getD_some] at e8
          have ev8 := Lib.hid ((eval_tmp FA 8).trans e8)
          clear hO hD
          refine wanted_if rfl ?_
          refine wp_ldA 129 (.tmp 8) rfl (wyC false 0 sa false 0 da tl) ev8.out (hX.chg hC nX) (whole_ _) y1 y2 (szRWy _ _ _ _ _ _ _) ?_
          exact hK.out _ _ (Ex.refl _) rfl
        apply StepsC.one (MC.eq _) 3 rfl (by decide)
        · intro o ho FA w' hC hO hD K hK
          obtain rfl := Option.some.inj ho.symm
          clear ho
          have ev97 : FA.eval (.tmp 97) = _ := hD 0 97 (by kernel_rfl)
          have e97 := (eval_tmp FA 97).symm.trans ev97
          replace ev97 := Lib.hid ev97
          clear hO hD
          go_simp
          exact hK.out _ _ (Ex.refl _) rfl
        apply StepsC.mov MC.any 4 0 rfl rfl rfl
        · intro o ho FA w' hC hO hD hS K hK
          obtain rfl := Option.some.inj ho.symm
          clear ho
          have e3 := hO 3 (by kernel_rfl)
          simp only [eval_tmp, List.getElem?_toArray, List.getElem?_cons_succ, List.getElem?_cons_zero, Option.getD_some] at e3
          have ev3 := Lib.hid ((eval_tmp FA 3).trans e3)
          have ev98 : FA.eval (.tmp 98) = _ := hD 1 98 (by kernel_rfl)
          have e98 := (eval_tmp FA 98).symm.trans ev98
          replace ev98 := Lib.hid ev98
          clear hO hD
          refine wanted_if rfl ?_
          refine wp_stA 129 (.tmp 3) (.tmp 98) rfl (wyC false 0 sa false 0 da tl) (wyC false 0 0 false 0 0 0) rfl (wyC_one _ _ _ _ _ _ _) ev3.out ev98.out hS (szRWy _ _ _ _ _ _ _) ?_
          intro w'' hn hg
          exact hK.out undef _ (Chg.one hg rfl) hn trivial
        apply StepsC.one (MC.eq _) 5 rfl (by decide)
        · intro o ho FA w' hC hO hD K hK
          obtain rfl := Option.some.inj ho.symm
          clear ho
          clear hO hD
          go_simp
          exact hK.out _ _ (Ex.refl _) rfl
        refine StepsC.fin_ (fun vs w' hC hS hp => ?_)
        have p0 : vs 0 = _ := hp 0 (by omega) rfl
        have p1 : vs 1 = _ := hp 1 (by omega) rfl
        have p2 : vs 2 = _ := hp 2 (by omega) rfl
        have p4 : vs 4 = _ := hp 4 (by omega) rfl
        clear hp
        simp only [List.take_succ_cons, List.take_zero, List.drop_succ_cons, List.drop_zero, putAll, Nat.zero_add, Nat.reduceAdd, Act.put, List.setIfInBounds_toArray, List.set_cons_zero, List.set_cons_succ, p0, p1, p2, p4]
        clear p0 p1 p2 p4
        clear vs
        replace hl := hl.chg hC (fun a ha h => by have h' : a.block = w.heap.size := h; have := hf a ha; omega)
        replace be := be.trans (hC.below (B := w.heap.size) (fun b hb => by have : b = w.heap.size := hb; omega) be.size)
        go_wp2
        refine bodyPost_o3 Try.results73 rfl rfl rfl (Bk.range hS) y1 y2 (szRWy _ _ _ _ _ _ _) rfl ?_
        exact RetTW.mk hl be
      ·
        have f1 : ((pr : Int) != 4) = true := by rw [hnr]; rfl
        have f2 : ((pr : Int) == 41) = true := by rw [hnr]; rfl
        have f3 : ((pr : Int) != 41) = false := by rw [hnr]; rfl
        clear hnr
        go_wp2_with fail
        refine (refSix _ _ _ _ _ hl _ _ _ s).mono ?_
        rintro e w1 ⟨rfl, rfl⟩
        go_wp2_with fail
        refine (refFault _ _ _ _ s _).mono ?_
        rintro e w1 ⟨rfl, rfl⟩
        go_upto_region 24 with (fail)
        have nX : ¬ (fun b => b = w.heap.size) g8 := fun h => by have h' : g8 = w.heap.size := h; omega
        go_wp2
        refine wp_suS (fun b => b = w.heap.size) 5 99 2 [3] rfl (by kernel_rfl) (by kernel_rfl) (fun k w' => Bk w' w.heap.size 129 (if k = 0 then wyC false 0 0 false 0 0 0 else wyC false 0 sa false 0 da tl)) (fun k w w' h h' => h.later h'.below) (b3) ?_
        apply StepsC.one (MC.eq _) 1 rfl (by decide)
        · intro o ho FA w' hC hO hD K hK
          obtain rfl := Option.some.inj ho.symm
          clear ho
          have e6 := hO 6 (by kernel_rfl)
          simp only [eval_tmp, List.getElem?_toArray, List.getElem?_cons_succ, List.getElem?_cons_zero, Option.getD_some] at e6
          have ev6 := Lib.hid ((eval_tmp FA 6).trans e6)
          clear hO hD
          go_simp
          exact hK.out _ _ (Ex.refl _) rfl
        apply StepsC.one (MC.eq _) 2 rfl (by decide)
        · intro o ho FA w' hC hO hD K hK
          obtain rfl := Option.some.inj ho.symm
          clear ho
          have e8 := hO 8 (by kernel_rfl)
          simp only [eval_tmp, List.getElem?_toArray, List.getElem?_cons_succ, List.getElem?_cons_zero, Option.getD_some] at e8
          have ev8 := Lib.hid ((eval_tmp FA 8).trans e8)
          clear hO hD
          refine wanted_if rfl ?_
          refine wp_ldA 129 (.tmp 8) rfl (wyC false 0 sa false 0 da tl) ev8.out (hX.chg hC nX) (whole_ _) y1 y2 (szRWy _ _ _ _ _ _ _) ?_
          exact hK.out _ _ (Ex.refl _) rfl
        apply StepsC.one (MC.eq _) 3 rfl (by decide)
        · intro o ho FA w' hC hO hD K hK
          obtain rfl := Option.some.inj ho.symm
          clear ho
          have ev97 : FA.eval (.tmp 97) = _ := hD 0 97 (by kernel_rfl)
          have e97 := (eval_tmp FA 97).symm.trans ev97
          replace ev97 := Lib.hid ev97
          clear hO hD
          go_simp
          exact hK.out _ _ (Ex.refl _) rfl
        apply StepsC.mov MC.any 4 0 rfl rfl rfl
        · intro o ho FA w' hC hO hD hS K hK
          obtain rfl := Option.some.inj ho.symm
          clear ho
          have e3 := hO 3 (by kernel_rfl)
          simp only [eval_tmp, List.getElem?_toArray, List.getElem?_cons_succ, List.getElem?_cons_zero, Option.getD_some] at e3
          have ev3 := Lib.hid ((eval_tmp FA 3).trans e3)
          have ev98 : FA.eval (.tmp 98) = _ := hD 1 98 (by kernel_rfl)
          have e98 := (eval_tmp FA 98).symm.trans ev98
          replace ev98 := Lib.hid ev98
          clear hO hD
          refine wanted_if rfl ?_
          refine wp_stA 129 (.tmp 3) (.tmp 98) rfl (wyC false 0 sa false 0 da tl) (wyC false 0 0 false 0 0 0) rfl (wyC_one _ _ _ _ _ _ _) ev3.out ev98.out hS (szRWy _ _ _ _ _ _ _) ?_
          intro w'' hn hg
          exact hK.out undef _ (Chg.one hg rfl) hn trivial
        apply StepsC.one (MC.eq _) 5 rfl (by decide)
        · intro o ho FA w' hC hO hD K hK
          obtain rfl := Option.some.inj ho.symm
          clear ho
          clear hO hD
          go_simp
          exact hK.out _ _ (Ex.refl _) rfl
        refine StepsC.fin_ (fun vs w' hC hS hp => ?_)
        have p0 : vs 0 = _ := hp 0 (by omega) rfl
        have p1 : vs 1 = _ := hp 1 (by omega) rfl
        have p2 : vs 2 = _ := hp 2 (by omega) rfl
        have p4 : vs 4 = _ := hp 4 (by omega) rfl
        clear hp
        simp only [List.take_succ_cons, List.take_zero, List.drop_succ_cons, List.drop_zero, putAll, Nat.zero_add, Nat.reduceAdd, Act.put, List.setIfInBounds_toArray, List.set_cons_zero, List.set_cons_succ, p0, p1, p2, p4]
        clear p0 p1 p2 p4
        clear vs
        replace hl := hl.chg hC (fun a ha h => by have h' : a.block = w.heap.size := h; have := hf a ha; omega)
        replace be := be.trans (hC.below (B := w.heap.size) (fun b hb => by have : b = w.heap.size := hb; omega) be.size)
        go_wp2
        refine bodyPost_o3 Try.results73 rfl rfl rfl (Bk.range hS) y1 y2 (szRWy _ _ _ _ _ _ _) rfl ?_
        exact RetTW.mk hl be
end Go.Proofs.Ytldecdeiibfekaa
